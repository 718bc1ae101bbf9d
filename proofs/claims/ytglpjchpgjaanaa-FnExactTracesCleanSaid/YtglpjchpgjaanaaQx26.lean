-- Written by the kit's print.py for all laws of the seat at once (one namespace), by a program of this session.
import Derived.Test.YtglpjchpgjaanaaQx0
import Derived.Test.YtglpjchpgjaanaaQx2
import Derived.Test.YtglpjchpgjaanaaQx19
import Derived.Test.YtglpjchpgjaanaaQx22
namespace Go.Proofs.Ytglpjchpgjaanaa.Q
open Go.RowKit Go.Proofs.YtglpjchpgjaanaaW.PrintWords Go.Proofs.YtglpjchpgjaanaaW.PrintLast Go.Proofs.YtglpjchpgjaanaaW.PrintMore
attribute [local go_sem] max2_int min2_int max_two min_two max_three min_three max_four min_four   -- for this text's walks alone
set_option linter.unusedVariables false
set_option linter.unusedSimpArgs false

/-! ### laws_toIntS: function 35 -/
def laws_toIntS.l0 : Nat → List Int → List Int → Int → Option (List Int)
 | 0, _, _, _ => none
 | k + 1, x0, x3, x4 => if x4 < (x0.length : Int) then (if 0 ≤ x4 then (if x4 < (x3.length : Int) then (laws_toIntS.l0 k x0 (x3.set (x4 : Int).toNat (rd x0 x4)) (wrap64 (x4 + 1))) else (none)) else (none)) else (some x3)
def laws_toIntS.f (k : Nat) (l0 : List Int) : Option (List Int) := if 0 ≤ (l0.length : Int) then (if ((l0.length : Int) : Int).toNat ≤ 35184372088832 then (laws_toIntS.l0 k l0 (List.replicate ((l0.length : Int) : Int).toNat 0) 0) else (none)) else (none)
theorem laws_toIntS.mono_l : ∀ k, (∀ y0 y1 y2, LeO (laws_toIntS.l0 k y0 y1 y2) (laws_toIntS.l0 (k + 1) y0 y1 y2))
 | 0 => fun _ _ _ r h => by simp [laws_toIntS.l0] at h
 | k + 1 => by
  have ih0 := laws_toIntS.mono_l k
  ·intro y0 y1 y2
   unfold laws_toIntS.l0
   repeat' first
   | (with_reducible exact ih0 _ _ _)
   | (with_reducible exact LeO.refl _)
   | (with_reducible exact LeO.none _)
   | (with_reducible refine LeO.ite ?_ ?_)
   | (with_reducible refine LeO.bind ?_ (fun _ => ?_))
   | exact ih0 _ _ _
   | exact LeO.none _
   | refine LeO.ite ?_ ?_
   | refine LeO.bind ?_ (fun _ => ?_)
theorem laws_toIntS.mono : ∀ a0 k, LeO (laws_toIntS.f k a0) (laws_toIntS.f (k + 1) a0) := by
 intro a0 k
 have ih0 := laws_toIntS.mono_l k
 unfold laws_toIntS.f
 repeat' first
   | (with_reducible exact ih0 _ _ _)
   | (with_reducible exact LeO.refl _)
   | (with_reducible exact LeO.none _)
   | (with_reducible refine LeO.ite ?_ ?_)
   | (with_reducible refine LeO.bind ?_ (fun _ => ?_))
   | exact ih0 _ _ _
   | exact LeO.none _
   | refine LeO.ite ?_ ?_
   | refine LeO.bind ?_ (fun _ => ?_)
set_option maxHeartbeats 8000000 in
set_option maxRecDepth 100000 in
theorem laws_toIntS.calls (k : Nat) (A0 : Option Addr) (c0 : Nat) (l0 : List Int) (r : List Int) (w : World) (hr0 : Kd.C (Kd.int .i64) w A0 l0.length l0) (hc0 : l0.length ≤ c0) (h : laws_toIntS.f k l0 = some r) :
  Calls Try.prog 35 #[.slice A0 l0.length c0] w fun e w' => ∃ v0_ : Value, e = .returned (v0_) ∧ Kd.R (Kd.int .i64) 3 w' w.heap.size (fun _ => True) v0_ r ∧ Below w.heap.size w w' := by
 have HR0 := Aside0.mk hr0
 have HC0 := Aside0.mk hc0
 clear hr0 hc0
 have HB := Aside0.mk (Below.refl w.heap.size w)
 have H : (if 0 ≤ (l0.length : Int) then (if ((l0.length : Int) : Int).toNat ≤ 35184372088832 then (laws_toIntS.l0 k l0 (List.replicate ((l0.length : Int) : Int).toNat 0) 0) else (none)) else (none)) = some r := h
 clear h
 by_cases c2 : 0 ≤ (l0.length : Int)
 ·rw [if_pos c2] at H
  have c2b0 := eq_true c2
  have c2b1 : decide (0 ≤ (l0.length : Int)) = true := decide_eq_true c2
  clear c2
  by_cases c3 : ((l0.length : Int) : Int).toNat ≤ 35184372088832
  ·rw [if_pos c3] at H
   have c3b0 := eq_true c3
   have c3b1 : decide (((l0.length : Int) : Int).toNat ≤ 35184372088832) = true := decide_eq_true c3
   clear c3
   obtain ⟨y527, hy527⟩ : ∃ y_ : List Int, y_ = (List.replicate ((l0.length : Int) : Int).toNat 0) := ⟨_, rfl⟩
   replace H : (laws_toIntS.l0 k l0 y527 0) = some r := by first | (rw [hy527]; with_reducible exact H) | (have H2_ := (Option.bind_some _ _).symm.trans H; rw [hy527]; with_reducible exact H2_) | (have H2_ := (Option.bind_some _ _).symm.trans H; with_reducible exact H2_) | with_reducible exact H | (rw [hy527]; exact H) | exact H
   have Ny527 := Aside0.mk hy527
   clear hy527
   have H' := Aside0.mk H
   clear H
   go_enter Try.func35, Try.ntmps35
   go_wp2_with (first | ((with_reducible refine gate_dst (N := 7) rfl ?_); refine Kd.R_make (Kd.int .i64) _ 3 rfl (N := 7) rfl 33 _ _ rfl (l0.length : Int) rfl rfl Try.underlying33 (.int .i64 0) 8 info3 rfl (by decide) (by omega) 0 (ok := fun _ => True) (okp := fun _ => True) rfl (fun _ hk => hk) trivial (of_decide_eq_true pA) (Nat.le_trans (Nat.mul_le_mul_right _ (of_decide_eq_true pA : (l0.length : Int).toNat ≤ 35184372088832)) (by omega)) (Below.refl _ _) (Nat.le_refl _) ?_; intro v528 w4 ho5 hb hg_ hnew_; clear hg_ hnew_; (first | rw [← Ny527.out] at ho5 | (simp only [Int.reduceToNat] at ho5; rw [← Ny527.out] at ho5)); have n0_ := Aside0.mk (Kd.R_lower ho5 (below_size pB)); have n1_ := Aside0.mk (below_step pB hb); clear HB; have HO529 := n0_; have HB := n1_; clear n0_ n1_; clear hb ho5))
   go_loopg [4] k (fun kq v4 w' => ∃ (x3_1 : List Int) (x4_1 : Int), v4 = .int .i64 x4_1 ∧ Aside0 (laws_toIntS.l0 kq l0 x3_1 x4_1 = some r) ∧ Aside0 (kq ≤ k) ∧ Aside0 (Kd.R (Kd.int .i64) 3 w' w.heap.size (fun _ => True) v528 x3_1) ∧ Aside0 (Below w.heap.size w w'))
   case atStart => exact ⟨(y527), (0), pF, H', ⟨Nat.le_refl _⟩, ⟨pR HO529⟩, ⟨pB⟩⟩
   case round =>
    clear H'
    try clear c2
    try clear c2b0
    try clear c2b1
    try clear p2
    try clear c3
    try clear c3b0
    try clear c3b1
    obtain ⟨x3_1, x4_1, rfl, HA, HK1, HO_3, HB⟩ := hrel
    cases gk with
    | zero => exact absurd HA.out (by simp [laws_toIntS.l0])
    | succ k1 =>
     have H := HA.out
     clear HA
     simp only [laws_toIntS.l0] at H
     by_cases c6 : x4_1 < (l0.length : Int)
     ·rw [if_pos c6] at H
      have c6b0 : decide (x4_1 < (l0.length : Int)) = true := decide_eq_true c6
      clear c6
      by_cases c7 : 0 ≤ x4_1
      ·rw [if_pos c7] at H
       have c7b0 : decide (0 ≤ x4_1) = true := decide_eq_true c7
       clear c7
       by_cases c8 : x4_1 < (x3_1.length : Int)
       ·rw [if_pos c8] at H
        have c8b0 : decide (x4_1 < (x3_1.length : Int)) = true := decide_eq_true c8
        clear c8
        obtain ⟨y531, hy531⟩ : ∃ y_ : List Int, y_ = (x3_1.set (x4_1 : Int).toNat (rd l0 x4_1)) := ⟨_, rfl⟩
        replace H : (laws_toIntS.l0 k1 l0 y531 (wrap64 (x4_1 + 1))) = some r := by first | (rw [hy531]; with_reducible exact H) | (have H2_ := (Option.bind_some _ _).symm.trans H; rw [hy531]; with_reducible exact H2_) | (have H2_ := (Option.bind_some _ _).symm.trans H; with_reducible exact H2_) | with_reducible exact H | (rw [hy531]; exact H) | exact H
        have Ny531 := Aside0.mk hy531
        clear hy531
        have H' := Aside0.mk H
        clear H
        have p530 : 0 ≤ (x4_1 : Int) := of_decide_eq_true pA
        have q530 : x4_1 < (l0.length : Int) := of_decide_eq_true pA
        obtain ⟨ad530, e530, hx530_0⟩ := Kd.at_int HR0.out x4_1 p530 q530
        cases e530
        replace hx530_0 := (HB.out.cell (World.block_lt_of_cell? w _ hx530_0)).trans hx530_0
        replace p530 := eq_true p530
        replace q530 := eq_true q530
        have p9 : 0 ≤ (x4_1 : Int) := of_decide_eq_true pA
        have q9 : (x4_1 : Int) < ((x3_1.length : Int) : Int) := of_decide_eq_true pA
        obtain ⟨go9, co9, eo9, gb9, gl9, cl9, HG9⟩ := Kd.R_form HO_3.out (by omega)
        (first | cases eo9 | (injection eo9 with ea_ en_ ec_; (first | subst ea_ | (injection ea_ with ea_; subst ea_)); subst ec_; clear en_))
        have GB9 := Aside0.mk gb9
        have GG9 := Aside0.mk HG9
        clear gb9 gl9 HG9
        obtain ⟨hx9_0, hf9_0⟩ := Kd.R_celln 0 HO_3.out (x4_1 : Int) p9 q9
        replace p9 := eq_true p9
        replace q9 := eq_true q9
        have HP10 := Kd.R_putg HO_3.out (x4_1 : Int) (rd l0 x4_1)
        go_wp2_with (first | ((with_reducible refine gate_store (t := 3) (p := 20) rfl ?_); refine store_event (t := 3) (p := 20) (v := ?vo_w11) (w1 := (wr.setCell ⟨go9, (x4_1 : Int).toNat, none⟩ (.int .i64 (rd l0 x4_1)))) ?hg ?ho ?hn ?hr ?_; (case ho => rfl); (case hg => rfl); (case hn => rfl); (case hr => first | (go_simp; done) | (go_simp; rfl)); intro w11 hw; have hg : wr.grownBy w11 (some go9) := (by rw [hw]; exact HP10.2); have hp_ : Kd.R (Kd.int .i64) 3 w11 w.heap.size (fun _ => True) (.slice (some ⟨go9, 0, none⟩) x3_1.length co9) y531 := (by rw [hw, Ny531.out]; exact HP10.1); clear HP10; have n0_ := Aside0.mk (hp_); have n1_ := Aside0.mk ((by rw [hw]; exact below_set (HB.out) GB9.out : Below w.heap.size w w11)); clear HO_3; clear HB; have HO_3 := n0_; have HB := n1_; clear n0_ n1_; clear hg hw hp_))
        go_roundg k1
        case measure => have := HK1.out; omega
        case rel => exact ⟨(y531), (wrap64 (x4_1 + 1)), pF, H', ⟨by have := HK1.out; omega⟩, ⟨pR HO_3⟩, ⟨pB⟩⟩
       ·rw [if_neg c8] at H
        exact absurd H (by simp)
      ·rw [if_neg c7] at H
       exact absurd H (by simp)
     ·rw [if_neg c6] at H
      have c6b0 : decide (x4_1 < (l0.length : Int)) = false := decide_eq_false c6
      clear c6
      obtain rfl := Option.some.inj H
      go_wp2
      go_ret
      exact ⟨_, pE, pR HO_3, pB⟩
  ·rw [if_neg c3] at H
   exact absurd H (by simp)
 ·rw [if_neg c2] at H
  exact absurd H (by simp)

/-! ### laws_heldUseS: function 36 -/
def laws_heldUseS.l0 : Nat → List (S40) → Int → Int → Option (Int)
 | 0, _, _, _ => none
 | k + 1, x0, x1, x5 => if x5 < (x0.length : Int) then (if 0 ≤ x5 then (if ((rd_T40 x0 x5).f0) = x1 then (if ((rd_T40 x0 x5).f1) = (wrap64 (x1 + 1)) then (if (((rd_T40 x0 x5).f2) != ((Int.tmod (wrap64 ((wrap64 (x1 + 1)) + 1)) 3) == 0)) = true then (some (-1)) else (laws_heldUseS.l0 k x0 (wrap64 ((wrap64 ((wrap64 (x1 + 1)) + 1)) + 1)) (wrap64 (x5 + 1)))) else (some (-1))) else (some (-1))) else (none)) else (some x1)
def laws_heldUseS.f (k : Nat) (l0 : List (S40)) (a1 : Int) : Option (Int) := laws_heldUseS.l0 k l0 a1 0
theorem laws_heldUseS.mono_l : ∀ k, (∀ y0 y1 y2, LeO (laws_heldUseS.l0 k y0 y1 y2) (laws_heldUseS.l0 (k + 1) y0 y1 y2))
 | 0 => fun _ _ _ r h => by simp [laws_heldUseS.l0] at h
 | k + 1 => by
  have ih0 := laws_heldUseS.mono_l k
  ·intro y0 y1 y2
   unfold laws_heldUseS.l0
   repeat' first
   | (with_reducible exact ih0 _ _ _)
   | (with_reducible exact LeO.refl _)
   | (with_reducible exact LeO.none _)
   | (with_reducible refine LeO.ite ?_ ?_)
   | (with_reducible refine LeO.bind ?_ (fun _ => ?_))
   | exact ih0 _ _ _
   | exact LeO.none _
   | refine LeO.ite ?_ ?_
   | refine LeO.bind ?_ (fun _ => ?_)
theorem laws_heldUseS.mono : ∀ a0 a1 k, LeO (laws_heldUseS.f k a0 a1) (laws_heldUseS.f (k + 1) a0 a1) := by
 intro a0 a1 k
 have ih0 := laws_heldUseS.mono_l k
 unfold laws_heldUseS.f
 repeat' first
   | (with_reducible exact ih0 _ _ _)
   | (with_reducible exact LeO.refl _)
   | (with_reducible exact LeO.none _)
   | (with_reducible refine LeO.ite ?_ ?_)
   | (with_reducible refine LeO.bind ?_ (fun _ => ?_))
   | exact ih0 _ _ _
   | exact LeO.none _
   | refine LeO.ite ?_ ?_
   | refine LeO.bind ?_ (fun _ => ?_)
set_option maxHeartbeats 8000000 in
set_option maxRecDepth 100000 in
theorem laws_heldUseS.calls (k : Nat) (A0 : Option Addr) (c0 : Nat) (l0 : List (S40)) (a1 : Int) (r : Int) (w : World) (hr0 : Kd.C k40 w A0 l0.length l0) (hc0 : l0.length ≤ c0) (h : laws_heldUseS.f k l0 a1 = some r) :
  Calls Try.prog 36 #[.slice A0 l0.length c0, .int .i64 a1] w fun e w' => e = .returned (.int .i64 r) ∧ Drawn0 w w' := by
 have HR0 := Aside0.mk hr0
 have HC0 := Aside0.mk hc0
 clear hr0 hc0
 have H : (laws_heldUseS.l0 k l0 a1 0) = some r := h
 clear h
 have H' := Aside0.mk H
 clear H
 go_enter Try.func36, Try.ntmps36
 go_wp2
 go_loopg [1, 5] k (fun kq v1 v5 w' => ∃ (x1_1 : Int) (x5_1 : Int), v1 = .int .i64 x1_1 ∧ v5 = .int .i64 x5_1 ∧ Aside0 (laws_heldUseS.l0 kq l0 x1_1 x5_1 = some r) ∧ Aside0 (kq ≤ k) ∧ Drawn0 w w')
 case atStart => exact ⟨(a1), (0), pF, pF, H', ⟨Nat.le_refl _⟩, by repeat (first | exact Drawn0.refl _ | apply Drawn0.step)⟩
 case round =>
  clear H'
  try clear p2
  obtain ⟨x1_1, x5_1, rfl, rfl, HA, HK1, ⟨m1, rfl⟩⟩ := hrel
  cases gk with
  | zero => exact absurd HA.out (by simp [laws_heldUseS.l0])
  | succ k1 =>
   have H := HA.out
   clear HA
   simp only [laws_heldUseS.l0] at H
   by_cases c3 : x5_1 < (l0.length : Int)
   ·rw [if_pos c3] at H
    have c3b0 : decide (x5_1 < (l0.length : Int)) = true := decide_eq_true c3
    clear c3
    by_cases c4 : 0 ≤ x5_1
    ·rw [if_pos c4] at H
     have c4b0 : decide (0 ≤ x5_1) = true := decide_eq_true c4
     clear c4
     by_cases c5 : ((rd_T40 l0 x5_1).f0) = x1_1
     ·rw [if_pos c5] at H
      have c5b0 : (((rd_T40 l0 x5_1).f0) == x1_1) = true := beq_iff_eq.mpr c5
      have c5b1 : (((rd_T40 l0 x5_1).f0) != x1_1) = false := bne_eq_false_iff_eq.mpr c5
      clear c5
      by_cases c6 : ((rd_T40 l0 x5_1).f1) = (wrap64 (x1_1 + 1))
      ·rw [if_pos c6] at H
       have c6b0 : (((rd_T40 l0 x5_1).f1) == (wrap64 (x1_1 + 1))) = true := beq_iff_eq.mpr c6
       have c6b1 : (((rd_T40 l0 x5_1).f1) != (wrap64 (x1_1 + 1))) = false := bne_eq_false_iff_eq.mpr c6
       clear c6
       by_cases c7 : (((rd_T40 l0 x5_1).f2) != ((Int.tmod (wrap64 ((wrap64 (x1_1 + 1)) + 1)) 3) == 0)) = true
       ·rw [if_pos c7] at H
        have c7b0 : (((rd_T40 l0 x5_1).f2) != ((Int.tmod (wrap64 ((wrap64 (x1_1 + 1)) + 1)) 3) == 0)) = true := c7
        (try (have c7b1 : decide (((rd_T40 l0 x5_1).f2) = ((Int.tmod (wrap64 ((wrap64 (x1_1 + 1)) + 1)) 3) == 0)) = false := by simpa using c7))
        (try (have c7b2 : (((rd_T40 l0 x5_1).f2) == ((Int.tmod (wrap64 ((wrap64 (x1_1 + 1)) + 1)) 3) == 0)) = false := by simpa using c7))
        (try (have c7b3 : ¬ (((rd_T40 l0 x5_1).f2) = ((Int.tmod (wrap64 ((wrap64 (x1_1 + 1)) + 1)) 3) == 0)) := by simpa using c7))
        clear c7
        obtain rfl := Option.some.inj H
        have p532 : 0 ≤ (x5_1 : Int) := of_decide_eq_true pA
        have q532 : x5_1 < (l0.length : Int) := of_decide_eq_true pA
        obtain ⟨ad532, e532, hx532_0, hx532_1, hx532_2⟩ := at_T40 HR0.out x5_1 p532 q532
        cases e532
        replace p532 := eq_true p532
        replace q532 := eq_true q532
        have p533 : 0 ≤ (x5_1 : Int) := of_decide_eq_true pA
        have q533 : x5_1 < (l0.length : Int) := of_decide_eq_true pA
        obtain ⟨ad533, e533, hx533_0, hx533_1, hx533_2⟩ := at_T40 HR0.out x5_1 p533 q533
        obtain rfl : ad532 = ad533 := (by injection e533)
        replace p533 := eq_true p533
        replace q533 := eq_true q533
        have p534 : 0 ≤ (x5_1 : Int) := of_decide_eq_true pA
        have q534 : x5_1 < (l0.length : Int) := of_decide_eq_true pA
        obtain ⟨ad534, e534, hx534_0, hx534_1, hx534_2⟩ := at_T40 HR0.out x5_1 p534 q534
        obtain rfl : ad532 = ad534 := (by injection e534)
        replace p534 := eq_true p534
        replace q534 := eq_true q534
        go_wp2
        go_ret
        exact ⟨pF, by repeat (first | exact Drawn0.refl _ | apply Drawn0.step)⟩
       ·rw [if_neg c7] at H
        have c7b0 : (((rd_T40 l0 x5_1).f2) != ((Int.tmod (wrap64 ((wrap64 (x1_1 + 1)) + 1)) 3) == 0)) = false := by simpa using c7
        (try (have c7b1 : decide (((rd_T40 l0 x5_1).f2) = ((Int.tmod (wrap64 ((wrap64 (x1_1 + 1)) + 1)) 3) == 0)) = true := by simpa using c7))
        (try (have c7b2 : (((rd_T40 l0 x5_1).f2) == ((Int.tmod (wrap64 ((wrap64 (x1_1 + 1)) + 1)) 3) == 0)) = true := by simpa using c7))
        clear c7
        have H' := Aside0.mk H
        clear H
        have p532 : 0 ≤ (x5_1 : Int) := of_decide_eq_true pA
        have q532 : x5_1 < (l0.length : Int) := of_decide_eq_true pA
        obtain ⟨ad532, e532, hx532_0, hx532_1, hx532_2⟩ := at_T40 HR0.out x5_1 p532 q532
        cases e532
        replace p532 := eq_true p532
        replace q532 := eq_true q532
        have p533 : 0 ≤ (x5_1 : Int) := of_decide_eq_true pA
        have q533 : x5_1 < (l0.length : Int) := of_decide_eq_true pA
        obtain ⟨ad533, e533, hx533_0, hx533_1, hx533_2⟩ := at_T40 HR0.out x5_1 p533 q533
        obtain rfl : ad532 = ad533 := (by injection e533)
        replace p533 := eq_true p533
        replace q533 := eq_true q533
        have p534 : 0 ≤ (x5_1 : Int) := of_decide_eq_true pA
        have q534 : x5_1 < (l0.length : Int) := of_decide_eq_true pA
        obtain ⟨ad534, e534, hx534_0, hx534_1, hx534_2⟩ := at_T40 HR0.out x5_1 p534 q534
        obtain rfl : ad532 = ad534 := (by injection e534)
        replace p534 := eq_true p534
        replace q534 := eq_true q534
        go_wp2
        go_roundg k1
        case measure => have := HK1.out; omega
        case rel => exact ⟨(wrap64 ((wrap64 ((wrap64 (x1_1 + 1)) + 1)) + 1)), (wrap64 (x5_1 + 1)), pF, pF, H', ⟨by have := HK1.out; omega⟩, by repeat (first | exact Drawn0.refl _ | apply Drawn0.step)⟩
      ·rw [if_neg c6] at H
       have c6b0 : (((rd_T40 l0 x5_1).f1) == (wrap64 (x1_1 + 1))) = false := beq_eq_false_iff_ne.mpr c6
       have c6b1 : (((rd_T40 l0 x5_1).f1) != (wrap64 (x1_1 + 1))) = true := bne_iff_ne.mpr c6
       obtain rfl := Option.some.inj H
       have p532 : 0 ≤ (x5_1 : Int) := of_decide_eq_true pA
       have q532 : x5_1 < (l0.length : Int) := of_decide_eq_true pA
       obtain ⟨ad532, e532, hx532_0, hx532_1, hx532_2⟩ := at_T40 HR0.out x5_1 p532 q532
       cases e532
       replace p532 := eq_true p532
       replace q532 := eq_true q532
       have p533 : 0 ≤ (x5_1 : Int) := of_decide_eq_true pA
       have q533 : x5_1 < (l0.length : Int) := of_decide_eq_true pA
       obtain ⟨ad533, e533, hx533_0, hx533_1, hx533_2⟩ := at_T40 HR0.out x5_1 p533 q533
       obtain rfl : ad532 = ad533 := (by injection e533)
       replace p533 := eq_true p533
       replace q533 := eq_true q533
       go_wp2
       go_ret
       exact ⟨pF, by repeat (first | exact Drawn0.refl _ | apply Drawn0.step)⟩
     ·rw [if_neg c5] at H
      have c5b0 : (((rd_T40 l0 x5_1).f0) == x1_1) = false := beq_eq_false_iff_ne.mpr c5
      have c5b1 : (((rd_T40 l0 x5_1).f0) != x1_1) = true := bne_iff_ne.mpr c5
      obtain rfl := Option.some.inj H
      have p532 : 0 ≤ (x5_1 : Int) := of_decide_eq_true pA
      have q532 : x5_1 < (l0.length : Int) := of_decide_eq_true pA
      obtain ⟨ad532, e532, hx532_0, hx532_1, hx532_2⟩ := at_T40 HR0.out x5_1 p532 q532
      cases e532
      replace p532 := eq_true p532
      replace q532 := eq_true q532
      go_wp2
      go_ret
      exact ⟨pF, by repeat (first | exact Drawn0.refl _ | apply Drawn0.step)⟩
    ·rw [if_neg c4] at H
     exact absurd H (by simp)
   ·rw [if_neg c3] at H
    have c3b0 : decide (x5_1 < (l0.length : Int)) = false := decide_eq_false c3
    clear c3
    obtain rfl := Option.some.inj H
    go_wp2
    go_ret
    exact ⟨pF, by repeat (first | exact Drawn0.refl _ | apply Drawn0.step)⟩

/-! ### laws_FnExactTracesClean: function 13 -/
mutual
def laws_FnExactTracesClean.j0 : Nat → List (S53) → List Int → List (S40) → Bool → List (S40) → List Int → List (S40) → Bool → Bool → Option (Bool)
 | 0, _, _, _, _, _, _, _, _, _ => none
 | k + 1, x0, x1, x6, x7, x8, x9, x10, x11, x51 => if x51 = true then (some false) else ((laws_toUseS.f k x0).bind fun t557 => ((laws_eqUseS.f k x8 t557).bind fun t560 => (if t560 = true then ((laws_toIntS.f k x1).bind fun t561 => ((laws_eqIntS.f k x9 t561).bind fun t564 => (if t564 = true then ((laws_markUseS.f k x8 1).bind fun bt565 => ((laws_markIntS.f k x9 bt565.1).bind fun bt567 => (if bt567.1 < 0 then (laws_FnExactTracesClean.j1 k x0 x1 x6 x7 x10 true) else ((laws_eqUseS.f k x10 x6).bind fun t569 => (if t569 = true then (laws_FnExactTracesClean.j1 k x0 x1 x6 x7 x10 (x11 != x7)) else (laws_FnExactTracesClean.j1 k x0 x1 x6 x7 x10 true)))))) else (some false)))) else (some false))))
def laws_FnExactTracesClean.j1 : Nat → List (S53) → List Int → List (S40) → Bool → List (S40) → Bool → Option (Bool)
 | 0, _, _, _, _, _, _ => none
 | k + 1, x0, x1, x6, x7, x10, x80 => if x80 = true then (some false) else ((laws_markUseS.f k x10 1).bind fun bt570 => ((laws_heldUseS.f k bt570.2 1).bind fun t572 => (if t572 < 0 then (some false) else (if t572 = bt570.1 then ((laws_toUseS.f k x0).bind fun t573 => ((laws_toIntS.f k x1).bind fun t576 => ((impl_TracesClean.f k t573 t576).bind fun bt579 => ((laws_eqUseS.f k bt579.1 x6).bind fun t583 => (if t583 = true then (laws_FnExactTracesClean.j2 k bt570.2 bt570.1 (bt579.2 != x7)) else (laws_FnExactTracesClean.j2 k bt570.2 bt570.1 true)))))) else (some false)))))
def laws_FnExactTracesClean.j2 : Nat → List (S40) → Int → Bool → Option (Bool)
 | 0, _, _, _ => none
 | k + 1, x10, x13, x108 => if x108 = true then (some false) else ((laws_heldUseS.f k x10 1).bind fun t584 => (if t584 < 0 then (some false) else (if t584 = x13 then (some true) else (some false))))
end
def laws_FnExactTracesClean.f (k : Nat) (l0 : List (S53)) (l1 : List Int) : Option (Bool) := if (l1.length : Int) > 1048576 then (some true) else ((laws_szUseS.f l0 1048576).bind fun t535 => (if t535 < 0 then (some true) else ((laws_toUseS.f k l0).bind fun t536 => ((laws_toIntS.f k l1).bind fun t539 => ((spec_TracesClean.f k t536 t539).bind fun bt542 => ((laws_toUseS.f k l0).bind fun t546 => ((laws_toIntS.f k l1).bind fun t549 => ((impl_TracesClean.f k t546 t549).bind fun bt552 => ((laws_eqUseS.f k bt552.1 bt542.1).bind fun t556 => (if t556 = true then (laws_FnExactTracesClean.j0 k l0 l1 bt542.1 bt542.2 t546 t549 bt552.1 bt552.2 (bt552.2 != bt542.2)) else (laws_FnExactTracesClean.j0 k l0 l1 bt542.1 bt542.2 t546 t549 bt552.1 bt552.2 true)))))))))))
theorem laws_FnExactTracesClean.mono_l : ∀ k, (∀ y0 y1 y2 y3 y4 y5 y6 y7 y8, LeO (laws_FnExactTracesClean.j0 k y0 y1 y2 y3 y4 y5 y6 y7 y8) (laws_FnExactTracesClean.j0 (k + 1) y0 y1 y2 y3 y4 y5 y6 y7 y8)) ∧ (∀ y0 y1 y2 y3 y4 y5, LeO (laws_FnExactTracesClean.j1 k y0 y1 y2 y3 y4 y5) (laws_FnExactTracesClean.j1 (k + 1) y0 y1 y2 y3 y4 y5)) ∧ (∀ y0 y1 y2, LeO (laws_FnExactTracesClean.j2 k y0 y1 y2) (laws_FnExactTracesClean.j2 (k + 1) y0 y1 y2))
 | 0 => ⟨fun _ _ _ _ _ _ _ _ _ r h => by simp [laws_FnExactTracesClean.j0] at h, fun _ _ _ _ _ _ r h => by simp [laws_FnExactTracesClean.j1] at h, fun _ _ _ r h => by simp [laws_FnExactTracesClean.j2] at h⟩
 | k + 1 => by
  obtain ⟨ih0, ih1, ih2⟩ := laws_FnExactTracesClean.mono_l k
  refine ⟨?_, ?_, ?_⟩
  ·intro y0 y1 y2 y3 y4 y5 y6 y7 y8
   unfold laws_FnExactTracesClean.j0
   repeat' first
   | (with_reducible exact ih0 _ _ _ _ _ _ _ _ _)
   | (with_reducible exact ih1 _ _ _ _ _ _)
   | (with_reducible exact ih2 _ _ _)
   | (with_reducible exact impl_TracesClean.mono _ _ _)
   | (with_reducible exact laws_eqIntS.mono _ _ _)
   | (with_reducible exact laws_eqUseS.mono _ _ _)
   | (with_reducible exact laws_heldUseS.mono _ _ _)
   | (with_reducible exact laws_markIntS.mono _ _ _)
   | (with_reducible exact laws_markUseS.mono _ _ _)
   | (with_reducible exact laws_toIntS.mono _ _)
   | (with_reducible exact laws_toUseS.mono _ _)
   | (with_reducible exact spec_TracesClean.mono _ _ _)
   | (with_reducible exact LeO.refl _)
   | (with_reducible exact LeO.none _)
   | (with_reducible refine LeO.ite ?_ ?_)
   | (with_reducible refine LeO.bind ?_ (fun _ => ?_))
   | exact ih0 _ _ _ _ _ _ _ _ _
   | exact ih1 _ _ _ _ _ _
   | exact ih2 _ _ _
   | exact impl_TracesClean.mono _ _ _
   | exact laws_eqIntS.mono _ _ _
   | exact laws_eqUseS.mono _ _ _
   | exact laws_heldUseS.mono _ _ _
   | exact laws_markIntS.mono _ _ _
   | exact laws_markUseS.mono _ _ _
   | exact laws_toIntS.mono _ _
   | exact laws_toUseS.mono _ _
   | exact spec_TracesClean.mono _ _ _
   | exact LeO.none _
   | refine LeO.ite ?_ ?_
   | refine LeO.bind ?_ (fun _ => ?_)
  ·intro y0 y1 y2 y3 y4 y5
   unfold laws_FnExactTracesClean.j1
   repeat' first
   | (with_reducible exact ih0 _ _ _ _ _ _ _ _ _)
   | (with_reducible exact ih1 _ _ _ _ _ _)
   | (with_reducible exact ih2 _ _ _)
   | (with_reducible exact impl_TracesClean.mono _ _ _)
   | (with_reducible exact laws_eqIntS.mono _ _ _)
   | (with_reducible exact laws_eqUseS.mono _ _ _)
   | (with_reducible exact laws_heldUseS.mono _ _ _)
   | (with_reducible exact laws_markIntS.mono _ _ _)
   | (with_reducible exact laws_markUseS.mono _ _ _)
   | (with_reducible exact laws_toIntS.mono _ _)
   | (with_reducible exact laws_toUseS.mono _ _)
   | (with_reducible exact spec_TracesClean.mono _ _ _)
   | (with_reducible exact LeO.refl _)
   | (with_reducible exact LeO.none _)
   | (with_reducible refine LeO.ite ?_ ?_)
   | (with_reducible refine LeO.bind ?_ (fun _ => ?_))
   | exact ih0 _ _ _ _ _ _ _ _ _
   | exact ih1 _ _ _ _ _ _
   | exact ih2 _ _ _
   | exact impl_TracesClean.mono _ _ _
   | exact laws_eqIntS.mono _ _ _
   | exact laws_eqUseS.mono _ _ _
   | exact laws_heldUseS.mono _ _ _
   | exact laws_markIntS.mono _ _ _
   | exact laws_markUseS.mono _ _ _
   | exact laws_toIntS.mono _ _
   | exact laws_toUseS.mono _ _
   | exact spec_TracesClean.mono _ _ _
   | exact LeO.none _
   | refine LeO.ite ?_ ?_
   | refine LeO.bind ?_ (fun _ => ?_)
  ·intro y0 y1 y2
   unfold laws_FnExactTracesClean.j2
   repeat' first
   | (with_reducible exact ih0 _ _ _ _ _ _ _ _ _)
   | (with_reducible exact ih1 _ _ _ _ _ _)
   | (with_reducible exact ih2 _ _ _)
   | (with_reducible exact impl_TracesClean.mono _ _ _)
   | (with_reducible exact laws_eqIntS.mono _ _ _)
   | (with_reducible exact laws_eqUseS.mono _ _ _)
   | (with_reducible exact laws_heldUseS.mono _ _ _)
   | (with_reducible exact laws_markIntS.mono _ _ _)
   | (with_reducible exact laws_markUseS.mono _ _ _)
   | (with_reducible exact laws_toIntS.mono _ _)
   | (with_reducible exact laws_toUseS.mono _ _)
   | (with_reducible exact spec_TracesClean.mono _ _ _)
   | (with_reducible exact LeO.refl _)
   | (with_reducible exact LeO.none _)
   | (with_reducible refine LeO.ite ?_ ?_)
   | (with_reducible refine LeO.bind ?_ (fun _ => ?_))
   | exact ih0 _ _ _ _ _ _ _ _ _
   | exact ih1 _ _ _ _ _ _
   | exact ih2 _ _ _
   | exact impl_TracesClean.mono _ _ _
   | exact laws_eqIntS.mono _ _ _
   | exact laws_eqUseS.mono _ _ _
   | exact laws_heldUseS.mono _ _ _
   | exact laws_markIntS.mono _ _ _
   | exact laws_markUseS.mono _ _ _
   | exact laws_toIntS.mono _ _
   | exact laws_toUseS.mono _ _
   | exact spec_TracesClean.mono _ _ _
   | exact LeO.none _
   | refine LeO.ite ?_ ?_
   | refine LeO.bind ?_ (fun _ => ?_)
theorem laws_FnExactTracesClean.mono : ∀ a0 a1 k, LeO (laws_FnExactTracesClean.f k a0 a1) (laws_FnExactTracesClean.f (k + 1) a0 a1) := by
 intro a0 a1 k
 obtain ⟨ih0, ih1, ih2⟩ := laws_FnExactTracesClean.mono_l k
 unfold laws_FnExactTracesClean.f
 repeat' first
   | (with_reducible exact ih0 _ _ _ _ _ _ _ _ _)
   | (with_reducible exact ih1 _ _ _ _ _ _)
   | (with_reducible exact ih2 _ _ _)
   | (with_reducible exact impl_TracesClean.mono _ _ _)
   | (with_reducible exact laws_eqIntS.mono _ _ _)
   | (with_reducible exact laws_eqUseS.mono _ _ _)
   | (with_reducible exact laws_heldUseS.mono _ _ _)
   | (with_reducible exact laws_markIntS.mono _ _ _)
   | (with_reducible exact laws_markUseS.mono _ _ _)
   | (with_reducible exact laws_toIntS.mono _ _)
   | (with_reducible exact laws_toUseS.mono _ _)
   | (with_reducible exact spec_TracesClean.mono _ _ _)
   | (with_reducible exact LeO.refl _)
   | (with_reducible exact LeO.none _)
   | (with_reducible refine LeO.ite ?_ ?_)
   | (with_reducible refine LeO.bind ?_ (fun _ => ?_))
   | exact ih0 _ _ _ _ _ _ _ _ _
   | exact ih1 _ _ _ _ _ _
   | exact ih2 _ _ _
   | exact impl_TracesClean.mono _ _ _
   | exact laws_eqIntS.mono _ _ _
   | exact laws_eqUseS.mono _ _ _
   | exact laws_heldUseS.mono _ _ _
   | exact laws_markIntS.mono _ _ _
   | exact laws_markUseS.mono _ _ _
   | exact laws_toIntS.mono _ _
   | exact laws_toUseS.mono _ _
   | exact spec_TracesClean.mono _ _ _
   | exact LeO.none _
   | refine LeO.ite ?_ ?_
   | refine LeO.bind ?_ (fun _ => ?_)
set_option maxHeartbeats 8000000 in
set_option maxRecDepth 100000 in
theorem laws_FnExactTracesClean.calls (k : Nat) (A0 : Option Addr) (c0 : Nat) (l0 : List (S53)) (A1 : Option Addr) (c1 : Nat) (l1 : List Int) (r : Bool) (w : World) (hr0 : Kd.C k53 w A0 l0.length l0) (hc0 : l0.length ≤ c0) (hr1 : Kd.C (Kd.int .i64) w A1 l1.length l1) (hc1 : l1.length ≤ c1) (h : laws_FnExactTracesClean.f k l0 l1 = some r) :
  Calls Try.prog 13 #[.slice A0 l0.length c0, .slice A1 l1.length c1] w fun e w' => e = .returned (.bool r) ∧ Below w.heap.size w w' := by
 have HR0 := Aside0.mk hr0
 have HC0 := Aside0.mk hc0
 clear hr0 hc0
 have HR1 := Aside0.mk hr1
 have HC1 := Aside0.mk hc1
 clear hr1 hc1
 have HB := Aside0.mk (Below.refl w.heap.size w)
 have H : (if (l1.length : Int) > 1048576 then (some true) else ((laws_szUseS.f l0 1048576).bind fun t535 => (if t535 < 0 then (some true) else ((laws_toUseS.f k l0).bind fun t536 => ((laws_toIntS.f k l1).bind fun t539 => ((spec_TracesClean.f k t536 t539).bind fun bt542 => ((laws_toUseS.f k l0).bind fun t546 => ((laws_toIntS.f k l1).bind fun t549 => ((impl_TracesClean.f k t546 t549).bind fun bt552 => ((laws_eqUseS.f k bt552.1 bt542.1).bind fun t556 => (if t556 = true then (laws_FnExactTracesClean.j0 k l0 l1 bt542.1 bt542.2 t546 t549 bt552.1 bt552.2 (bt552.2 != bt542.2)) else (laws_FnExactTracesClean.j0 k l0 l1 bt542.1 bt542.2 t546 t549 bt552.1 bt552.2 true)))))))))))) = some r := h
 clear h
 by_cases c3 : (l1.length : Int) > 1048576
 ·rw [if_pos c3] at H
  have c3b0 : decide (1048576 < (l1.length : Int)) = true := decide_eq_true c3
  have c3b1 : decide (1048576 < l1.length) = true := decide_eq_true (by omega)
  clear c3
  obtain rfl := Option.some.inj H
  go_enter Try.func13, Try.ntmps13
  go_wp2
  go_ret
  exact ⟨pE, pB⟩
 ·rw [if_neg c3] at H
  have c3b0 : decide (1048576 < (l1.length : Int)) = false := decide_eq_false c3
  have c3b1 : decide (1048576 < l1.length) = false := decide_eq_false (by omega)
  clear c3
  replace H := Option.bind_eq_some_iff.mp H
  obtain ⟨t535, A40, H⟩ := H
  replace H : (if t535 < 0 then (some true) else ((laws_toUseS.f k l0).bind fun t536 => ((laws_toIntS.f k l1).bind fun t539 => ((spec_TracesClean.f k t536 t539).bind fun bt542 => ((laws_toUseS.f k l0).bind fun t546 => ((laws_toIntS.f k l1).bind fun t549 => ((impl_TracesClean.f k t546 t549).bind fun bt552 => ((laws_eqUseS.f k bt552.1 bt542.1).bind fun t556 => (if t556 = true then (laws_FnExactTracesClean.j0 k l0 l1 bt542.1 bt542.2 t546 t549 bt552.1 bt552.2 (bt552.2 != bt542.2)) else (laws_FnExactTracesClean.j0 k l0 l1 bt542.1 bt542.2 t546 t549 bt552.1 bt552.2 true)))))))))) = some r := H
  have A4 := Aside0.mk A40
  clear A40
  by_cases c5 : t535 < 0
  ·rw [if_pos c5] at H
   have c5b0 : decide (t535 < 0) = true := decide_eq_true c5
   clear c5
   obtain rfl := Option.some.inj H
   go_enter Try.func13, Try.ntmps13
   go_wp2_with (first | ((with_reducible refine gate_callee (f := 14) rfl ?_); refine goesL_ (some 22) rfl rfl Try.func14 pL rfl #[.slice A0 l0.length c0, .int .i64 1048576] rfl pM ?_; (with_reducible refine (laws_szUseS.calls _ _ l0 1048576 t535 _ ?side1 ?side2 A4.out).mono ?_); (case side1 => exact pS (HR0.out)); (case side2 => exact HC0.out); rintro e w' ⟨rfl, ⟨nd, rfl⟩⟩; refine ⟨_, rfl, ?_⟩))
   go_ret
   exact ⟨pE, pB⟩
  ·rw [if_neg c5] at H
   have c5b0 : decide (t535 < 0) = false := decide_eq_false c5
   clear c5
   replace H := Option.bind_eq_some_iff.mp H
   obtain ⟨t536, A60, H⟩ := H
   replace H : ((laws_toIntS.f k l1).bind fun t539 => ((spec_TracesClean.f k t536 t539).bind fun bt542 => ((laws_toUseS.f k l0).bind fun t546 => ((laws_toIntS.f k l1).bind fun t549 => ((impl_TracesClean.f k t546 t549).bind fun bt552 => ((laws_eqUseS.f k bt552.1 bt542.1).bind fun t556 => (if t556 = true then (laws_FnExactTracesClean.j0 k l0 l1 bt542.1 bt542.2 t546 t549 bt552.1 bt552.2 (bt552.2 != bt542.2)) else (laws_FnExactTracesClean.j0 k l0 l1 bt542.1 bt542.2 t546 t549 bt552.1 bt552.2 true)))))))) = some r := H
   have A6 := Aside0.mk A60
   clear A60
   replace H := Option.bind_eq_some_iff.mp H
   obtain ⟨t539, A70, H⟩ := H
   replace H : ((spec_TracesClean.f k t536 t539).bind fun bt542 => ((laws_toUseS.f k l0).bind fun t546 => ((laws_toIntS.f k l1).bind fun t549 => ((impl_TracesClean.f k t546 t549).bind fun bt552 => ((laws_eqUseS.f k bt552.1 bt542.1).bind fun t556 => (if t556 = true then (laws_FnExactTracesClean.j0 k l0 l1 bt542.1 bt542.2 t546 t549 bt552.1 bt552.2 (bt552.2 != bt542.2)) else (laws_FnExactTracesClean.j0 k l0 l1 bt542.1 bt542.2 t546 t549 bt552.1 bt552.2 true))))))) = some r := H
   have A7 := Aside0.mk A70
   clear A70
   replace H := Option.bind_eq_some_iff.mp H
   obtain ⟨⟨t542, t543⟩, A80, H⟩ := H
   replace H : ((laws_toUseS.f k l0).bind fun t546 => ((laws_toIntS.f k l1).bind fun t549 => ((impl_TracesClean.f k t546 t549).bind fun bt552 => ((laws_eqUseS.f k bt552.1 t542).bind fun t556 => (if t556 = true then (laws_FnExactTracesClean.j0 k l0 l1 t542 t543 t546 t549 bt552.1 bt552.2 (bt552.2 != t543)) else (laws_FnExactTracesClean.j0 k l0 l1 t542 t543 t546 t549 bt552.1 bt552.2 true)))))) = some r := H
   have A8 := Aside0.mk A80
   clear A80
   replace H := Option.bind_eq_some_iff.mp H
   obtain ⟨t546, A90, H⟩ := H
   replace H : ((laws_toIntS.f k l1).bind fun t549 => ((impl_TracesClean.f k t546 t549).bind fun bt552 => ((laws_eqUseS.f k bt552.1 t542).bind fun t556 => (if t556 = true then (laws_FnExactTracesClean.j0 k l0 l1 t542 t543 t546 t549 bt552.1 bt552.2 (bt552.2 != t543)) else (laws_FnExactTracesClean.j0 k l0 l1 t542 t543 t546 t549 bt552.1 bt552.2 true))))) = some r := H
   have A9 := Aside0.mk A90
   clear A90
   replace H := Option.bind_eq_some_iff.mp H
   obtain ⟨t549, A100, H⟩ := H
   replace H : ((impl_TracesClean.f k t546 t549).bind fun bt552 => ((laws_eqUseS.f k bt552.1 t542).bind fun t556 => (if t556 = true then (laws_FnExactTracesClean.j0 k l0 l1 t542 t543 t546 t549 bt552.1 bt552.2 (bt552.2 != t543)) else (laws_FnExactTracesClean.j0 k l0 l1 t542 t543 t546 t549 bt552.1 bt552.2 true)))) = some r := H
   have A10 := Aside0.mk A100
   clear A100
   replace H := Option.bind_eq_some_iff.mp H
   obtain ⟨⟨t552, t553⟩, A110, H⟩ := H
   replace H : ((laws_eqUseS.f k t552 t542).bind fun t556 => (if t556 = true then (laws_FnExactTracesClean.j0 k l0 l1 t542 t543 t546 t549 t552 t553 (t553 != t543)) else (laws_FnExactTracesClean.j0 k l0 l1 t542 t543 t546 t549 t552 t553 true))) = some r := H
   have A11 := Aside0.mk A110
   clear A110
   have HC12 := Aside0.mk H
   clear H
   go_enter Try.func13, Try.ntmps13
   go_upto_region 11 with (first | ((with_reducible refine gate_callee (f := 14) rfl ?_); refine goesL_ (some 22) rfl rfl Try.func14 pL rfl #[.slice A0 l0.length c0, .int .i64 1048576] rfl pM ?_; (with_reducible refine (laws_szUseS.calls _ _ l0 1048576 t535 _ ?side1 ?side2 A4.out).mono ?_); (case side1 => exact pS (HR0.out)); (case side2 => exact HC0.out); rintro e w' ⟨rfl, ⟨nd, rfl⟩⟩; refine ⟨_, rfl, ?_⟩) | ((with_reducible refine gate_callee (f := 16) rfl ?_); refine goesL_ (some 27) rfl rfl Try.func16 pL rfl #[.slice A0 l0.length c0] rfl pM ?_; (with_reducible refine (laws_toUseS.calls k _ _ l0 t536 _ ?side1 ?side2 A6.out).mono ?_); (case side1 => exact pS (HR0.out)); (case side2 => exact HC0.out); rintro e w13 ⟨v537, rfl, ho0, hb⟩; refine ⟨_, rfl, ?_⟩; have n0_ := Aside0.mk (Kd.R_lower ho0 (below_size pB)); have n1_ := Aside0.mk (below_step pB hb); clear HB; have HO538 := n0_; have HB := n1_; clear n0_ n1_; (try clear hb); (try clear hb2); (try clear hk); (try clear hi); (try clear ho0)) | ((with_reducible refine gate_callee (f := 35) rfl ?_); refine goesL_ (some 29) rfl rfl Try.func35 pL rfl #[.slice A1 l1.length c1] rfl pM ?_; (with_reducible refine (laws_toIntS.calls k _ _ l1 t539 _ ?side1 ?side2 A7.out).mono ?_); (case side1 => exact pS ((Kd.C_below HR1.out HB.out))); (case side2 => exact HC1.out); rintro e w14 ⟨v540, rfl, ho0, hb⟩; refine ⟨_, rfl, ?_⟩; have n0_ := Aside0.mk (Kd.R_below (pR HO538) hb); have n1_ := Aside0.mk (Kd.R_lower ho0 (below_size pB)); have n2_ := Aside0.mk (below_step pB hb); clear HO538; clear HB; have HO538 := n0_; have HO541 := n1_; have HB := n2_; clear n0_ n1_ n2_; (try clear hb); (try clear hb2); (try clear hk); (try clear hi); (try clear ho0); obtain ⟨Ao15, co15, eo15⟩ := Kd.R_slice HO538.out; subst eo15; obtain ⟨Ao16, co16, eo16⟩ := Kd.R_slice HO541.out; subst eo16) | ((with_reducible refine gate_callee (f := 33) rfl ?_); refine goesL_ (some 30) rfl rfl Try.func33 pL rfl #[.slice Ao15 t536.length co15, .slice Ao16 t539.length co16] rfl pM ?_; (with_reducible refine (spec_TracesClean.calls k _ _ t536 _ _ t539 t542 t543 _ ?side1 ?side2 ?side3 ?side4 A8.out).mono ?_); (case side1 => exact pS ((Kd.R_reads' HO538.out).2.2)); (case side2 => exact (Kd.R_reads' HO538.out).2.1); (case side3 => exact pS ((Kd.R_reads' HO541.out).2.2)); (case side4 => exact (Kd.R_reads' HO541.out).2.1); rintro e w17 ⟨v544, rfl, ho0, hb⟩; refine ⟨_, rfl, ?_⟩; have n0_ := Aside0.mk (Kd.R_elder' (pR HO538) (Kd.R_base ho0) hb); have n1_ := Aside0.mk (Kd.R_below (pR HO541) hb); have n2_ := Aside0.mk (Kd.R_lower (Kd.R_new' ho0 (Kd.R_lt (pR HO538))) (below_size pB)); have n3_ := Aside0.mk (below_step pB hb); clear HO538; clear HO541; clear HB; have HO538 := n0_; have HO541 := n1_; have HO545 := n2_; have HB := n3_; clear n0_ n1_ n2_ n3_; (try clear hb); (try clear hb2); (try clear hk); (try clear hi); (try clear ho0)) | ((with_reducible refine gate_callee (f := 16) rfl ?_); refine goesL_ (some 34) rfl rfl Try.func16 pL rfl #[.slice A0 l0.length c0] rfl pM ?_; (with_reducible refine (laws_toUseS.calls k _ _ l0 t546 _ ?side1 ?side2 A9.out).mono ?_); (case side1 => exact pS ((Kd.C_below HR0.out HB.out))); (case side2 => exact HC0.out); rintro e w18 ⟨v547, rfl, ho0, hb⟩; refine ⟨_, rfl, ?_⟩; have n0_ := Aside0.mk (Kd.R_elder' (pR HO538) (Kd.R_base ho0) hb); have n1_ := Aside0.mk (Kd.R_below (pR HO541) hb); have n2_ := Aside0.mk (Kd.R_elder' (pR HO545) (Kd.R_base ho0) hb); have n3_ := Aside0.mk (Kd.R_lower (Kd.R_new' (Kd.R_new' ho0 (Kd.R_lt (pR HO538))) (Kd.R_lt (pR HO545))) (below_size pB)); have n4_ := Aside0.mk (below_step pB hb); clear HO538; clear HO541; clear HO545; clear HB; have HO538 := n0_; have HO541 := n1_; have HO545 := n2_; have HO548 := n3_; have HB := n4_; clear n0_ n1_ n2_ n3_ n4_; (try clear hb); (try clear hb2); (try clear hk); (try clear hi); (try clear ho0)) | ((with_reducible refine gate_callee (f := 35) rfl ?_); refine goesL_ (some 36) rfl rfl Try.func35 pL rfl #[.slice A1 l1.length c1] rfl pM ?_; (with_reducible refine (laws_toIntS.calls k _ _ l1 t549 _ ?side1 ?side2 A10.out).mono ?_); (case side1 => exact pS ((Kd.C_below HR1.out HB.out))); (case side2 => exact HC1.out); rintro e w19 ⟨v550, rfl, ho0, hb⟩; refine ⟨_, rfl, ?_⟩; have n0_ := Aside0.mk (Kd.R_below (pR HO538) hb); have n1_ := Aside0.mk (Kd.R_elder' (pR HO541) (Kd.R_base ho0) hb); have n2_ := Aside0.mk (Kd.R_below (pR HO545) hb); have n3_ := Aside0.mk (Kd.R_below (pR HO548) hb); have n4_ := Aside0.mk (Kd.R_lower (Kd.R_new' ho0 (Kd.R_lt (pR HO541))) (below_size pB)); have n5_ := Aside0.mk (below_step pB hb); clear HO538; clear HO541; clear HO545; clear HO548; clear HB; have HO538 := n0_; have HO541 := n1_; have HO545 := n2_; have HO548 := n3_; have HO551 := n4_; have HB := n5_; clear n0_ n1_ n2_ n3_ n4_ n5_; (try clear hb); (try clear hb2); (try clear hk); (try clear hi); (try clear ho0); obtain ⟨Ao20, co20, eo20⟩ := Kd.R_slice HO548.out; subst eo20; obtain ⟨Ao21, co21, eo21⟩ := Kd.R_slice HO551.out; subst eo21) | ((with_reducible refine gate_callee (f := 32) rfl ?_); refine goesL_ (some 40) rfl rfl Try.func32 pL rfl #[.slice Ao20 t546.length co20, .slice Ao21 t549.length co21] rfl pM ?_; (with_reducible refine (impl_TracesClean.calls k _ _ t546 _ _ t549 t552 t553 _ ?side1 ?side2 ?side3 ?side4 A11.out).mono ?_); (case side1 => exact pS ((Kd.R_reads' HO548.out).2.2)); (case side2 => exact (Kd.R_reads' HO548.out).2.1); (case side3 => exact pS ((Kd.R_reads' HO551.out).2.2)); (case side4 => exact (Kd.R_reads' HO551.out).2.1); rintro e w22 ⟨v554, rfl, ho0, hb⟩; refine ⟨_, rfl, ?_⟩; have n0_ := Aside0.mk (Kd.R_elder' (pR HO538) (Kd.R_base ho0) hb); have n1_ := Aside0.mk (Kd.R_below (pR HO541) hb); have n2_ := Aside0.mk (Kd.R_elder' (pR HO545) (Kd.R_base ho0) hb); have n3_ := Aside0.mk (Kd.R_elder' (pR HO548) (Kd.R_base ho0) hb); have n4_ := Aside0.mk (Kd.R_below (pR HO551) hb); have n5_ := Aside0.mk (Kd.R_lower (Kd.R_new' (Kd.R_new' (Kd.R_new' ho0 (Kd.R_lt (pR HO538))) (Kd.R_lt (pR HO545))) (Kd.R_lt (pR HO548))) (below_size pB)); have n6_ := Aside0.mk (below_step pB hb); clear HO538; clear HO541; clear HO545; clear HO548; clear HO551; clear HB; have HO538 := n0_; have HO541 := n1_; have HO545 := n2_; have HO548 := n3_; have HO551 := n4_; have HO555 := n5_; have HB := n6_; clear n0_ n1_ n2_ n3_ n4_ n5_ n6_; (try clear hb); (try clear hb2); (try clear hk); (try clear hi); (try clear ho0)))
   (try simp only [Act.put, List.setIfInBounds_toArray, List.set_cons_zero, List.set_cons_succ])
   go_cut [51] (fun v51 wc => ∃ (kq : Nat) (x51_11 : Bool), v51 = .bool x51_11 ∧ Aside0 (laws_FnExactTracesClean.j0 kq l0 l1 t542 t543 t546 t549 t552 t553 x51_11 = some r) ∧ Aside0 (kq ≤ k) ∧ Aside0 (Kd.R k40 40 wc w.heap.size (fun k_ => some k_ ≠ ((.slice Ao20 t546.length co20) : Value).ownBlock ∧ some k_ ≠ (v554 : Value).ownBlock) v544 t542) ∧ Aside0 (Kd.R k40 40 wc w.heap.size (fun k_ => some k_ ≠ (v544 : Value).ownBlock ∧ some k_ ≠ (v554 : Value).ownBlock) (.slice Ao20 t546.length co20) t546) ∧ Aside0 (Kd.R (Kd.int .i64) 3 wc w.heap.size (fun _ => True) (.slice Ao21 t549.length co21) t549) ∧ Aside0 (Kd.R k40 40 wc w.heap.size (fun k_ => some k_ ≠ (v544 : Value).ownBlock ∧ some k_ ≠ ((.slice Ao20 t546.length co20) : Value).ownBlock) v554 t552) ∧ Aside0 (Below w.heap.size w wc))
   case first =>
    have H := HC12.out
    clear HC12
    replace H := Option.bind_eq_some_iff.mp H
    obtain ⟨t556, A230, H⟩ := H
    replace H : (if t556 = true then (laws_FnExactTracesClean.j0 k l0 l1 t542 t543 t546 t549 t552 t553 (t553 != t543)) else (laws_FnExactTracesClean.j0 k l0 l1 t542 t543 t546 t549 t552 t553 true)) = some r := H
    have A23 := Aside0.mk A230
    clear A230
    by_cases c24 : t556 = true
    ·subst c24
     have H1 : (laws_FnExactTracesClean.j0 k l0 l1 t542 t543 t546 t549 t552 t553 (t553 != t543)) = some r := by rw [if_pos rfl] at H; exact H
     clear H
     have H := H1
     clear H1
     have H' := Aside0.mk H
     clear H
     obtain ⟨Ao25, co25, eo25⟩ := Kd.R_slice HO555.out
     subst eo25
     obtain ⟨Ao26, co26, eo26⟩ := Kd.R_slice HO545.out
     subst eo26
     go_wp2_with (first | ((with_reducible refine gate_callee (f := 18) rfl ?_); refine goesL_ (some 45) rfl rfl Try.func18 pL rfl #[.slice Ao25 t552.length co25, .slice Ao26 t542.length co26] rfl pM ?_; (with_reducible refine (laws_eqUseS.calls k _ _ t552 _ _ t542 true _ ?side1 ?side2 ?side3 ?side4 A23.out).mono ?_); (case side1 => exact pS ((Kd.R_reads' HO555.out).2.2)); (case side2 => exact (Kd.R_reads' HO555.out).2.1); (case side3 => exact pS ((Kd.R_reads' HO545.out).2.2)); (case side4 => exact (Kd.R_reads' HO545.out).2.1); rintro e w27 ⟨rfl, hb⟩; refine ⟨_, rfl, ?_⟩; have n0_ := Aside0.mk (Kd.R_below (pR HO538) hb); have n1_ := Aside0.mk (Kd.R_below (pR HO541) hb); have n2_ := Aside0.mk (Kd.R_below (pR HO545) hb); have n3_ := Aside0.mk (Kd.R_below (pR HO548) hb); have n4_ := Aside0.mk (Kd.R_below (pR HO551) hb); have n5_ := Aside0.mk (Kd.R_below (pR HO555) hb); have n6_ := Aside0.mk (below_step pB hb); clear HO538; clear HO541; clear HO545; clear HO548; clear HO551; clear HO555; clear HB; have HO538 := n0_; have HO541 := n1_; have HO545 := n2_; have HO548 := n3_; have HO551 := n4_; have HO555 := n5_; have HB := n6_; clear n0_ n1_ n2_ n3_ n4_ n5_ n6_; (try clear hb); (try clear hb2); (try clear hk); (try clear hi)))
     go_meet
     case rel => exact ⟨_, ((t553 != t543)), pF, H', ⟨by first | omega | exact Nat.le_refl _⟩, ⟨by (with_reducible repeat (first | apply Kd.R_alloc | apply Kd.R_drewN | apply Kd.R_drew)); exact Kd.R_mono HO545.out (fun _ hk => ⟨hk.1.2, hk.2⟩)⟩, ⟨by (with_reducible repeat (first | apply Kd.R_alloc | apply Kd.R_drewN | apply Kd.R_drew)); exact Kd.R_mono HO548.out (fun _ hk => ⟨hk.1.2, hk.2⟩)⟩, ⟨by (with_reducible repeat (first | apply Kd.R_alloc | apply Kd.R_drewN | apply Kd.R_drew)); exact Kd.R_mono HO551.out (fun _ hk => trivial)⟩, ⟨by (with_reducible repeat (first | apply Kd.R_alloc | apply Kd.R_drewN | apply Kd.R_drew)); exact Kd.R_mono HO555.out (fun _ hk => ⟨hk.1.2, hk.2⟩)⟩, ⟨pB⟩⟩
    ·replace c24 := Bool.eq_false_iff.mpr c24
     subst c24
     have H1 : (laws_FnExactTracesClean.j0 k l0 l1 t542 t543 t546 t549 t552 t553 true) = some r := by rw [if_neg (show ¬ (false = true) by decide)] at H; exact H
     clear H
     have H := H1
     clear H1
     have H' := Aside0.mk H
     clear H
     obtain ⟨Ao28, co28, eo28⟩ := Kd.R_slice HO555.out
     subst eo28
     obtain ⟨Ao29, co29, eo29⟩ := Kd.R_slice HO545.out
     subst eo29
     go_wp2_with (first | ((with_reducible refine gate_callee (f := 18) rfl ?_); refine goesL_ (some 45) rfl rfl Try.func18 pL rfl #[.slice Ao28 t552.length co28, .slice Ao29 t542.length co29] rfl pM ?_; (with_reducible refine (laws_eqUseS.calls k _ _ t552 _ _ t542 false _ ?side1 ?side2 ?side3 ?side4 A23.out).mono ?_); (case side1 => exact pS ((Kd.R_reads' HO555.out).2.2)); (case side2 => exact (Kd.R_reads' HO555.out).2.1); (case side3 => exact pS ((Kd.R_reads' HO545.out).2.2)); (case side4 => exact (Kd.R_reads' HO545.out).2.1); rintro e w30 ⟨rfl, hb⟩; refine ⟨_, rfl, ?_⟩; have n0_ := Aside0.mk (Kd.R_below (pR HO538) hb); have n1_ := Aside0.mk (Kd.R_below (pR HO541) hb); have n2_ := Aside0.mk (Kd.R_below (pR HO545) hb); have n3_ := Aside0.mk (Kd.R_below (pR HO548) hb); have n4_ := Aside0.mk (Kd.R_below (pR HO551) hb); have n5_ := Aside0.mk (Kd.R_below (pR HO555) hb); have n6_ := Aside0.mk (below_step pB hb); clear HO538; clear HO541; clear HO545; clear HO548; clear HO551; clear HO555; clear HB; have HO538 := n0_; have HO541 := n1_; have HO545 := n2_; have HO548 := n3_; have HO551 := n4_; have HO555 := n5_; have HB := n6_; clear n0_ n1_ n2_ n3_ n4_ n5_ n6_; (try clear hb); (try clear hb2); (try clear hk); (try clear hi)))
     go_meet
     case rel => exact ⟨_, (true), pF, H', ⟨by first | omega | exact Nat.le_refl _⟩, ⟨by (with_reducible repeat (first | apply Kd.R_alloc | apply Kd.R_drewN | apply Kd.R_drew)); exact Kd.R_mono HO545.out (fun _ hk => ⟨hk.1.2, hk.2⟩)⟩, ⟨by (with_reducible repeat (first | apply Kd.R_alloc | apply Kd.R_drewN | apply Kd.R_drew)); exact Kd.R_mono HO548.out (fun _ hk => ⟨hk.1.2, hk.2⟩)⟩, ⟨by (with_reducible repeat (first | apply Kd.R_alloc | apply Kd.R_drewN | apply Kd.R_drew)); exact Kd.R_mono HO551.out (fun _ hk => trivial)⟩, ⟨by (with_reducible repeat (first | apply Kd.R_alloc | apply Kd.R_drewN | apply Kd.R_drew)); exact Kd.R_mono HO555.out (fun _ hk => ⟨hk.1.2, hk.2⟩)⟩, ⟨pB⟩⟩
   case rest =>
    clear HC12
    try clear c1
    try clear c2
    try clear p2
    try clear c3
    try clear c3b0
    try clear c3b1
    try clear c5
    try clear c5b0
    try clear c13
    try clear c14
    try clear c16
    try clear c18
    try clear c24
    obtain ⟨kq, x51_11, rfl, HA, HJ11, HO_6, HO_8, HO_9, HO_10, HB⟩ := hcut
    cases kq with
    | zero => exact absurd HA.out (by simp [laws_FnExactTracesClean.j0])
    | succ kj11 =>
     have H := HA.out
     clear HA
     simp only [laws_FnExactTracesClean.j0] at H
     by_cases c31 : x51_11 = true
     ·subst c31
      have H1 : (some false) = some r := by rw [if_pos rfl] at H; exact H
      clear H
      have H := H1
      clear H1
      obtain rfl := Option.some.inj H
      go_wp2
      go_ret
      exact ⟨pE, pB⟩
     ·replace c31 := Bool.eq_false_iff.mpr c31
      subst c31
      have H1 : ((laws_toUseS.f kj11 l0).bind fun t557 => ((laws_eqUseS.f kj11 t546 t557).bind fun t560 => (if t560 = true then ((laws_toIntS.f kj11 l1).bind fun t561 => ((laws_eqIntS.f kj11 t549 t561).bind fun t564 => (if t564 = true then ((laws_markUseS.f kj11 t546 1).bind fun bt565 => ((laws_markIntS.f kj11 t549 bt565.1).bind fun bt567 => (if bt567.1 < 0 then (laws_FnExactTracesClean.j1 kj11 l0 l1 t542 t543 t552 true) else ((laws_eqUseS.f kj11 t552 t542).bind fun t569 => (if t569 = true then (laws_FnExactTracesClean.j1 kj11 l0 l1 t542 t543 t552 (t553 != t543)) else (laws_FnExactTracesClean.j1 kj11 l0 l1 t542 t543 t552 true)))))) else (some false)))) else (some false)))) = some r := by rw [if_neg (show ¬ (false = true) by decide)] at H; exact H
      clear H
      have H := H1
      clear H1
      replace H := Option.bind_eq_some_iff.mp H
      obtain ⟨t557, A320, H⟩ := H
      replace H : ((laws_eqUseS.f kj11 t546 t557).bind fun t560 => (if t560 = true then ((laws_toIntS.f kj11 l1).bind fun t561 => ((laws_eqIntS.f kj11 t549 t561).bind fun t564 => (if t564 = true then ((laws_markUseS.f kj11 t546 1).bind fun bt565 => ((laws_markIntS.f kj11 t549 bt565.1).bind fun bt567 => (if bt567.1 < 0 then (laws_FnExactTracesClean.j1 kj11 l0 l1 t542 t543 t552 true) else ((laws_eqUseS.f kj11 t552 t542).bind fun t569 => (if t569 = true then (laws_FnExactTracesClean.j1 kj11 l0 l1 t542 t543 t552 (t553 != t543)) else (laws_FnExactTracesClean.j1 kj11 l0 l1 t542 t543 t552 true)))))) else (some false)))) else (some false))) = some r := H
      have A32 := Aside0.mk A320
      clear A320
      replace H := Option.bind_eq_some_iff.mp H
      obtain ⟨t560, A330, H⟩ := H
      replace H : (if t560 = true then ((laws_toIntS.f kj11 l1).bind fun t561 => ((laws_eqIntS.f kj11 t549 t561).bind fun t564 => (if t564 = true then ((laws_markUseS.f kj11 t546 1).bind fun bt565 => ((laws_markIntS.f kj11 t549 bt565.1).bind fun bt567 => (if bt567.1 < 0 then (laws_FnExactTracesClean.j1 kj11 l0 l1 t542 t543 t552 true) else ((laws_eqUseS.f kj11 t552 t542).bind fun t569 => (if t569 = true then (laws_FnExactTracesClean.j1 kj11 l0 l1 t542 t543 t552 (t553 != t543)) else (laws_FnExactTracesClean.j1 kj11 l0 l1 t542 t543 t552 true)))))) else (some false)))) else (some false)) = some r := H
      have A33 := Aside0.mk A330
      clear A330
      by_cases c34 : t560 = true
      ·subst c34
       have H1 : ((laws_toIntS.f kj11 l1).bind fun t561 => ((laws_eqIntS.f kj11 t549 t561).bind fun t564 => (if t564 = true then ((laws_markUseS.f kj11 t546 1).bind fun bt565 => ((laws_markIntS.f kj11 t549 bt565.1).bind fun bt567 => (if bt567.1 < 0 then (laws_FnExactTracesClean.j1 kj11 l0 l1 t542 t543 t552 true) else ((laws_eqUseS.f kj11 t552 t542).bind fun t569 => (if t569 = true then (laws_FnExactTracesClean.j1 kj11 l0 l1 t542 t543 t552 (t553 != t543)) else (laws_FnExactTracesClean.j1 kj11 l0 l1 t542 t543 t552 true)))))) else (some false)))) = some r := by rw [if_pos rfl] at H; exact H
       clear H
       have H := H1
       clear H1
       replace H := Option.bind_eq_some_iff.mp H
       obtain ⟨t561, A350, H⟩ := H
       replace H : ((laws_eqIntS.f kj11 t549 t561).bind fun t564 => (if t564 = true then ((laws_markUseS.f kj11 t546 1).bind fun bt565 => ((laws_markIntS.f kj11 t549 bt565.1).bind fun bt567 => (if bt567.1 < 0 then (laws_FnExactTracesClean.j1 kj11 l0 l1 t542 t543 t552 true) else ((laws_eqUseS.f kj11 t552 t542).bind fun t569 => (if t569 = true then (laws_FnExactTracesClean.j1 kj11 l0 l1 t542 t543 t552 (t553 != t543)) else (laws_FnExactTracesClean.j1 kj11 l0 l1 t542 t543 t552 true)))))) else (some false))) = some r := H
       have A35 := Aside0.mk A350
       clear A350
       replace H := Option.bind_eq_some_iff.mp H
       obtain ⟨t564, A360, H⟩ := H
       replace H : (if t564 = true then ((laws_markUseS.f kj11 t546 1).bind fun bt565 => ((laws_markIntS.f kj11 t549 bt565.1).bind fun bt567 => (if bt567.1 < 0 then (laws_FnExactTracesClean.j1 kj11 l0 l1 t542 t543 t552 true) else ((laws_eqUseS.f kj11 t552 t542).bind fun t569 => (if t569 = true then (laws_FnExactTracesClean.j1 kj11 l0 l1 t542 t543 t552 (t553 != t543)) else (laws_FnExactTracesClean.j1 kj11 l0 l1 t542 t543 t552 true)))))) else (some false)) = some r := H
       have A36 := Aside0.mk A360
       clear A360
       by_cases c37 : t564 = true
       ·subst c37
        have H1 : ((laws_markUseS.f kj11 t546 1).bind fun bt565 => ((laws_markIntS.f kj11 t549 bt565.1).bind fun bt567 => (if bt567.1 < 0 then (laws_FnExactTracesClean.j1 kj11 l0 l1 t542 t543 t552 true) else ((laws_eqUseS.f kj11 t552 t542).bind fun t569 => (if t569 = true then (laws_FnExactTracesClean.j1 kj11 l0 l1 t542 t543 t552 (t553 != t543)) else (laws_FnExactTracesClean.j1 kj11 l0 l1 t542 t543 t552 true)))))) = some r := by rw [if_pos rfl] at H; exact H
        clear H
        have H := H1
        clear H1
        replace H := Option.bind_eq_some_iff.mp H
        obtain ⟨⟨t565, t566⟩, A380, H⟩ := H
        replace H : ((laws_markIntS.f kj11 t549 t565).bind fun bt567 => (if bt567.1 < 0 then (laws_FnExactTracesClean.j1 kj11 l0 l1 t542 t543 t552 true) else ((laws_eqUseS.f kj11 t552 t542).bind fun t569 => (if t569 = true then (laws_FnExactTracesClean.j1 kj11 l0 l1 t542 t543 t552 (t553 != t543)) else (laws_FnExactTracesClean.j1 kj11 l0 l1 t542 t543 t552 true))))) = some r := H
        have A38 := Aside0.mk A380
        clear A380
        replace H := Option.bind_eq_some_iff.mp H
        obtain ⟨⟨t567, t568⟩, A390, H⟩ := H
        replace H : (if t567 < 0 then (laws_FnExactTracesClean.j1 kj11 l0 l1 t542 t543 t552 true) else ((laws_eqUseS.f kj11 t552 t542).bind fun t569 => (if t569 = true then (laws_FnExactTracesClean.j1 kj11 l0 l1 t542 t543 t552 (t553 != t543)) else (laws_FnExactTracesClean.j1 kj11 l0 l1 t542 t543 t552 true)))) = some r := H
        have A39 := Aside0.mk A390
        clear A390
        have HC40 := Aside0.mk H
        clear H
        go_upto_region 20 with (first | ((with_reducible refine gate_callee (f := 16) rfl ?_); refine goesL_ (some 54) rfl rfl Try.func16 pL rfl #[.slice A0 l0.length c0] rfl pM ?_; (with_reducible refine (laws_toUseS.calls kj11 _ _ l0 t557 _ ?side1 ?side2 A32.out).mono ?_); (case side1 => exact pS ((Kd.C_below HR0.out HB.out))); (case side2 => exact HC0.out); rintro e w41 ⟨v558, rfl, ho0, hb⟩; refine ⟨_, rfl, ?_⟩; have n0_ := Aside0.mk (Kd.R_elder' (pR HO_6) (Kd.R_base ho0) hb); have n1_ := Aside0.mk (Kd.R_elder' (pR HO_8) (Kd.R_base ho0) hb); have n2_ := Aside0.mk (Kd.R_below (pR HO_9) hb); have n3_ := Aside0.mk (Kd.R_elder' (pR HO_10) (Kd.R_base ho0) hb); have n4_ := Aside0.mk (Kd.R_lower (Kd.R_new' (Kd.R_new' (Kd.R_new' ho0 (Kd.R_lt (pR HO_6))) (Kd.R_lt (pR HO_8))) (Kd.R_lt (pR HO_10))) (below_size pB)); have n5_ := Aside0.mk (below_step pB hb); clear HO_6; clear HO_8; clear HO_9; clear HO_10; clear HB; have HO_6 := n0_; have HO_8 := n1_; have HO_9 := n2_; have HO_10 := n3_; have HO559 := n4_; have HB := n5_; clear n0_ n1_ n2_ n3_ n4_ n5_; (try clear hb); (try clear hb2); (try clear hk); (try clear hi); (try clear ho0); obtain ⟨Ao42, co42, eo42⟩ := Kd.R_slice HO559.out; subst eo42) | ((with_reducible refine gate_callee (f := 18) rfl ?_); refine goesL_ (some 55) rfl rfl Try.func18 pL rfl #[.slice Ao20 t546.length co20, .slice Ao42 t557.length co42] rfl pM ?_; (with_reducible refine (laws_eqUseS.calls kj11 _ _ t546 _ _ t557 true _ ?side1 ?side2 ?side3 ?side4 A33.out).mono ?_); (case side1 => exact pS ((Kd.R_reads' HO_8.out).2.2)); (case side2 => exact (Kd.R_reads' HO_8.out).2.1); (case side3 => exact pS ((Kd.R_reads' HO559.out).2.2)); (case side4 => exact (Kd.R_reads' HO559.out).2.1); rintro e w43 ⟨rfl, hb⟩; refine ⟨_, rfl, ?_⟩; have n0_ := Aside0.mk (Kd.R_below (pR HO_6) hb); have n1_ := Aside0.mk (Kd.R_below (pR HO_8) hb); have n2_ := Aside0.mk (Kd.R_below (pR HO_9) hb); have n3_ := Aside0.mk (Kd.R_below (pR HO_10) hb); have n4_ := Aside0.mk (Kd.R_below (pR HO559) hb); have n5_ := Aside0.mk (below_step pB hb); clear HO_6; clear HO_8; clear HO_9; clear HO_10; clear HO559; clear HB; have HO_6 := n0_; have HO_8 := n1_; have HO_9 := n2_; have HO_10 := n3_; have HO559 := n4_; have HB := n5_; clear n0_ n1_ n2_ n3_ n4_ n5_; (try clear hb); (try clear hb2); (try clear hk); (try clear hi)) | ((with_reducible refine gate_callee (f := 35) rfl ?_); refine goesL_ (some 59) rfl rfl Try.func35 pL rfl #[.slice A1 l1.length c1] rfl pM ?_; (with_reducible refine (laws_toIntS.calls kj11 _ _ l1 t561 _ ?side1 ?side2 A35.out).mono ?_); (case side1 => exact pS ((Kd.C_below HR1.out HB.out))); (case side2 => exact HC1.out); rintro e w44 ⟨v562, rfl, ho0, hb⟩; refine ⟨_, rfl, ?_⟩; have n0_ := Aside0.mk (Kd.R_below (pR HO_6) hb); have n1_ := Aside0.mk (Kd.R_below (pR HO_8) hb); have n2_ := Aside0.mk (Kd.R_elder' (pR HO_9) (Kd.R_base ho0) hb); have n3_ := Aside0.mk (Kd.R_below (pR HO_10) hb); have n4_ := Aside0.mk (Kd.R_below (pR HO559) hb); have n5_ := Aside0.mk (Kd.R_lower (Kd.R_new' ho0 (Kd.R_lt (pR HO_9))) (below_size pB)); have n6_ := Aside0.mk (below_step pB hb); clear HO_6; clear HO_8; clear HO_9; clear HO_10; clear HO559; clear HB; have HO_6 := n0_; have HO_8 := n1_; have HO_9 := n2_; have HO_10 := n3_; have HO559 := n4_; have HO563 := n5_; have HB := n6_; clear n0_ n1_ n2_ n3_ n4_ n5_ n6_; (try clear hb); (try clear hb2); (try clear hk); (try clear hi); (try clear ho0); obtain ⟨Ao45, co45, eo45⟩ := Kd.R_slice HO563.out; subst eo45) | ((with_reducible refine gate_callee (f := 27) rfl ?_); refine goesL_ (some 60) rfl rfl Try.func27 pL rfl #[.slice Ao21 t549.length co21, .slice Ao45 t561.length co45] rfl pM ?_; (with_reducible refine (laws_eqIntS.calls kj11 _ _ t549 _ _ t561 true _ ?side1 ?side2 ?side3 ?side4 A36.out).mono ?_); (case side1 => exact pS ((Kd.R_reads' HO_9.out).2.2)); (case side2 => exact (Kd.R_reads' HO_9.out).2.1); (case side3 => exact pS ((Kd.R_reads' HO563.out).2.2)); (case side4 => exact (Kd.R_reads' HO563.out).2.1); rintro e w' ⟨rfl, ⟨nd, rfl⟩⟩; refine ⟨_, rfl, ?_⟩) | ((with_reducible refine gate_callee (f := 28) rfl ?_); refine goesL_ (some 64) rfl rfl Try.func28 pL rfl #[.slice Ao20 t546.length co20, .int .i64 1] rfl pM ?_; (with_reducible refine (laws_markUseS.calls kj11 (fun k_ => some k_ = (.slice Ao20 t546.length co20 : Value).ownBlock) (.slice Ao20 t546.length co20) t546 1 t565 t566 w _ ?side1 ?side2 A38.out).mono ?_); (case side1 => exact pB); (case side2 => exact Kd.R_tight rfl HO_8.out); rintro e w46 ⟨rfl, hy0, hb, hkp⟩; refine ⟨_, rfl, ?_⟩; have n0_ := Aside0.mk (Kd.R_mono (ok' := fun k_ => some k_ ≠ (.slice Ao20 t546.length co20 : Value).ownBlock ∧ some k_ ≠ (v554 : Value).ownBlock ∧ some k_ ≠ (.slice Ao42 t557.length co42 : Value).ownBlock) (Kd.R_keptB (HO_6.out) hkp (fun k_ hk_ hs_ => (hk_.1.1) hs_)) (fun k_ hk_ => ⟨hk_.1.1.1, hk_.1.1.2, hk_.1.2⟩)); have n1_ := Aside0.mk (Kd.R_reok rfl hy0 (fun k_ e_ => HO_8.out.1 k_ e_)); have n2_ := Aside0.mk (Kd.R_mono (ok' := fun k_ => some k_ ≠ (.slice Ao45 t561.length co45 : Value).ownBlock) (Kd.R_keptB ((Kd.R_apart' HO_9.out (Kd.R_typed HO_8.out) (by decide))) hkp (fun k_ hk_ hs_ => (hk_.2) hs_)) (fun k_ hk_ => hk_.1.1.2)); have n3_ := Aside0.mk (Kd.R_mono (ok' := fun k_ => some k_ ≠ (v544 : Value).ownBlock ∧ some k_ ≠ (.slice Ao20 t546.length co20 : Value).ownBlock ∧ some k_ ≠ (.slice Ao42 t557.length co42 : Value).ownBlock) (Kd.R_keptB (HO_10.out) hkp (fun k_ hk_ hs_ => (hk_.1.2) hs_)) (fun k_ hk_ => ⟨hk_.1.1.1, hk_.1.1.2, hk_.1.2⟩)); have n4_ := Aside0.mk (Kd.R_mono (ok' := fun k_ => some k_ ≠ (v544 : Value).ownBlock ∧ some k_ ≠ (.slice Ao20 t546.length co20 : Value).ownBlock ∧ some k_ ≠ (v554 : Value).ownBlock) (Kd.R_keptB (HO559.out) hkp (fun k_ hk_ hs_ => (hk_.1.2) hs_)) (fun k_ hk_ => ⟨hk_.1.1.1.2, hk_.1.1.2, hk_.1.2⟩)); have n5_ := Aside0.mk (Kd.R_mono (ok' := fun k_ => some k_ ≠ (.slice Ao21 t549.length co21 : Value).ownBlock) (Kd.R_keptB ((Kd.R_apart' HO563.out (Kd.R_typed HO_8.out) (by decide))) hkp (fun k_ hk_ hs_ => (hk_.2) hs_)) (fun k_ hk_ => hk_.1.1.2)); have n6_ := Aside0.mk (hb); clear HO_6; clear HO_8; clear HO_9; clear HO_10; clear HO559; clear HO563; clear HB; have HO_6 := n0_; have HO_8 := n1_; have HO_9 := n2_; have HO_10 := n3_; have HO559 := n4_; have HO563 := n5_; have HB := n6_; clear n0_ n1_ n2_ n3_ n4_ n5_ n6_; (try clear hb); (try clear hkp); (try clear hy0)) | ((with_reducible refine gate_callee (f := 29) rfl ?_); refine goesL_ (some 67) rfl rfl Try.func29 pL rfl #[.slice Ao21 t549.length co21, .int .i64 t565] rfl pM ?_; (with_reducible refine (laws_markIntS.calls kj11 (fun k_ => some k_ = (.slice Ao21 t549.length co21 : Value).ownBlock) (.slice Ao21 t549.length co21) t549 t565 t567 t568 w _ ?side1 ?side2 A39.out).mono ?_); (case side1 => exact pB); (case side2 => exact Kd.R_tight rfl HO_9.out); rintro e w47 ⟨rfl, hy0, hb, hkp⟩; refine ⟨_, rfl, ?_⟩; have n0_ := Aside0.mk (Kd.R_mono (ok' := fun k_ => some k_ ≠ (.slice Ao20 t546.length co20 : Value).ownBlock ∧ some k_ ≠ (v554 : Value).ownBlock ∧ some k_ ≠ (.slice Ao42 t557.length co42 : Value).ownBlock) (Kd.R_keptB ((Kd.R_apart' HO_6.out (Kd.R_typed HO_9.out) (by decide))) hkp (fun k_ hk_ hs_ => (hk_.2) hs_)) (fun k_ hk_ => ⟨hk_.1.1.1, hk_.1.1.2.1, hk_.1.1.2.2⟩)); have n1_ := Aside0.mk (Kd.R_mono (ok' := fun k_ => some k_ ≠ (v544 : Value).ownBlock ∧ some k_ ≠ (v554 : Value).ownBlock ∧ some k_ ≠ (.slice Ao42 t557.length co42 : Value).ownBlock) (Kd.R_keptB ((Kd.R_apart' HO_8.out (Kd.R_typed HO_9.out) (by decide))) hkp (fun k_ hk_ hs_ => (hk_.2) hs_)) (fun k_ hk_ => ⟨hk_.1.1.1.1, hk_.1.1.1.2, hk_.1.1.2⟩)); have n2_ := Aside0.mk (Kd.R_reok rfl hy0 (fun k_ e_ => HO_9.out.1 k_ e_)); have n3_ := Aside0.mk (Kd.R_mono (ok' := fun k_ => some k_ ≠ (v544 : Value).ownBlock ∧ some k_ ≠ (.slice Ao20 t546.length co20 : Value).ownBlock ∧ some k_ ≠ (.slice Ao42 t557.length co42 : Value).ownBlock) (Kd.R_keptB ((Kd.R_apart' HO_10.out (Kd.R_typed HO_9.out) (by decide))) hkp (fun k_ hk_ hs_ => (hk_.2) hs_)) (fun k_ hk_ => ⟨hk_.1.1.1, hk_.1.1.2.1, hk_.1.1.2.2⟩)); have n4_ := Aside0.mk (Kd.R_mono (ok' := fun k_ => some k_ ≠ (v544 : Value).ownBlock ∧ some k_ ≠ (.slice Ao20 t546.length co20 : Value).ownBlock ∧ some k_ ≠ (v554 : Value).ownBlock) (Kd.R_keptB ((Kd.R_apart' HO559.out (Kd.R_typed HO_9.out) (by decide))) hkp (fun k_ hk_ hs_ => (hk_.2) hs_)) (fun k_ hk_ => ⟨hk_.1.1.1, hk_.1.1.2.1, hk_.1.1.2.2⟩)); have n5_ := Aside0.mk (Kd.R_mono (ok' := fun k_ => some k_ ≠ (.slice Ao21 t549.length co21 : Value).ownBlock) (Kd.R_keptB (HO563.out) hkp (fun k_ hk_ hs_ => (hk_) hs_)) (fun k_ hk_ => hk_.1)); have n6_ := Aside0.mk (hb); clear HO_6; clear HO_8; clear HO_9; clear HO_10; clear HO559; clear HO563; clear HB; have HO_6 := n0_; have HO_8 := n1_; have HO_9 := n2_; have HO_10 := n3_; have HO559 := n4_; have HO563 := n5_; have HB := n6_; clear n0_ n1_ n2_ n3_ n4_ n5_ n6_; (try clear hb); (try clear hkp); (try clear hy0)))
        (try simp only [Act.put, List.setIfInBounds_toArray, List.set_cons_zero, List.set_cons_succ])
        go_cut [80] (fun v80 wc => ∃ (kq : Nat) (x80_39 : Bool), v80 = .bool x80_39 ∧ Aside0 (laws_FnExactTracesClean.j1 kq l0 l1 t542 t543 t552 x80_39 = some r) ∧ Aside0 (kq ≤ kj11) ∧ Aside0 (Kd.R k40 40 wc w.heap.size (fun k_ => some k_ ≠ (v554 : Value).ownBlock) v544 t542) ∧ Aside0 (Kd.R k40 40 wc w.heap.size (fun k_ => some k_ ≠ (v544 : Value).ownBlock) v554 t552) ∧ Aside0 (Below w.heap.size w wc))
        case first =>
         have H := HC40.out
         clear HC40
         by_cases c48 : t567 < 0
         ·rw [if_pos c48] at H
          have c48b0 : decide (t567 < 0) = true := decide_eq_true c48
          clear c48
          (first | rw [c48b0] | (simp only [i64_w, i32_w]; rw [c48b0]) | skip)
          have H' := Aside0.mk H
          clear H
          go_wp2
          go_meet
          case rel => exact ⟨_, (true), pF, H', ⟨by have := HJ11.out; first | omega | exact Nat.le_refl _⟩, ⟨by (with_reducible repeat (first | apply Kd.R_alloc | apply Kd.R_drewN | apply Kd.R_drew)); exact Kd.R_mono HO_6.out (fun _ hk => hk.2.1)⟩, ⟨by (with_reducible repeat (first | apply Kd.R_alloc | apply Kd.R_drewN | apply Kd.R_drew)); exact Kd.R_mono HO_10.out (fun _ hk => hk.1)⟩, ⟨pB⟩⟩
         ·rw [if_neg c48] at H
          have c48b0 : decide (t567 < 0) = false := decide_eq_false c48
          clear c48
          (first | rw [c48b0] | (simp only [i64_w, i32_w]; rw [c48b0]) | skip)
          replace H := Option.bind_eq_some_iff.mp H
          obtain ⟨t569, A490, H⟩ := H
          replace H : (if t569 = true then (laws_FnExactTracesClean.j1 kj11 l0 l1 t542 t543 t552 (t553 != t543)) else (laws_FnExactTracesClean.j1 kj11 l0 l1 t542 t543 t552 true)) = some r := H
          have A49 := Aside0.mk A490
          clear A490
          by_cases c50 : t569 = true
          ·subst c50
           have H1 : (laws_FnExactTracesClean.j1 kj11 l0 l1 t542 t543 t552 (t553 != t543)) = some r := by rw [if_pos rfl] at H; exact H
           clear H
           have H := H1
           clear H1
           have H' := Aside0.mk H
           clear H
           obtain ⟨Ao51, co51, eo51⟩ := Kd.R_slice HO_10.out
           subst eo51
           obtain ⟨Ao52, co52, eo52⟩ := Kd.R_slice HO_6.out
           subst eo52
           go_wp2_with (first | (go_at_call 18; (with_reducible refine (laws_eqUseS.calls kj11 _ _ t552 _ _ t542 true _ ?side1 ?side2 ?side3 ?side4 A49.out).mono ?_); (case side1 => exact pS ((Kd.R_reads' HO_10.out).2.2)); (case side2 => exact (Kd.R_reads' HO_10.out).2.1); (case side3 => exact pS ((Kd.R_reads' HO_6.out).2.2)); (case side4 => exact (Kd.R_reads' HO_6.out).2.1); rintro e w53 ⟨rfl, hb⟩; have n0_ := Aside0.mk (Kd.R_below (pR HO_6) hb); have n1_ := Aside0.mk (Kd.R_below (pR HO_8) hb); have n2_ := Aside0.mk (Kd.R_below (pR HO_9) hb); have n3_ := Aside0.mk (Kd.R_below (pR HO_10) hb); have n4_ := Aside0.mk (Kd.R_below (pR HO559) hb); have n5_ := Aside0.mk (Kd.R_below (pR HO563) hb); have n6_ := Aside0.mk (below_step pB hb); clear HO_6; clear HO_8; clear HO_9; clear HO_10; clear HO559; clear HO563; clear HB; have HO_6 := n0_; have HO_8 := n1_; have HO_9 := n2_; have HO_10 := n3_; have HO559 := n4_; have HO563 := n5_; have HB := n6_; clear n0_ n1_ n2_ n3_ n4_ n5_ n6_; (try clear hb); (try clear hb2); (try clear hk); (try clear hi)))
           go_meet
           case rel => exact ⟨_, ((t553 != t543)), pF, H', ⟨by have := HJ11.out; first | omega | exact Nat.le_refl _⟩, ⟨by (with_reducible repeat (first | apply Kd.R_alloc | apply Kd.R_drewN | apply Kd.R_drew)); exact Kd.R_mono HO_6.out (fun _ hk => hk.2.1)⟩, ⟨by (with_reducible repeat (first | apply Kd.R_alloc | apply Kd.R_drewN | apply Kd.R_drew)); exact Kd.R_mono HO_10.out (fun _ hk => hk.1)⟩, ⟨pB⟩⟩
          ·replace c50 := Bool.eq_false_iff.mpr c50
           subst c50
           have H1 : (laws_FnExactTracesClean.j1 kj11 l0 l1 t542 t543 t552 true) = some r := by rw [if_neg (show ¬ (false = true) by decide)] at H; exact H
           clear H
           have H := H1
           clear H1
           have H' := Aside0.mk H
           clear H
           obtain ⟨Ao54, co54, eo54⟩ := Kd.R_slice HO_10.out
           subst eo54
           obtain ⟨Ao55, co55, eo55⟩ := Kd.R_slice HO_6.out
           subst eo55
           go_wp2_with (first | (go_at_call 18; (with_reducible refine (laws_eqUseS.calls kj11 _ _ t552 _ _ t542 false _ ?side1 ?side2 ?side3 ?side4 A49.out).mono ?_); (case side1 => exact pS ((Kd.R_reads' HO_10.out).2.2)); (case side2 => exact (Kd.R_reads' HO_10.out).2.1); (case side3 => exact pS ((Kd.R_reads' HO_6.out).2.2)); (case side4 => exact (Kd.R_reads' HO_6.out).2.1); rintro e w56 ⟨rfl, hb⟩; have n0_ := Aside0.mk (Kd.R_below (pR HO_6) hb); have n1_ := Aside0.mk (Kd.R_below (pR HO_8) hb); have n2_ := Aside0.mk (Kd.R_below (pR HO_9) hb); have n3_ := Aside0.mk (Kd.R_below (pR HO_10) hb); have n4_ := Aside0.mk (Kd.R_below (pR HO559) hb); have n5_ := Aside0.mk (Kd.R_below (pR HO563) hb); have n6_ := Aside0.mk (below_step pB hb); clear HO_6; clear HO_8; clear HO_9; clear HO_10; clear HO559; clear HO563; clear HB; have HO_6 := n0_; have HO_8 := n1_; have HO_9 := n2_; have HO_10 := n3_; have HO559 := n4_; have HO563 := n5_; have HB := n6_; clear n0_ n1_ n2_ n3_ n4_ n5_ n6_; (try clear hb); (try clear hb2); (try clear hk); (try clear hi)))
           go_meet
           case rel => exact ⟨_, (true), pF, H', ⟨by have := HJ11.out; first | omega | exact Nat.le_refl _⟩, ⟨by (with_reducible repeat (first | apply Kd.R_alloc | apply Kd.R_drewN | apply Kd.R_drew)); exact Kd.R_mono HO_6.out (fun _ hk => hk.2.1)⟩, ⟨by (with_reducible repeat (first | apply Kd.R_alloc | apply Kd.R_drewN | apply Kd.R_drew)); exact Kd.R_mono HO_10.out (fun _ hk => hk.1)⟩, ⟨pB⟩⟩
        case rest =>
         clear HC40
         try clear c1
         try clear c2
         try clear p2
         try clear c3
         try clear c3b0
         try clear c3b1
         try clear c4
         try clear c5
         try clear c5b0
         try clear c13
         try clear c14
         try clear c16
         try clear c18
         try clear c24
         try clear c27
         try clear c28
         try clear c29
         try clear c31
         try clear c32
         try clear c33
         try clear c34
         try clear c35
         try clear c37
         try clear c48
         try clear c48b0
         try clear c50
         try clear p2
         obtain ⟨kq, x80_39, rfl, HA, HJ39, HO_6, HO_10, HB⟩ := hcut
         cases kq with
         | zero => exact absurd HA.out (by simp [laws_FnExactTracesClean.j1])
         | succ kj39 =>
          have H := HA.out
          clear HA
          simp only [laws_FnExactTracesClean.j1] at H
          by_cases c57 : x80_39 = true
          ·subst c57
           have H1 : (some false) = some r := by rw [if_pos rfl] at H; exact H
           clear H
           have H := H1
           clear H1
           obtain rfl := Option.some.inj H
           go_wp2
           go_ret
           exact ⟨pE, pB⟩
          ·replace c57 := Bool.eq_false_iff.mpr c57
           subst c57
           have H1 : ((laws_markUseS.f kj39 t552 1).bind fun bt570 => ((laws_heldUseS.f kj39 bt570.2 1).bind fun t572 => (if t572 < 0 then (some false) else (if t572 = bt570.1 then ((laws_toUseS.f kj39 l0).bind fun t573 => ((laws_toIntS.f kj39 l1).bind fun t576 => ((impl_TracesClean.f kj39 t573 t576).bind fun bt579 => ((laws_eqUseS.f kj39 bt579.1 t542).bind fun t583 => (if t583 = true then (laws_FnExactTracesClean.j2 kj39 bt570.2 bt570.1 (bt579.2 != t543)) else (laws_FnExactTracesClean.j2 kj39 bt570.2 bt570.1 true)))))) else (some false))))) = some r := by rw [if_neg (show ¬ (false = true) by decide)] at H; exact H
           clear H
           have H := H1
           clear H1
           replace H := Option.bind_eq_some_iff.mp H
           obtain ⟨⟨t570, t571⟩, A580, H⟩ := H
           replace H : ((laws_heldUseS.f kj39 t571 1).bind fun t572 => (if t572 < 0 then (some false) else (if t572 = t570 then ((laws_toUseS.f kj39 l0).bind fun t573 => ((laws_toIntS.f kj39 l1).bind fun t576 => ((impl_TracesClean.f kj39 t573 t576).bind fun bt579 => ((laws_eqUseS.f kj39 bt579.1 t542).bind fun t583 => (if t583 = true then (laws_FnExactTracesClean.j2 kj39 t571 t570 (bt579.2 != t543)) else (laws_FnExactTracesClean.j2 kj39 t571 t570 true)))))) else (some false)))) = some r := H
           have A58 := Aside0.mk A580
           clear A580
           replace H := Option.bind_eq_some_iff.mp H
           obtain ⟨t572, A590, H⟩ := H
           replace H : (if t572 < 0 then (some false) else (if t572 = t570 then ((laws_toUseS.f kj39 l0).bind fun t573 => ((laws_toIntS.f kj39 l1).bind fun t576 => ((impl_TracesClean.f kj39 t573 t576).bind fun bt579 => ((laws_eqUseS.f kj39 bt579.1 t542).bind fun t583 => (if t583 = true then (laws_FnExactTracesClean.j2 kj39 t571 t570 (bt579.2 != t543)) else (laws_FnExactTracesClean.j2 kj39 t571 t570 true)))))) else (some false))) = some r := H
           have A59 := Aside0.mk A590
           clear A590
           by_cases c60 : t572 < 0
           ·rw [if_pos c60] at H
            have c60b0 : decide (t572 < 0) = true := decide_eq_true c60
            clear c60
            obtain rfl := Option.some.inj H
            obtain ⟨Ao61, co61, eo61⟩ := Kd.R_slice HO_10.out
            subst eo61
            go_wp2_with (first | ((with_reducible refine gate_callee (f := 28) rfl ?_); refine goesL_ (some 83) rfl rfl Try.func28 pL rfl #[.slice Ao61 t552.length co61, .int .i64 1] rfl pM ?_; (with_reducible refine (laws_markUseS.calls kj39 (fun k_ => some k_ = (.slice Ao61 t552.length co61 : Value).ownBlock) (.slice Ao61 t552.length co61) t552 1 t570 t571 w _ ?side1 ?side2 A58.out).mono ?_); (case side1 => exact pB); (case side2 => exact Kd.R_tight rfl HO_10.out); rintro e w62 ⟨rfl, hy0, hb, hkp⟩; refine ⟨_, rfl, ?_⟩; have n0_ := Aside0.mk (Kd.R_mono (ok' := fun k_ => some k_ ≠ (.slice Ao61 t552.length co61 : Value).ownBlock) (Kd.R_keptB (HO_6.out) hkp (fun k_ hk_ hs_ => (hk_) hs_)) (fun k_ hk_ => hk_.1)); have n1_ := Aside0.mk (Kd.R_reok rfl hy0 (fun k_ e_ => HO_10.out.1 k_ e_)); have n2_ := Aside0.mk (hb); clear HO_6; clear HO_10; clear HB; have HO_6 := n0_; have HO_10 := n1_; have HB := n2_; clear n0_ n1_ n2_; (try clear hb); (try clear hkp); (try clear hy0)) | ((with_reducible refine gate_callee (f := 36) rfl ?_); refine goesL_ (some 86) rfl rfl Try.func36 pL rfl #[.slice Ao61 t571.length co61, .int .i64 1] rfl (by (try simp only [List.map_toArray, List.map_cons, List.map_nil]); first | done | (rw [show t571.length = t552.length from (Kd.R_reads' HO_10.out).1.symm] <;> rfl) | rfl | (simp only [List.length_drop, List.length_take]; rfl)) ?_; (with_reducible refine (laws_heldUseS.calls kj39 _ _ t571 1 t572 _ ?side1 ?side2 A59.out).mono ?_); (case side1 => exact pS ((Kd.R_reads' HO_10.out).2.2)); (case side2 => rw [show t571.length = t552.length from (Kd.R_reads' HO_10.out).1.symm]; exact (Kd.R_reads' HO_10.out).2.1); rintro e w' ⟨rfl, ⟨nd, rfl⟩⟩; refine ⟨_, rfl, ?_⟩))
            go_ret
            exact ⟨pE, pB⟩
           ·rw [if_neg c60] at H
            have c60b0 : decide (t572 < 0) = false := decide_eq_false c60
            clear c60
            by_cases c63 : t572 = t570
            ·rw [if_pos c63] at H
             have c63b0 : (t572 == t570) = true := beq_iff_eq.mpr c63
             have c63b1 : (t572 != t570) = false := bne_eq_false_iff_eq.mpr c63
             clear c63
             replace H := Option.bind_eq_some_iff.mp H
             obtain ⟨t573, A640, H⟩ := H
             replace H : ((laws_toIntS.f kj39 l1).bind fun t576 => ((impl_TracesClean.f kj39 t573 t576).bind fun bt579 => ((laws_eqUseS.f kj39 bt579.1 t542).bind fun t583 => (if t583 = true then (laws_FnExactTracesClean.j2 kj39 t571 t570 (bt579.2 != t543)) else (laws_FnExactTracesClean.j2 kj39 t571 t570 true))))) = some r := H
             have A64 := Aside0.mk A640
             clear A640
             replace H := Option.bind_eq_some_iff.mp H
             obtain ⟨t576, A650, H⟩ := H
             replace H : ((impl_TracesClean.f kj39 t573 t576).bind fun bt579 => ((laws_eqUseS.f kj39 bt579.1 t542).bind fun t583 => (if t583 = true then (laws_FnExactTracesClean.j2 kj39 t571 t570 (bt579.2 != t543)) else (laws_FnExactTracesClean.j2 kj39 t571 t570 true)))) = some r := H
             have A65 := Aside0.mk A650
             clear A650
             replace H := Option.bind_eq_some_iff.mp H
             obtain ⟨⟨t579, t580⟩, A660, H⟩ := H
             replace H : ((laws_eqUseS.f kj39 t579 t542).bind fun t583 => (if t583 = true then (laws_FnExactTracesClean.j2 kj39 t571 t570 (t580 != t543)) else (laws_FnExactTracesClean.j2 kj39 t571 t570 true))) = some r := H
             have A66 := Aside0.mk A660
             clear A660
             have HC67 := Aside0.mk H
             clear H
             obtain ⟨Ao68, co68, eo68⟩ := Kd.R_slice HO_10.out
             subst eo68
             go_upto_region 31 with (first | ((with_reducible refine gate_callee (f := 28) rfl ?_); refine goesL_ (some 83) rfl rfl Try.func28 pL rfl #[.slice Ao68 t552.length co68, .int .i64 1] rfl pM ?_; (with_reducible refine (laws_markUseS.calls kj39 (fun k_ => some k_ = (.slice Ao68 t552.length co68 : Value).ownBlock) (.slice Ao68 t552.length co68) t552 1 t570 t571 w _ ?side1 ?side2 A58.out).mono ?_); (case side1 => exact pB); (case side2 => exact Kd.R_tight rfl HO_10.out); rintro e w69 ⟨rfl, hy0, hb, hkp⟩; refine ⟨_, rfl, ?_⟩; have n0_ := Aside0.mk (Kd.R_mono (ok' := fun k_ => some k_ ≠ (.slice Ao68 t552.length co68 : Value).ownBlock) (Kd.R_keptB (HO_6.out) hkp (fun k_ hk_ hs_ => (hk_) hs_)) (fun k_ hk_ => hk_.1)); have n1_ := Aside0.mk (Kd.R_reok rfl hy0 (fun k_ e_ => HO_10.out.1 k_ e_)); have n2_ := Aside0.mk (hb); clear HO_6; clear HO_10; clear HB; have HO_6 := n0_; have HO_10 := n1_; have HB := n2_; clear n0_ n1_ n2_; (try clear hb); (try clear hkp); (try clear hy0)) | ((with_reducible refine gate_callee (f := 36) rfl ?_); refine goesL_ (some 86) rfl rfl Try.func36 pL rfl #[.slice Ao68 t571.length co68, .int .i64 1] rfl (by (try simp only [List.map_toArray, List.map_cons, List.map_nil]); first | done | (rw [show t571.length = t552.length from (Kd.R_reads' HO_10.out).1.symm] <;> rfl) | rfl | (simp only [List.length_drop, List.length_take]; rfl)) ?_; (with_reducible refine (laws_heldUseS.calls kj39 _ _ t571 1 t572 _ ?side1 ?side2 A59.out).mono ?_); (case side1 => exact pS ((Kd.R_reads' HO_10.out).2.2)); (case side2 => rw [show t571.length = t552.length from (Kd.R_reads' HO_10.out).1.symm]; exact (Kd.R_reads' HO_10.out).2.1); rintro e w' ⟨rfl, ⟨nd, rfl⟩⟩; refine ⟨_, rfl, ?_⟩) | ((with_reducible refine gate_callee (f := 16) rfl ?_); refine goesL_ (some 94) rfl rfl Try.func16 pL rfl #[.slice A0 l0.length c0] rfl pM ?_; (with_reducible refine (laws_toUseS.calls kj39 _ _ l0 t573 _ ?side1 ?side2 A64.out).mono ?_); (case side1 => exact pS ((Kd.C_below HR0.out pB))); (case side2 => exact HC0.out); rintro e w70 ⟨v574, rfl, ho0, hb⟩; refine ⟨_, rfl, ?_⟩; have n0_ := Aside0.mk (Kd.R_elder' (pR HO_6) (Kd.R_base ho0) hb); have n1_ := Aside0.mk (Kd.R_elder' (pR HO_10) (Kd.R_base ho0) hb); have n2_ := Aside0.mk (Kd.R_lower (Kd.R_new' (Kd.R_new' ho0 (Kd.R_lt (pR HO_6))) (Kd.R_lt (pR HO_10))) (below_size pB)); have n3_ := Aside0.mk (below_step pB hb); clear HO_6; clear HO_10; clear HB; have HO_6 := n0_; have HO_10 := n1_; have HO575 := n2_; have HB := n3_; clear n0_ n1_ n2_ n3_; (try clear hb); (try clear hb2); (try clear hk); (try clear hi); (try clear ho0)) | ((with_reducible refine gate_callee (f := 35) rfl ?_); refine goesL_ (some 96) rfl rfl Try.func35 pL rfl #[.slice A1 l1.length c1] rfl pM ?_; (with_reducible refine (laws_toIntS.calls kj39 _ _ l1 t576 _ ?side1 ?side2 A65.out).mono ?_); (case side1 => exact pS ((Kd.C_below HR1.out HB.out))); (case side2 => exact HC1.out); rintro e w71 ⟨v577, rfl, ho0, hb⟩; refine ⟨_, rfl, ?_⟩; have n0_ := Aside0.mk (Kd.R_below (pR HO_6) hb); have n1_ := Aside0.mk (Kd.R_below (pR HO_10) hb); have n2_ := Aside0.mk (Kd.R_below (pR HO575) hb); have n3_ := Aside0.mk (Kd.R_lower ho0 (below_size pB)); have n4_ := Aside0.mk (below_step pB hb); clear HO_6; clear HO_10; clear HO575; clear HB; have HO_6 := n0_; have HO_10 := n1_; have HO575 := n2_; have HO578 := n3_; have HB := n4_; clear n0_ n1_ n2_ n3_ n4_; (try clear hb); (try clear hb2); (try clear hk); (try clear hi); (try clear ho0); obtain ⟨Ao72, co72, eo72⟩ := Kd.R_slice HO575.out; subst eo72; obtain ⟨Ao73, co73, eo73⟩ := Kd.R_slice HO578.out; subst eo73) | ((with_reducible refine gate_callee (f := 32) rfl ?_); refine goesL_ (some 97) rfl rfl Try.func32 pL rfl #[.slice Ao72 t573.length co72, .slice Ao73 t576.length co73] rfl pM ?_; (with_reducible refine (impl_TracesClean.calls kj39 _ _ t573 _ _ t576 t579 t580 _ ?side1 ?side2 ?side3 ?side4 A66.out).mono ?_); (case side1 => exact pS ((Kd.R_reads' HO575.out).2.2)); (case side2 => exact (Kd.R_reads' HO575.out).2.1); (case side3 => exact pS ((Kd.R_reads' HO578.out).2.2)); (case side4 => exact (Kd.R_reads' HO578.out).2.1); rintro e w74 ⟨v581, rfl, ho0, hb⟩; refine ⟨_, rfl, ?_⟩; have n0_ := Aside0.mk (Kd.R_elder' (pR HO_6) (Kd.R_base ho0) hb); have n1_ := Aside0.mk (Kd.R_elder' (pR HO_10) (Kd.R_base ho0) hb); have n2_ := Aside0.mk (Kd.R_elder' (pR HO575) (Kd.R_base ho0) hb); have n3_ := Aside0.mk (Kd.R_below (pR HO578) hb); have n4_ := Aside0.mk (Kd.R_lower (Kd.R_new' (Kd.R_new' (Kd.R_new' ho0 (Kd.R_lt (pR HO_6))) (Kd.R_lt (pR HO_10))) (Kd.R_lt (pR HO575))) (below_size pB)); have n5_ := Aside0.mk (below_step pB hb); clear HO_6; clear HO_10; clear HO575; clear HO578; clear HB; have HO_6 := n0_; have HO_10 := n1_; have HO575 := n2_; have HO578 := n3_; have HO582 := n4_; have HB := n5_; clear n0_ n1_ n2_ n3_ n4_ n5_; (try clear hb); (try clear hb2); (try clear hk); (try clear hi); (try clear ho0)))
             (try simp only [Act.put, List.setIfInBounds_toArray, List.set_cons_zero, List.set_cons_succ])
             go_cut [108] (fun v108 wc => ∃ (kq : Nat) (x108_66 : Bool), v108 = .bool x108_66 ∧ Aside0 (laws_FnExactTracesClean.j2 kq t571 t570 x108_66 = some r) ∧ Aside0 (kq ≤ kj39) ∧ Aside0 (Kd.R k40 40 wc w.heap.size (fun _ => True) (.slice Ao68 t552.length co68) t571) ∧ Aside0 (Below w.heap.size w wc))
             case first =>
              have H := HC67.out
              clear HC67
              replace H := Option.bind_eq_some_iff.mp H
              obtain ⟨t583, A750, H⟩ := H
              replace H : (if t583 = true then (laws_FnExactTracesClean.j2 kj39 t571 t570 (t580 != t543)) else (laws_FnExactTracesClean.j2 kj39 t571 t570 true)) = some r := H
              have A75 := Aside0.mk A750
              clear A750
              by_cases c76 : t583 = true
              ·subst c76
               have H1 : (laws_FnExactTracesClean.j2 kj39 t571 t570 (t580 != t543)) = some r := by rw [if_pos rfl] at H; exact H
               clear H
               have H := H1
               clear H1
               have H' := Aside0.mk H
               clear H
               obtain ⟨Ao77, co77, eo77⟩ := Kd.R_slice HO582.out
               subst eo77
               obtain ⟨Ao78, co78, eo78⟩ := Kd.R_slice HO_6.out
               subst eo78
               go_wp2_with (first | ((with_reducible refine gate_callee (f := 18) rfl ?_); refine goesL_ (some 102) rfl rfl Try.func18 pL rfl #[.slice Ao77 t579.length co77, .slice Ao78 t542.length co78] rfl pM ?_; (with_reducible refine (laws_eqUseS.calls kj39 _ _ t579 _ _ t542 true _ ?side1 ?side2 ?side3 ?side4 A75.out).mono ?_); (case side1 => exact pS ((Kd.R_reads' HO582.out).2.2)); (case side2 => exact (Kd.R_reads' HO582.out).2.1); (case side3 => exact pS ((Kd.R_reads' HO_6.out).2.2)); (case side4 => exact (Kd.R_reads' HO_6.out).2.1); rintro e w79 ⟨rfl, hb⟩; refine ⟨_, rfl, ?_⟩; have n0_ := Aside0.mk (Kd.R_below (pR HO_6) hb); have n1_ := Aside0.mk (Kd.R_below (pR HO_10) hb); have n2_ := Aside0.mk (Kd.R_below (pR HO575) hb); have n3_ := Aside0.mk (Kd.R_below (pR HO578) hb); have n4_ := Aside0.mk (Kd.R_below (pR HO582) hb); have n5_ := Aside0.mk (below_step pB hb); clear HO_6; clear HO_10; clear HO575; clear HO578; clear HO582; clear HB; have HO_6 := n0_; have HO_10 := n1_; have HO575 := n2_; have HO578 := n3_; have HO582 := n4_; have HB := n5_; clear n0_ n1_ n2_ n3_ n4_ n5_; (try clear hb); (try clear hb2); (try clear hk); (try clear hi)))
               go_meet
               case rel => exact ⟨_, ((t580 != t543)), pF, H', ⟨by have := HJ11.out; have := HJ39.out; first | omega | exact Nat.le_refl _⟩, ⟨by (with_reducible repeat (first | apply Kd.R_alloc | apply Kd.R_drewN | apply Kd.R_drew)); exact Kd.R_mono HO_10.out (fun _ hk => trivial)⟩, ⟨pB⟩⟩
              ·replace c76 := Bool.eq_false_iff.mpr c76
               subst c76
               have H1 : (laws_FnExactTracesClean.j2 kj39 t571 t570 true) = some r := by rw [if_neg (show ¬ (false = true) by decide)] at H; exact H
               clear H
               have H := H1
               clear H1
               have H' := Aside0.mk H
               clear H
               obtain ⟨Ao80, co80, eo80⟩ := Kd.R_slice HO582.out
               subst eo80
               obtain ⟨Ao81, co81, eo81⟩ := Kd.R_slice HO_6.out
               subst eo81
               go_wp2_with (first | ((with_reducible refine gate_callee (f := 18) rfl ?_); refine goesL_ (some 102) rfl rfl Try.func18 pL rfl #[.slice Ao80 t579.length co80, .slice Ao81 t542.length co81] rfl pM ?_; (with_reducible refine (laws_eqUseS.calls kj39 _ _ t579 _ _ t542 false _ ?side1 ?side2 ?side3 ?side4 A75.out).mono ?_); (case side1 => exact pS ((Kd.R_reads' HO582.out).2.2)); (case side2 => exact (Kd.R_reads' HO582.out).2.1); (case side3 => exact pS ((Kd.R_reads' HO_6.out).2.2)); (case side4 => exact (Kd.R_reads' HO_6.out).2.1); rintro e w82 ⟨rfl, hb⟩; refine ⟨_, rfl, ?_⟩; have n0_ := Aside0.mk (Kd.R_below (pR HO_6) hb); have n1_ := Aside0.mk (Kd.R_below (pR HO_10) hb); have n2_ := Aside0.mk (Kd.R_below (pR HO575) hb); have n3_ := Aside0.mk (Kd.R_below (pR HO578) hb); have n4_ := Aside0.mk (Kd.R_below (pR HO582) hb); have n5_ := Aside0.mk (below_step pB hb); clear HO_6; clear HO_10; clear HO575; clear HO578; clear HO582; clear HB; have HO_6 := n0_; have HO_10 := n1_; have HO575 := n2_; have HO578 := n3_; have HO582 := n4_; have HB := n5_; clear n0_ n1_ n2_ n3_ n4_ n5_; (try clear hb); (try clear hb2); (try clear hk); (try clear hi)))
               go_meet
               case rel => exact ⟨_, (true), pF, H', ⟨by have := HJ11.out; have := HJ39.out; first | omega | exact Nat.le_refl _⟩, ⟨by (with_reducible repeat (first | apply Kd.R_alloc | apply Kd.R_drewN | apply Kd.R_drew)); exact Kd.R_mono HO_10.out (fun _ hk => trivial)⟩, ⟨pB⟩⟩
             case rest =>
              clear HC67
              try clear c1
              try clear c2
              try clear p2
              try clear c3
              try clear c3b0
              try clear c3b1
              try clear c4
              try clear c5
              try clear c5b0
              try clear c6
              try clear c7
              try clear c13
              try clear c14
              try clear c16
              try clear c18
              try clear c24
              try clear c27
              try clear c28
              try clear c29
              try clear c31
              try clear c32
              try clear c33
              try clear c34
              try clear c35
              try clear c36
              try clear c37
              try clear c48
              try clear c48b0
              try clear c50
              try clear c57
              try clear c60
              try clear c60b0
              try clear c63
              try clear c63b0
              try clear c63b1
              try clear c76
              try clear p2
              obtain ⟨kq, x108_66, rfl, HA, HJ66, HO_10, HB⟩ := hcut
              have hl10_66 := (Kd.R_reads' HO_10.out).1
              rw [hl10_66] at HO_10
              (try simp only [hl10_66])
              cases kq with
              | zero => exact absurd HA.out (by simp [laws_FnExactTracesClean.j2])
              | succ kj66 =>
               have H := HA.out
               clear HA
               simp only [laws_FnExactTracesClean.j2] at H
               by_cases c83 : x108_66 = true
               ·subst c83
                have H1 : (some false) = some r := by rw [if_pos rfl] at H; exact H
                clear H
                have H := H1
                clear H1
                obtain rfl := Option.some.inj H
                go_wp2
                go_ret
                exact ⟨pE, pB⟩
               ·replace c83 := Bool.eq_false_iff.mpr c83
                subst c83
                have H1 : ((laws_heldUseS.f kj66 t571 1).bind fun t584 => (if t584 < 0 then (some false) else (if t584 = t570 then (some true) else (some false)))) = some r := by rw [if_neg (show ¬ (false = true) by decide)] at H; exact H
                clear H
                have H := H1
                clear H1
                replace H := Option.bind_eq_some_iff.mp H
                obtain ⟨t584, A840, H⟩ := H
                replace H : (if t584 < 0 then (some false) else (if t584 = t570 then (some true) else (some false))) = some r := H
                have A84 := Aside0.mk A840
                clear A840
                by_cases c85 : t584 < 0
                ·rw [if_pos c85] at H
                 have c85b0 : decide (t584 < 0) = true := decide_eq_true c85
                 clear c85
                 obtain rfl := Option.some.inj H
                 go_wp2_with (first | ((with_reducible refine gate_callee (f := 36) rfl ?_); refine goesL_ (some 111) rfl rfl Try.func36 pL rfl #[.slice Ao68 t571.length co68, .int .i64 1] rfl pM ?_; (with_reducible refine (laws_heldUseS.calls kj66 _ _ t571 1 t584 _ ?side1 ?side2 A84.out).mono ?_); (case side1 => exact pS ((Kd.R_reads' HO_10.out).2.2)); (case side2 => exact (Kd.R_reads' HO_10.out).2.1); rintro e w' ⟨rfl, ⟨nd, rfl⟩⟩; refine ⟨_, rfl, ?_⟩))
                 go_ret
                 exact ⟨pE, pB⟩
                ·rw [if_neg c85] at H
                 have c85b0 : decide (t584 < 0) = false := decide_eq_false c85
                 clear c85
                 by_cases c86 : t584 = t570
                 ·rw [if_pos c86] at H
                  have c86b0 : (t584 == t570) = true := beq_iff_eq.mpr c86
                  have c86b1 : (t584 != t570) = false := bne_eq_false_iff_eq.mpr c86
                  clear c86
                  obtain rfl := Option.some.inj H
                  go_wp2_with (first | ((with_reducible refine gate_callee (f := 36) rfl ?_); refine goesL_ (some 111) rfl rfl Try.func36 pL rfl #[.slice Ao68 t571.length co68, .int .i64 1] rfl pM ?_; (with_reducible refine (laws_heldUseS.calls kj66 _ _ t571 1 t584 _ ?side1 ?side2 A84.out).mono ?_); (case side1 => exact pS ((Kd.R_reads' HO_10.out).2.2)); (case side2 => exact (Kd.R_reads' HO_10.out).2.1); rintro e w' ⟨rfl, ⟨nd, rfl⟩⟩; refine ⟨_, rfl, ?_⟩))
                  go_ret
                  exact ⟨pE, pB⟩
                 ·rw [if_neg c86] at H
                  have c86b0 : (t584 == t570) = false := beq_eq_false_iff_ne.mpr c86
                  have c86b1 : (t584 != t570) = true := bne_iff_ne.mpr c86
                  obtain rfl := Option.some.inj H
                  go_wp2_with (first | ((with_reducible refine gate_callee (f := 36) rfl ?_); refine goesL_ (some 111) rfl rfl Try.func36 pL rfl #[.slice Ao68 t571.length co68, .int .i64 1] rfl pM ?_; (with_reducible refine (laws_heldUseS.calls kj66 _ _ t571 1 t584 _ ?side1 ?side2 A84.out).mono ?_); (case side1 => exact pS ((Kd.R_reads' HO_10.out).2.2)); (case side2 => exact (Kd.R_reads' HO_10.out).2.1); rintro e w' ⟨rfl, ⟨nd, rfl⟩⟩; refine ⟨_, rfl, ?_⟩))
                  go_ret
                  exact ⟨pE, pB⟩
            ·rw [if_neg c63] at H
             have c63b0 : (t572 == t570) = false := beq_eq_false_iff_ne.mpr c63
             have c63b1 : (t572 != t570) = true := bne_iff_ne.mpr c63
             obtain rfl := Option.some.inj H
             obtain ⟨Ao87, co87, eo87⟩ := Kd.R_slice HO_10.out
             subst eo87
             go_wp2_with (first | ((with_reducible refine gate_callee (f := 28) rfl ?_); refine goesL_ (some 83) rfl rfl Try.func28 pL rfl #[.slice Ao87 t552.length co87, .int .i64 1] rfl pM ?_; (with_reducible refine (laws_markUseS.calls kj39 (fun k_ => some k_ = (.slice Ao87 t552.length co87 : Value).ownBlock) (.slice Ao87 t552.length co87) t552 1 t570 t571 w _ ?side1 ?side2 A58.out).mono ?_); (case side1 => exact pB); (case side2 => exact Kd.R_tight rfl HO_10.out); rintro e w88 ⟨rfl, hy0, hb, hkp⟩; refine ⟨_, rfl, ?_⟩; have n0_ := Aside0.mk (Kd.R_mono (ok' := fun k_ => some k_ ≠ (.slice Ao87 t552.length co87 : Value).ownBlock) (Kd.R_keptB (HO_6.out) hkp (fun k_ hk_ hs_ => (hk_) hs_)) (fun k_ hk_ => hk_.1)); have n1_ := Aside0.mk (Kd.R_reok rfl hy0 (fun k_ e_ => HO_10.out.1 k_ e_)); have n2_ := Aside0.mk (hb); clear HO_6; clear HO_10; clear HB; have HO_6 := n0_; have HO_10 := n1_; have HB := n2_; clear n0_ n1_ n2_; (try clear hb); (try clear hkp); (try clear hy0)) | ((with_reducible refine gate_callee (f := 36) rfl ?_); refine goesL_ (some 86) rfl rfl Try.func36 pL rfl #[.slice Ao87 t571.length co87, .int .i64 1] rfl (by (try simp only [List.map_toArray, List.map_cons, List.map_nil]); first | done | (rw [show t571.length = t552.length from (Kd.R_reads' HO_10.out).1.symm] <;> rfl) | rfl | (simp only [List.length_drop, List.length_take]; rfl)) ?_; (with_reducible refine (laws_heldUseS.calls kj39 _ _ t571 1 t572 _ ?side1 ?side2 A59.out).mono ?_); (case side1 => exact pS ((Kd.R_reads' HO_10.out).2.2)); (case side2 => rw [show t571.length = t552.length from (Kd.R_reads' HO_10.out).1.symm]; exact (Kd.R_reads' HO_10.out).2.1); rintro e w' ⟨rfl, ⟨nd, rfl⟩⟩; refine ⟨_, rfl, ?_⟩))
             go_ret
             exact ⟨pE, pB⟩
       ·replace c37 := Bool.eq_false_iff.mpr c37
        subst c37
        have H1 : (some false) = some r := by rw [if_neg (show ¬ (false = true) by decide)] at H; exact H
        clear H
        have H := H1
        clear H1
        obtain rfl := Option.some.inj H
        go_wp2_with (first | ((with_reducible refine gate_callee (f := 16) rfl ?_); refine goesL_ (some 54) rfl rfl Try.func16 pL rfl #[.slice A0 l0.length c0] rfl pM ?_; (with_reducible refine (laws_toUseS.calls kj11 _ _ l0 t557 _ ?side1 ?side2 A32.out).mono ?_); (case side1 => exact pS ((Kd.C_below HR0.out HB.out))); (case side2 => exact HC0.out); rintro e w89 ⟨v558, rfl, ho0, hb⟩; refine ⟨_, rfl, ?_⟩; have n0_ := Aside0.mk (Kd.R_elder' (pR HO_6) (Kd.R_base ho0) hb); have n1_ := Aside0.mk (Kd.R_elder' (pR HO_8) (Kd.R_base ho0) hb); have n2_ := Aside0.mk (Kd.R_below (pR HO_9) hb); have n3_ := Aside0.mk (Kd.R_elder' (pR HO_10) (Kd.R_base ho0) hb); have n4_ := Aside0.mk (Kd.R_lower (Kd.R_new' (Kd.R_new' (Kd.R_new' ho0 (Kd.R_lt (pR HO_6))) (Kd.R_lt (pR HO_8))) (Kd.R_lt (pR HO_10))) (below_size pB)); have n5_ := Aside0.mk (below_step pB hb); clear HO_6; clear HO_8; clear HO_9; clear HO_10; clear HB; have HO_6 := n0_; have HO_8 := n1_; have HO_9 := n2_; have HO_10 := n3_; have HO559 := n4_; have HB := n5_; clear n0_ n1_ n2_ n3_ n4_ n5_; (try clear hb); (try clear hb2); (try clear hk); (try clear hi); (try clear ho0); obtain ⟨Ao90, co90, eo90⟩ := Kd.R_slice HO559.out; subst eo90) | ((with_reducible refine gate_callee (f := 18) rfl ?_); refine goesL_ (some 55) rfl rfl Try.func18 pL rfl #[.slice Ao20 t546.length co20, .slice Ao90 t557.length co90] rfl pM ?_; (with_reducible refine (laws_eqUseS.calls kj11 _ _ t546 _ _ t557 true _ ?side1 ?side2 ?side3 ?side4 A33.out).mono ?_); (case side1 => exact pS ((Kd.R_reads' HO_8.out).2.2)); (case side2 => exact (Kd.R_reads' HO_8.out).2.1); (case side3 => exact pS ((Kd.R_reads' HO559.out).2.2)); (case side4 => exact (Kd.R_reads' HO559.out).2.1); rintro e w91 ⟨rfl, hb⟩; refine ⟨_, rfl, ?_⟩; have n0_ := Aside0.mk (Kd.R_below (pR HO_6) hb); have n1_ := Aside0.mk (Kd.R_below (pR HO_8) hb); have n2_ := Aside0.mk (Kd.R_below (pR HO_9) hb); have n3_ := Aside0.mk (Kd.R_below (pR HO_10) hb); have n4_ := Aside0.mk (Kd.R_below (pR HO559) hb); have n5_ := Aside0.mk (below_step pB hb); clear HO_6; clear HO_8; clear HO_9; clear HO_10; clear HO559; clear HB; have HO_6 := n0_; have HO_8 := n1_; have HO_9 := n2_; have HO_10 := n3_; have HO559 := n4_; have HB := n5_; clear n0_ n1_ n2_ n3_ n4_ n5_; (try clear hb); (try clear hb2); (try clear hk); (try clear hi)) | ((with_reducible refine gate_callee (f := 35) rfl ?_); refine goesL_ (some 59) rfl rfl Try.func35 pL rfl #[.slice A1 l1.length c1] rfl pM ?_; (with_reducible refine (laws_toIntS.calls kj11 _ _ l1 t561 _ ?side1 ?side2 A35.out).mono ?_); (case side1 => exact pS ((Kd.C_below HR1.out HB.out))); (case side2 => exact HC1.out); rintro e w92 ⟨v562, rfl, ho0, hb⟩; refine ⟨_, rfl, ?_⟩; have n0_ := Aside0.mk (Kd.R_below (pR HO_6) hb); have n1_ := Aside0.mk (Kd.R_below (pR HO_8) hb); have n2_ := Aside0.mk (Kd.R_elder' (pR HO_9) (Kd.R_base ho0) hb); have n3_ := Aside0.mk (Kd.R_below (pR HO_10) hb); have n4_ := Aside0.mk (Kd.R_below (pR HO559) hb); have n5_ := Aside0.mk (Kd.R_lower (Kd.R_new' ho0 (Kd.R_lt (pR HO_9))) (below_size pB)); have n6_ := Aside0.mk (below_step pB hb); clear HO_6; clear HO_8; clear HO_9; clear HO_10; clear HO559; clear HB; have HO_6 := n0_; have HO_8 := n1_; have HO_9 := n2_; have HO_10 := n3_; have HO559 := n4_; have HO563 := n5_; have HB := n6_; clear n0_ n1_ n2_ n3_ n4_ n5_ n6_; (try clear hb); (try clear hb2); (try clear hk); (try clear hi); (try clear ho0); obtain ⟨Ao93, co93, eo93⟩ := Kd.R_slice HO563.out; subst eo93) | ((with_reducible refine gate_callee (f := 27) rfl ?_); refine goesL_ (some 60) rfl rfl Try.func27 pL rfl #[.slice Ao21 t549.length co21, .slice Ao93 t561.length co93] rfl pM ?_; (with_reducible refine (laws_eqIntS.calls kj11 _ _ t549 _ _ t561 false _ ?side1 ?side2 ?side3 ?side4 A36.out).mono ?_); (case side1 => exact pS ((Kd.R_reads' HO_9.out).2.2)); (case side2 => exact (Kd.R_reads' HO_9.out).2.1); (case side3 => exact pS ((Kd.R_reads' HO563.out).2.2)); (case side4 => exact (Kd.R_reads' HO563.out).2.1); rintro e w' ⟨rfl, ⟨nd, rfl⟩⟩; refine ⟨_, rfl, ?_⟩))
        go_ret
        exact ⟨pE, pB⟩
      ·replace c34 := Bool.eq_false_iff.mpr c34
       subst c34
       have H1 : (some false) = some r := by rw [if_neg (show ¬ (false = true) by decide)] at H; exact H
       clear H
       have H := H1
       clear H1
       obtain rfl := Option.some.inj H
       go_wp2_with (first | ((with_reducible refine gate_callee (f := 16) rfl ?_); refine goesL_ (some 54) rfl rfl Try.func16 pL rfl #[.slice A0 l0.length c0] rfl pM ?_; (with_reducible refine (laws_toUseS.calls kj11 _ _ l0 t557 _ ?side1 ?side2 A32.out).mono ?_); (case side1 => exact pS ((Kd.C_below HR0.out HB.out))); (case side2 => exact HC0.out); rintro e w94 ⟨v558, rfl, ho0, hb⟩; refine ⟨_, rfl, ?_⟩; have n0_ := Aside0.mk (Kd.R_elder' (pR HO_6) (Kd.R_base ho0) hb); have n1_ := Aside0.mk (Kd.R_elder' (pR HO_8) (Kd.R_base ho0) hb); have n2_ := Aside0.mk (Kd.R_below (pR HO_9) hb); have n3_ := Aside0.mk (Kd.R_elder' (pR HO_10) (Kd.R_base ho0) hb); have n4_ := Aside0.mk (Kd.R_lower (Kd.R_new' (Kd.R_new' (Kd.R_new' ho0 (Kd.R_lt (pR HO_6))) (Kd.R_lt (pR HO_8))) (Kd.R_lt (pR HO_10))) (below_size pB)); have n5_ := Aside0.mk (below_step pB hb); clear HO_6; clear HO_8; clear HO_9; clear HO_10; clear HB; have HO_6 := n0_; have HO_8 := n1_; have HO_9 := n2_; have HO_10 := n3_; have HO559 := n4_; have HB := n5_; clear n0_ n1_ n2_ n3_ n4_ n5_; (try clear hb); (try clear hb2); (try clear hk); (try clear hi); (try clear ho0); obtain ⟨Ao95, co95, eo95⟩ := Kd.R_slice HO559.out; subst eo95) | ((with_reducible refine gate_callee (f := 18) rfl ?_); refine goesL_ (some 55) rfl rfl Try.func18 pL rfl #[.slice Ao20 t546.length co20, .slice Ao95 t557.length co95] rfl pM ?_; (with_reducible refine (laws_eqUseS.calls kj11 _ _ t546 _ _ t557 false _ ?side1 ?side2 ?side3 ?side4 A33.out).mono ?_); (case side1 => exact pS ((Kd.R_reads' HO_8.out).2.2)); (case side2 => exact (Kd.R_reads' HO_8.out).2.1); (case side3 => exact pS ((Kd.R_reads' HO559.out).2.2)); (case side4 => exact (Kd.R_reads' HO559.out).2.1); rintro e w96 ⟨rfl, hb⟩; refine ⟨_, rfl, ?_⟩; have n0_ := Aside0.mk (Kd.R_below (pR HO_6) hb); have n1_ := Aside0.mk (Kd.R_below (pR HO_8) hb); have n2_ := Aside0.mk (Kd.R_below (pR HO_9) hb); have n3_ := Aside0.mk (Kd.R_below (pR HO_10) hb); have n4_ := Aside0.mk (Kd.R_below (pR HO559) hb); have n5_ := Aside0.mk (below_step pB hb); clear HO_6; clear HO_8; clear HO_9; clear HO_10; clear HO559; clear HB; have HO_6 := n0_; have HO_8 := n1_; have HO_9 := n2_; have HO_10 := n3_; have HO559 := n4_; have HB := n5_; clear n0_ n1_ n2_ n3_ n4_ n5_; (try clear hb); (try clear hb2); (try clear hk); (try clear hi)))
       go_ret
       exact ⟨pE, pB⟩

end Go.Proofs.Ytglpjchpgjaanaa.Q
