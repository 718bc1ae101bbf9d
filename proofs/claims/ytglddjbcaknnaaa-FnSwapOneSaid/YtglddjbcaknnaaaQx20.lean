-- Written by the kit's print.py for all laws of the seat at once (one namespace), by a program of this session.
import Derived.Test.YtglddjbcaknnaaaQx0
import Derived.Test.YtglddjbcaknnaaaQx14
namespace Go.Proofs.Ytglddjbcaknnaaa.Q
open Go.RowKit Go.Proofs.YtglddjbcaknnaaaW.PrintWords Go.Proofs.YtglddjbcaknnaaaW.PrintLast Go.Proofs.YtglddjbcaknnaaaW.PrintMore
attribute [local go_sem] max2_int min2_int max_two min_two max_three min_three max_four min_four   -- for this text's walks alone
set_option linter.unusedVariables false
set_option linter.unusedSimpArgs false

/-! ### spec_SwapsFor: function 33 -/
mutual
def spec_SwapsFor.l0 : Nat → List (S41) → List (S62) → Int → List Int → Int → Option (List Int)
 | 0, _, _, _, _, _ => none
 | k + 1, x0, x1, x2, x7, x8 => if x8 < (x0.length : Int) then ((spec_SwapsValid.f k x0 x1).bind fun t469 => (spec_SwapsFor.j1 k x0 x1 x2 x7 x8 t469)) else (spec_SwapsFor.j1 k x0 x1 x2 x7 x8 false)
def spec_SwapsFor.j1 : Nat → List (S41) → List (S62) → Int → List Int → Int → Bool → Option (List Int)
 | 0, _, _, _, _, _, _ => none
 | k + 1, x0, x1, x2, x7, x8, x18 => if x18 = true then (if 0 ≤ x8 then (if x8 < (x0.length : Int) then (if ((rd_T41 x0 x8).f0) = x2 then (if x7.length < 17592186044416 then (spec_SwapsFor.l0 k x0 x1 x2 (x7 ++ [x8]) (wrap64 (x8 + 1))) else (none)) else (spec_SwapsFor.l0 k x0 x1 x2 x7 (wrap64 (x8 + 1)))) else (none)) else (none)) else (some x7)
end
def spec_SwapsFor.f (k : Nat) (l0 : List (S41)) (l1 : List (S62)) (a2 : Int) : Option (List Int) := spec_SwapsFor.l0 k l0 l1 a2 (([] : List Int)) 0
theorem spec_SwapsFor.mono_l : ∀ k, (∀ y0 y1 y2 y3 y4, LeO (spec_SwapsFor.l0 k y0 y1 y2 y3 y4) (spec_SwapsFor.l0 (k + 1) y0 y1 y2 y3 y4)) ∧ (∀ y0 y1 y2 y3 y4 y5, LeO (spec_SwapsFor.j1 k y0 y1 y2 y3 y4 y5) (spec_SwapsFor.j1 (k + 1) y0 y1 y2 y3 y4 y5))
 | 0 => ⟨fun _ _ _ _ _ r h => by simp [spec_SwapsFor.l0] at h, fun _ _ _ _ _ _ r h => by simp [spec_SwapsFor.j1] at h⟩
 | k + 1 => by
  obtain ⟨ih0, ih1⟩ := spec_SwapsFor.mono_l k
  refine ⟨?_, ?_⟩
  ·intro y0 y1 y2 y3 y4
   unfold spec_SwapsFor.l0
   repeat' first
   | (with_reducible exact ih0 _ _ _ _ _)
   | (with_reducible exact ih1 _ _ _ _ _ _)
   | (with_reducible exact spec_SwapsValid.mono _ _ _)
   | (with_reducible exact LeO.refl _)
   | (with_reducible exact LeO.none _)
   | (with_reducible refine LeO.ite ?_ ?_)
   | (with_reducible refine LeO.bind ?_ (fun _ => ?_))
   | exact ih0 _ _ _ _ _
   | exact ih1 _ _ _ _ _ _
   | exact spec_SwapsValid.mono _ _ _
   | exact LeO.none _
   | refine LeO.ite ?_ ?_
   | refine LeO.bind ?_ (fun _ => ?_)
  ·intro y0 y1 y2 y3 y4 y5
   unfold spec_SwapsFor.j1
   repeat' first
   | (with_reducible exact ih0 _ _ _ _ _)
   | (with_reducible exact ih1 _ _ _ _ _ _)
   | (with_reducible exact spec_SwapsValid.mono _ _ _)
   | (with_reducible exact LeO.refl _)
   | (with_reducible exact LeO.none _)
   | (with_reducible refine LeO.ite ?_ ?_)
   | (with_reducible refine LeO.bind ?_ (fun _ => ?_))
   | exact ih0 _ _ _ _ _
   | exact ih1 _ _ _ _ _ _
   | exact spec_SwapsValid.mono _ _ _
   | exact LeO.none _
   | refine LeO.ite ?_ ?_
   | refine LeO.bind ?_ (fun _ => ?_)
theorem spec_SwapsFor.mono : ∀ a0 a1 a2 k, LeO (spec_SwapsFor.f k a0 a1 a2) (spec_SwapsFor.f (k + 1) a0 a1 a2) := by
 intro a0 a1 a2 k
 obtain ⟨ih0, ih1⟩ := spec_SwapsFor.mono_l k
 unfold spec_SwapsFor.f
 repeat' first
   | (with_reducible exact ih0 _ _ _ _ _)
   | (with_reducible exact ih1 _ _ _ _ _ _)
   | (with_reducible exact spec_SwapsValid.mono _ _ _)
   | (with_reducible exact LeO.refl _)
   | (with_reducible exact LeO.none _)
   | (with_reducible refine LeO.ite ?_ ?_)
   | (with_reducible refine LeO.bind ?_ (fun _ => ?_))
   | exact ih0 _ _ _ _ _
   | exact ih1 _ _ _ _ _ _
   | exact spec_SwapsValid.mono _ _ _
   | exact LeO.none _
   | refine LeO.ite ?_ ?_
   | refine LeO.bind ?_ (fun _ => ?_)
set_option maxHeartbeats 8000000 in
set_option maxRecDepth 100000 in
theorem spec_SwapsFor.calls (k : Nat) (A0 : Option Addr) (c0 : Nat) (l0 : List (S41)) (A1 : Option Addr) (c1 : Nat) (l1 : List (S62)) (a2 : Int) (r : List Int) (w : World) (hr0 : Kd.C k41 w A0 l0.length l0) (hc0 : l0.length ≤ c0) (hr1 : Kd.C k62 w A1 l1.length l1) (hc1 : l1.length ≤ c1) (h : spec_SwapsFor.f k l0 l1 a2 = some r) :
  Calls Try.prog 33 #[.slice A0 l0.length c0, .slice A1 l1.length c1, .int .i64 a2] w fun e w' => ∃ v0_ : Value, e = .returned (v0_) ∧ Kd.R (Kd.int .i64) 3 w' w.heap.size (fun _ => True) v0_ r ∧ Below w.heap.size w w' := by
 have HR0 := Aside0.mk hr0
 have HC0 := Aside0.mk hc0
 clear hr0 hc0
 have HR1 := Aside0.mk hr1
 have HC1 := Aside0.mk hc1
 clear hr1 hc1
 have HB := Aside0.mk (Below.refl w.heap.size w)
 have H : (spec_SwapsFor.l0 k l0 l1 a2 (([] : List Int)) 0) = some r := h
 clear h
 obtain ⟨y466, hy466⟩ : ∃ y_ : List Int, y_ = (([] : List Int)) := ⟨_, rfl⟩
 replace H : (spec_SwapsFor.l0 k l0 l1 a2 y466 0) = some r := by first | (rw [hy466]; with_reducible exact H) | (have H2_ := (Option.bind_some _ _).symm.trans H; rw [hy466]; with_reducible exact H2_) | (have H2_ := (Option.bind_some _ _).symm.trans H; with_reducible exact H2_) | with_reducible exact H | (rw [hy466]; exact H) | exact H
 have Ny466 := Aside0.mk hy466
 clear hy466
 have H' := Aside0.mk H
 clear H
 go_enter Try.func33, Try.ntmps33
 go_wp2_with (first | ((with_reducible refine gate_dst (N := 9) rfl ?_); refine Kd.R_lit (Kd.int .i64) _ 3 ?hg (N := 9) ?hd (xs := ([] : List Int)) (inner := []) (ok := fun _ => True) (okp := fun _ => True) ?hr ?hp (fun _ hk => hk) trivial (Below.refl _ _) (Nat.le_refl _) (by simp) ?_; (case hd => rfl); (case hg => rfl); (case hr => first | (go_simp; done) | (go_simp; rfl)); (case hp => exact (Reps.none _ _)); intro v467 w4 ho5 hb hg_ hnew_; clear hg_ hnew_; (first | rw [← Ny466.out] at ho5 | (simp only [Int.reduceToNat] at ho5; rw [← Ny466.out] at ho5)); have n0_ := Aside0.mk (Kd.R_lower ho5 (below_size pB)); have n1_ := Aside0.mk (below_step pB hb); clear HB; have HO468 := n0_; have HB := n1_; clear n0_ n1_; clear hb ho5))
 go_loopg [7, 8] k (fun kq v7 v8 w' => ∃ (x7_1 : List Int) (x8_1 : Int), v8 = .int .i64 x8_1 ∧ Aside0 (spec_SwapsFor.l0 kq l0 l1 a2 x7_1 x8_1 = some r) ∧ Aside0 (kq ≤ k) ∧ Aside0 (Kd.R (Kd.int .i64) 3 w' w.heap.size (fun _ => True) v7 x7_1) ∧ Aside0 (Below w.heap.size w w'))
 case atStart => exact ⟨(y466), (0), pF, H', ⟨Nat.le_refl _⟩, ⟨pR HO468⟩, ⟨pB⟩⟩
 case round =>
  clear H'
  try clear c1
  try clear p2
  try clear c3
  obtain ⟨x7_1, x8_1, rfl, HA, HK1, HO_7, HB⟩ := hrel
  cases gk with
  | zero => exact absurd HA.out (by simp [spec_SwapsFor.l0])
  | succ k1 =>
   have H := HA.out
   clear HA
   simp only [spec_SwapsFor.l0] at H
   have HC6 := Aside0.mk H
   clear H
   go_upto_region 3 with (fail)
   go_cut [18] (fun v18 wc => ∃ (kq : Nat) (x18_5 : Bool), v18 = .bool x18_5 ∧ Aside0 (spec_SwapsFor.j1 kq l0 l1 a2 x7_1 x8_1 x18_5 = some r) ∧ Aside0 (kq ≤ k1) ∧ Aside0 (Kd.R (Kd.int .i64) 3 wc w.heap.size (fun _ => True) u7 x7_1) ∧ Aside0 (Below w.heap.size w wc))
   case first =>
    have H := HC6.out
    clear HC6
    by_cases c7 : x8_1 < (l0.length : Int)
    ·rw [if_pos c7] at H
     have c7b0 : decide (x8_1 < (l0.length : Int)) = true := decide_eq_true c7
     clear c7
     (first | rw [c7b0] | (simp only [i64_w, i32_w]; rw [c7b0]) | skip)
     replace H := Option.bind_eq_some_iff.mp H
     obtain ⟨t469, A80, H⟩ := H
     replace H : (spec_SwapsFor.j1 k1 l0 l1 a2 x7_1 x8_1 t469) = some r := H
     have A8 := Aside0.mk A80
     clear A80
     have H' := Aside0.mk H
     clear H
     go_wp2_with (first | (go_at_call 25; (with_reducible refine (spec_SwapsValid.calls k1 _ _ l0 _ _ l1 t469 _ ?side1 ?side2 ?side3 ?side4 A8.out).mono ?_); (case side1 => exact pS ((Kd.C_below HR0.out HB.out))); (case side2 => exact HC0.out); (case side3 => exact pS ((Kd.C_below HR1.out HB.out))); (case side4 => exact HC1.out); rintro e w9 ⟨rfl, hb⟩; have n0_ := Aside0.mk (Kd.R_below (pR HO_7) hb); have n1_ := Aside0.mk (below_step pB hb); clear HO_7; clear HB; have HO_7 := n0_; have HB := n1_; clear n0_ n1_; (try clear hb); (try clear hb2); (try clear hk); (try clear hi)))
     go_meet
     case rel => exact ⟨_, (t469), pF, H', ⟨by have := HK1.out; first | omega | exact Nat.le_refl _⟩, ⟨pR HO_7⟩, ⟨pB⟩⟩
    ·rw [if_neg c7] at H
     have c7b0 : decide (x8_1 < (l0.length : Int)) = false := decide_eq_false c7
     clear c7
     (first | rw [c7b0] | (simp only [i64_w, i32_w]; rw [c7b0]) | skip)
     have H' := Aside0.mk H
     clear H
     go_wp2
     go_meet
     case rel => exact ⟨_, (false), pF, H', ⟨by have := HK1.out; first | omega | exact Nat.le_refl _⟩, ⟨pR HO_7⟩, ⟨pB⟩⟩
   case rest =>
    clear HC6
    try clear c1
    try clear p2
    try clear c3
    try clear c7
    try clear c7b0
    try clear p2
    obtain ⟨kq, x18_5, rfl, HA, HJ5, HO_7, HB⟩ := hcut
    cases kq with
    | zero => exact absurd HA.out (by simp [spec_SwapsFor.j1])
    | succ kj5 =>
     have H := HA.out
     clear HA
     simp only [spec_SwapsFor.j1] at H
     by_cases c10 : x18_5 = true
     ·subst c10
      have H1 : (if 0 ≤ x8_1 then (if x8_1 < (l0.length : Int) then (if ((rd_T41 l0 x8_1).f0) = a2 then (if x7_1.length < 17592186044416 then (spec_SwapsFor.l0 kj5 l0 l1 a2 (x7_1 ++ [x8_1]) (wrap64 (x8_1 + 1))) else (none)) else (spec_SwapsFor.l0 kj5 l0 l1 a2 x7_1 (wrap64 (x8_1 + 1)))) else (none)) else (none)) = some r := by rw [if_pos rfl] at H; exact H
      clear H
      have H := H1
      clear H1
      by_cases c11 : 0 ≤ x8_1
      ·rw [if_pos c11] at H
       have c11b0 : decide (0 ≤ x8_1) = true := decide_eq_true c11
       clear c11
       by_cases c12 : x8_1 < (l0.length : Int)
       ·rw [if_pos c12] at H
        have c12b0 : decide (x8_1 < (l0.length : Int)) = true := decide_eq_true c12
        clear c12
        by_cases c13 : ((rd_T41 l0 x8_1).f0) = a2
        ·rw [if_pos c13] at H
         have c13b0 : (((rd_T41 l0 x8_1).f0) == a2) = true := beq_iff_eq.mpr c13
         have c13b1 : (((rd_T41 l0 x8_1).f0) != a2) = false := bne_eq_false_iff_eq.mpr c13
         clear c13
         by_cases c14 : x7_1.length < 17592186044416
         ·rw [if_pos c14] at H
          have LMc14 := Aside0.mk c14
          clear c14
          obtain ⟨y471, hy471⟩ : ∃ y_ : List Int, y_ = (x7_1 ++ [x8_1]) := ⟨_, rfl⟩
          replace H : (spec_SwapsFor.l0 kj5 l0 l1 a2 y471 (wrap64 (x8_1 + 1))) = some r := by first | (rw [hy471]; with_reducible exact H) | (have H2_ := (Option.bind_some _ _).symm.trans H; rw [hy471]; with_reducible exact H2_) | (have H2_ := (Option.bind_some _ _).symm.trans H; with_reducible exact H2_) | with_reducible exact H | (rw [hy471]; exact H) | exact H
          have Ny471 := Aside0.mk hy471
          clear hy471
          have H' := Aside0.mk H
          clear H
          have p470 : 0 ≤ (x8_1 : Int) := of_decide_eq_true pA
          have q470 : x8_1 < (l0.length : Int) := of_decide_eq_true pA
          obtain ⟨ad470, e470, hx470_0, hx470_1, hx470_2, hx470_3⟩ := at_T41 HR0.out x8_1 p470 q470
          cases e470
          replace hx470_0 := (HB.out.cell (World.block_lt_of_cell? w _ hx470_0)).trans hx470_0
          replace hx470_1 := (HB.out.cell (World.block_lt_of_cell? w _ hx470_1)).trans hx470_1
          replace hx470_2 := (HB.out.cell (World.block_lt_of_cell? w _ hx470_2)).trans hx470_2
          replace hx470_3 := (HB.out.cell (World.block_lt_of_cell? w _ hx470_3)).trans hx470_3
          replace p470 := eq_true p470
          replace q470 := eq_true q470
          go_wp2_with (first | ((with_reducible refine gate_builtin (b := .append) (xs := #[.tmp 28, .tmp 30]) rfl ?_); at_builtin; refine Kd.R_append (Kd.int .i64) (w0 := w) w.heap.size rfl (.tmp 28) (.tmp 30) 23 3 (.int .i64 0) 8 rfl Try.underlying23 info3 rfl (by decide) (by omega) u7 x7_1 x8_1 [.int .i64 x8_1] (fun _ => True) (fun _ => False) rfl rfl ?aP (fun _ hk => hk.elim) ?aF ?aO ?aB ?aS ?aL ?_; (case aP => exact rfl); (case aB => exact pB); (case aF => exact (fun _ _ => trivial)); (case aO => exact (pR HO_7)); (case aS => exact (below_size pB)); (case aL => have := LMc14.out; omega); intro v472 w15 ho hb hg hat; rw [← Ny471.out] at ho; have n0_ := Aside0.mk (hb); have n1_ := Aside0.mk (ho); clear HB; clear HO_7; have HB := n0_; have HO473 := n1_; clear n0_ n1_; clear ho hb hg hat))
          go_roundg kj5
          case measure => have := HK1.out; have := HJ5.out; omega
          case rel => exact ⟨(y471), (wrap64 (x8_1 + 1)), pF, H', ⟨by have := HK1.out; have := HJ5.out; omega⟩, ⟨pR HO473⟩, ⟨pB⟩⟩
         ·rw [if_neg c14] at H
          exact absurd H (by simp)
        ·rw [if_neg c13] at H
         have c13b0 : (((rd_T41 l0 x8_1).f0) == a2) = false := beq_eq_false_iff_ne.mpr c13
         have c13b1 : (((rd_T41 l0 x8_1).f0) != a2) = true := bne_iff_ne.mpr c13
         have H' := Aside0.mk H
         clear H
         have p470 : 0 ≤ (x8_1 : Int) := of_decide_eq_true pA
         have q470 : x8_1 < (l0.length : Int) := of_decide_eq_true pA
         obtain ⟨ad470, e470, hx470_0, hx470_1, hx470_2, hx470_3⟩ := at_T41 HR0.out x8_1 p470 q470
         cases e470
         replace hx470_0 := (HB.out.cell (World.block_lt_of_cell? w _ hx470_0)).trans hx470_0
         replace hx470_1 := (HB.out.cell (World.block_lt_of_cell? w _ hx470_1)).trans hx470_1
         replace hx470_2 := (HB.out.cell (World.block_lt_of_cell? w _ hx470_2)).trans hx470_2
         replace hx470_3 := (HB.out.cell (World.block_lt_of_cell? w _ hx470_3)).trans hx470_3
         replace p470 := eq_true p470
         replace q470 := eq_true q470
         go_wp2
         go_roundg kj5
         case measure => have := HK1.out; have := HJ5.out; omega
         case rel => exact ⟨(x7_1), (wrap64 (x8_1 + 1)), pF, H', ⟨by have := HK1.out; have := HJ5.out; omega⟩, ⟨pR HO_7⟩, ⟨pB⟩⟩
       ·rw [if_neg c12] at H
        exact absurd H (by simp)
      ·rw [if_neg c11] at H
       exact absurd H (by simp)
     ·replace c10 := Bool.eq_false_iff.mpr c10
      subst c10
      have H1 : (some x7_1) = some r := by rw [if_neg (show ¬ (false = true) by decide)] at H; exact H
      clear H
      have H := H1
      clear H1
      obtain rfl := Option.some.inj H
      go_wp2
      go_ret
      exact ⟨_, pE, pR HO_7, pB⟩

end Go.Proofs.Ytglddjbcaknnaaa.Q
