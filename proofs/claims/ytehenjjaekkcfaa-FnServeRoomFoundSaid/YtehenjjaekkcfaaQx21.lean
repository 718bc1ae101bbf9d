-- Written by the kit's print.py for all laws of the seat at once (one namespace), by a program of this session.
import Derived.Test.YtehenjjaekkcfaaQx0
import Derived.Test.YtehenjjaekkcfaaQx2
import Derived.Test.YtehenjjaekkcfaaQx9
namespace Go.Proofs.Ytehenjjaekkcfaa.Q
open Go.RowKit Go.Proofs.YtehenjjaekkcfaaW.PrintWords Go.Proofs.YtehenjjaekkcfaaW.PrintLast Go.Proofs.YtehenjjaekkcfaaW.PrintMore
attribute [local go_sem] max2_int min2_int max_two min_two max_three min_three max_four min_four   -- for this text's walks alone
set_option linter.unusedVariables false
set_option linter.unusedSimpArgs false

/-! ### impl_ServeFits: function 35 -/
mutual
def impl_ServeFits.j0 : Nat → List (S43) → List (S32) → List Int → Bool → Option (Bool)
 | 0, _, _, _, _ => none
 | k + 1, x0, x1, x2, x24 => if x24 = true then (some false) else (if 0 ≤ (x1.length : Int) then (if ((x1.length : Int) : Int).toNat ≤ 35184372088832 then (impl_ServeFits.l0 k x0 x1 (List.replicate ((x1.length : Int) : Int).toNat 0) x2 (x2.length : Int) 0) else (none)) else (none))
def impl_ServeFits.l0 : Nat → List (S43) → List (S32) → List Int → List Int → Int → Int → Option (Bool)
 | 0, _, _, _, _, _, _ => none
 | k + 1, x0, x1, x7, x28, x29, x30 => if x30 < x29 then (if 0 ≤ x30 then (if x30 < (x28.length : Int) then ((impl_within.f (rd x28 x30) 0 (wrap64 ((x1.length : Int) - 1))).bind fun t452 => (if t452 = true then (if 0 ≤ (rd x28 x30) then (if (rd x28 x30) < (x1.length : Int) then (if x30 < (x0.length : Int) then ((impl_Choice_may.f ((rd_T32 x1 (rd x28 x30)).f0) ((rd_T32 x1 (rd x28 x30)).f1) ((rd_T32 x1 (rd x28 x30)).f2) ((rd_T43 x0 x30).f0) ((rd_T43 x0 x30).f1) ((rd_T43 x0 x30).f2)).bind fun t455 => (impl_ServeFits.j2 k x0 x1 x7 (rd x28 x30) x28 x29 x30 (!t455))) else (none)) else (none)) else (none)) else (impl_ServeFits.j2 k x0 x1 x7 (rd x28 x30) x28 x29 x30 true))) else (none)) else (none)) else (some true)
def impl_ServeFits.j2 : Nat → List (S43) → List (S32) → List Int → Int → List Int → Int → Int → Bool → Option (Bool)
 | 0, _, _, _, _, _, _, _, _ => none
 | k + 1, x0, x1, x7, x9, x28, x29, x30, x52 => if x52 = true then (some false) else (if 0 ≤ x9 then (if x9 < (x7.length : Int) then ((some (x7.set (x9 : Int).toNat (wrap64 ((rd x7 x9) + 1)) : List Int)).bind fun y457 => (if x9 < (x1.length : Int) then (if (rd y457 x9) > ((rd_T32 x1 x9).f2) then (some false) else (impl_ServeFits.l0 k x0 x1 y457 x28 x29 (wrap64 (x30 + 1)))) else (none))) else (none)) else (none))
end
def impl_ServeFits.f (k : Nat) (l0 : List (S43)) (l1 : List (S32)) (l2 : List Int) : Option (Bool) := (impl_GuestsValid.f k l0).bind fun t446 => (if t446 = true then ((impl_ChoicesValid.f l1).bind fun t447 => (if t447 = true then (impl_ServeFits.j0 k l0 l1 l2 ((l2.length : Int) != (l0.length : Int))) else (impl_ServeFits.j0 k l0 l1 l2 true))) else (impl_ServeFits.j0 k l0 l1 l2 true))
theorem impl_ServeFits.mono_l : ∀ k, (∀ y0 y1 y2 y3, LeO (impl_ServeFits.j0 k y0 y1 y2 y3) (impl_ServeFits.j0 (k + 1) y0 y1 y2 y3)) ∧ (∀ y0 y1 y2 y3 y4 y5, LeO (impl_ServeFits.l0 k y0 y1 y2 y3 y4 y5) (impl_ServeFits.l0 (k + 1) y0 y1 y2 y3 y4 y5)) ∧ (∀ y0 y1 y2 y3 y4 y5 y6 y7, LeO (impl_ServeFits.j2 k y0 y1 y2 y3 y4 y5 y6 y7) (impl_ServeFits.j2 (k + 1) y0 y1 y2 y3 y4 y5 y6 y7))
 | 0 => ⟨fun _ _ _ _ r h => by simp [impl_ServeFits.j0] at h, fun _ _ _ _ _ _ r h => by simp [impl_ServeFits.l0] at h, fun _ _ _ _ _ _ _ _ r h => by simp [impl_ServeFits.j2] at h⟩
 | k + 1 => by
  obtain ⟨ih0, ih1, ih2⟩ := impl_ServeFits.mono_l k
  refine ⟨?_, ?_, ?_⟩
  ·intro y0 y1 y2 y3
   unfold impl_ServeFits.j0
   repeat' first
   | (with_reducible exact ih0 _ _ _ _)
   | (with_reducible exact ih1 _ _ _ _ _ _)
   | (with_reducible exact ih2 _ _ _ _ _ _ _ _)
   | (with_reducible exact impl_GuestsValid.mono _ _)
   | (with_reducible exact LeO.refl _)
   | (with_reducible exact LeO.none _)
   | (with_reducible refine LeO.ite ?_ ?_)
   | (with_reducible refine LeO.bind ?_ (fun _ => ?_))
   | exact ih0 _ _ _ _
   | exact ih1 _ _ _ _ _ _
   | exact ih2 _ _ _ _ _ _ _ _
   | exact impl_GuestsValid.mono _ _
   | exact LeO.none _
   | refine LeO.ite ?_ ?_
   | refine LeO.bind ?_ (fun _ => ?_)
  ·intro y0 y1 y2 y3 y4 y5
   unfold impl_ServeFits.l0
   repeat' first
   | (with_reducible exact ih0 _ _ _ _)
   | (with_reducible exact ih1 _ _ _ _ _ _)
   | (with_reducible exact ih2 _ _ _ _ _ _ _ _)
   | (with_reducible exact impl_GuestsValid.mono _ _)
   | (with_reducible exact LeO.refl _)
   | (with_reducible exact LeO.none _)
   | (with_reducible refine LeO.ite ?_ ?_)
   | (with_reducible refine LeO.bind ?_ (fun _ => ?_))
   | exact ih0 _ _ _ _
   | exact ih1 _ _ _ _ _ _
   | exact ih2 _ _ _ _ _ _ _ _
   | exact impl_GuestsValid.mono _ _
   | exact LeO.none _
   | refine LeO.ite ?_ ?_
   | refine LeO.bind ?_ (fun _ => ?_)
  ·intro y0 y1 y2 y3 y4 y5 y6 y7
   unfold impl_ServeFits.j2
   repeat' first
   | (with_reducible exact ih0 _ _ _ _)
   | (with_reducible exact ih1 _ _ _ _ _ _)
   | (with_reducible exact ih2 _ _ _ _ _ _ _ _)
   | (with_reducible exact impl_GuestsValid.mono _ _)
   | (with_reducible exact LeO.refl _)
   | (with_reducible exact LeO.none _)
   | (with_reducible refine LeO.ite ?_ ?_)
   | (with_reducible refine LeO.bind ?_ (fun _ => ?_))
   | exact ih0 _ _ _ _
   | exact ih1 _ _ _ _ _ _
   | exact ih2 _ _ _ _ _ _ _ _
   | exact impl_GuestsValid.mono _ _
   | exact LeO.none _
   | refine LeO.ite ?_ ?_
   | refine LeO.bind ?_ (fun _ => ?_)
theorem impl_ServeFits.mono : ∀ a0 a1 a2 k, LeO (impl_ServeFits.f k a0 a1 a2) (impl_ServeFits.f (k + 1) a0 a1 a2) := by
 intro a0 a1 a2 k
 obtain ⟨ih0, ih1, ih2⟩ := impl_ServeFits.mono_l k
 unfold impl_ServeFits.f
 repeat' first
   | (with_reducible exact ih0 _ _ _ _)
   | (with_reducible exact ih1 _ _ _ _ _ _)
   | (with_reducible exact ih2 _ _ _ _ _ _ _ _)
   | (with_reducible exact impl_GuestsValid.mono _ _)
   | (with_reducible exact LeO.refl _)
   | (with_reducible exact LeO.none _)
   | (with_reducible refine LeO.ite ?_ ?_)
   | (with_reducible refine LeO.bind ?_ (fun _ => ?_))
   | exact ih0 _ _ _ _
   | exact ih1 _ _ _ _ _ _
   | exact ih2 _ _ _ _ _ _ _ _
   | exact impl_GuestsValid.mono _ _
   | exact LeO.none _
   | refine LeO.ite ?_ ?_
   | refine LeO.bind ?_ (fun _ => ?_)
def impl_ServeFits.T7 : Bool × List (List Nat × List Nat) := (true, [([], []), ([], []), ([1], [1]), ([2], [2]), ([0, 3], [0, 3]), ([4], [4]), ([5, 4], [5]), ([6], [6]), ([6], [6]), ([7, 8, 6], [6, 7, 8]), ([9, 6], [6, 9]), ([6], [6]), ([6], [6]), ([11, 12, 6], [6, 11, 12]), ([13, 6], [6, 13]), ([10, 14, 6, 6], [6, 10, 14]), ([15, 6], [6, 15]), ([6, 16], [6, 16])])
def impl_ServeFits.B7 : List Nat := [0, 0, 2, 6, 15, 31, 63, 127, 127, 511, 1023, 127, 127, 6271, 14463, 32767, 65535, 131071]
theorem impl_ServeFits.tab7 : rtab .any (opsOf Try.f35 7) = impl_ServeFits.T7 := by kernel_rfl
theorem impl_ServeFits.bits7 : waitsOk impl_ServeFits.T7.2 impl_ServeFits.B7 = true := by kernel_rfl
def impl_ServeFits.T10 : Bool × List (List Nat × List Nat) := (true, [([], []), ([], []), ([0, 1], [0, 1]), ([2], [2]), ([], []), ([], []), ([4, 5], [4, 5]), ([6], [6]), ([7], [7]), ([3, 8], [3, 8])])
def impl_ServeFits.B10 : List Nat := [0, 0, 3, 7, 0, 0, 48, 112, 240, 511]
theorem impl_ServeFits.tab10 : rtab .any (opsOf Try.f35 10) = impl_ServeFits.T10 := by kernel_rfl
theorem impl_ServeFits.bits10 : waitsOk impl_ServeFits.T10.2 impl_ServeFits.B10 = true := by kernel_rfl
set_option maxHeartbeats 8000000 in
set_option maxRecDepth 100000 in
theorem impl_ServeFits.calls (k : Nat) (A0 : Option Addr) (c0 : Nat) (l0 : List (S43)) (A1 : Option Addr) (c1 : Nat) (l1 : List (S32)) (A2 : Option Addr) (c2 : Nat) (l2 : List Int) (r : Bool) (w : World) (hr0 : Kd.C k43 w A0 l0.length l0) (hc0 : l0.length ≤ c0) (hr1 : Kd.C k32 w A1 l1.length l1) (hc1 : l1.length ≤ c1) (hr2 : Kd.C (Kd.int .i64) w A2 l2.length l2) (hc2 : l2.length ≤ c2) (h : impl_ServeFits.f k l0 l1 l2 = some r) :
  Calls Try.prog 35 #[.slice A0 l0.length c0, .slice A1 l1.length c1, .slice A2 l2.length c2] w fun e w' => e = .returned (.bool r) ∧ Below w.heap.size w w' := by
 have hu32 := Try.underlying32
 have hu43 := Try.underlying43
 have HR0 := Aside0.mk hr0
 have HC0 := Aside0.mk hc0
 clear hr0 hc0
 have HR1 := Aside0.mk hr1
 have HC1 := Aside0.mk hc1
 clear hr1 hc1
 have HR2 := Aside0.mk hr2
 have HC2 := Aside0.mk hc2
 clear hr2 hc2
 have HB := Aside0.mk (Below.refl w.heap.size w)
 have H : ((impl_GuestsValid.f k l0).bind fun t446 => (if t446 = true then ((impl_ChoicesValid.f l1).bind fun t447 => (if t447 = true then (impl_ServeFits.j0 k l0 l1 l2 ((l2.length : Int) != (l0.length : Int))) else (impl_ServeFits.j0 k l0 l1 l2 true))) else (impl_ServeFits.j0 k l0 l1 l2 true))) = some r := h
 clear h
 have HC4 := Aside0.mk H
 clear H
 go_enter Try.func35, Try.ntmps35
 go_upto_region 1 with (fail)
 go_cut [24] (fun v24 wc => ∃ (kq : Nat) (x24_3 : Bool), v24 = .bool x24_3 ∧ Aside0 (impl_ServeFits.j0 kq l0 l1 l2 x24_3 = some r) ∧ Aside0 (kq ≤ k) ∧ Aside0 (Below w.heap.size w wc))
 case first =>
  have H := HC4.out
  clear HC4
  replace H := Option.bind_eq_some_iff.mp H
  obtain ⟨t446, A50, H⟩ := H
  replace H : (if t446 = true then ((impl_ChoicesValid.f l1).bind fun t447 => (if t447 = true then (impl_ServeFits.j0 k l0 l1 l2 ((l2.length : Int) != (l0.length : Int))) else (impl_ServeFits.j0 k l0 l1 l2 true))) else (impl_ServeFits.j0 k l0 l1 l2 true)) = some r := H
  have A5 := Aside0.mk A50
  clear A50
  by_cases c6 : t446 = true
  ·subst c6
   have H1 : ((impl_ChoicesValid.f l1).bind fun t447 => (if t447 = true then (impl_ServeFits.j0 k l0 l1 l2 ((l2.length : Int) != (l0.length : Int))) else (impl_ServeFits.j0 k l0 l1 l2 true))) = some r := by rw [if_pos rfl] at H; exact H
   clear H
   have H := H1
   clear H1
   replace H := Option.bind_eq_some_iff.mp H
   obtain ⟨t447, A70, H⟩ := H
   replace H : (if t447 = true then (impl_ServeFits.j0 k l0 l1 l2 ((l2.length : Int) != (l0.length : Int))) else (impl_ServeFits.j0 k l0 l1 l2 true)) = some r := H
   have A7 := Aside0.mk A70
   clear A70
   by_cases c8 : t447 = true
   ·subst c8
    have H1 : (impl_ServeFits.j0 k l0 l1 l2 ((l2.length : Int) != (l0.length : Int))) = some r := by rw [if_pos rfl] at H; exact H
    clear H
    have H := H1
    clear H1
    have H' := Aside0.mk H
    clear H
    go_wp2_with (first | ((with_reducible refine gate_callee (f := 58) rfl ?_); refine goesL_ (some 11) rfl rfl Try.func58 pL rfl #[.slice A0 l0.length c0] rfl pM ?_; (with_reducible refine (impl_GuestsValid.calls k _ _ l0 true _ ?side1 ?side2 A5.out).mono ?_); (case side1 => exact pS ((Kd.C_below HR0.out HB.out))); (case side2 => exact HC0.out); rintro e w9 ⟨rfl, hb⟩; refine ⟨_, rfl, ?_⟩; have n0_ := Aside0.mk (below_step pB hb); clear HB; have HB := n0_; clear n0_; (try clear hb); (try clear hb2); (try clear hk); (try clear hi)) | (go_at_call 19; (with_reducible refine (impl_ChoicesValid.calls _ _ l1 true _ ?side1 ?side2 A7.out).mono ?_); (case side1 => exact pS ((Kd.C_below HR1.out HB.out))); (case side2 => exact HC1.out); rintro e w10 ⟨rfl, hb⟩; have n0_ := Aside0.mk (below_step pB hb); clear HB; have HB := n0_; clear n0_; (try clear hb); (try clear hb2); (try clear hk); (try clear hi)))
    go_meet
    case rel => exact ⟨_, (((l2.length : Int) != (l0.length : Int))), pF, H', ⟨by first | omega | exact Nat.le_refl _⟩, ⟨pB⟩⟩
   ·replace c8 := Bool.eq_false_iff.mpr c8
    subst c8
    have H1 : (impl_ServeFits.j0 k l0 l1 l2 true) = some r := by rw [if_neg (show ¬ (false = true) by decide)] at H; exact H
    clear H
    have H := H1
    clear H1
    have H' := Aside0.mk H
    clear H
    go_wp2_with (first | ((with_reducible refine gate_callee (f := 58) rfl ?_); refine goesL_ (some 11) rfl rfl Try.func58 pL rfl #[.slice A0 l0.length c0] rfl pM ?_; (with_reducible refine (impl_GuestsValid.calls k _ _ l0 true _ ?side1 ?side2 A5.out).mono ?_); (case side1 => exact pS ((Kd.C_below HR0.out HB.out))); (case side2 => exact HC0.out); rintro e w11 ⟨rfl, hb⟩; refine ⟨_, rfl, ?_⟩; have n0_ := Aside0.mk (below_step pB hb); clear HB; have HB := n0_; clear n0_; (try clear hb); (try clear hb2); (try clear hk); (try clear hi)) | (go_at_call 19; (with_reducible refine (impl_ChoicesValid.calls _ _ l1 false _ ?side1 ?side2 A7.out).mono ?_); (case side1 => exact pS ((Kd.C_below HR1.out HB.out))); (case side2 => exact HC1.out); rintro e w12 ⟨rfl, hb⟩; have n0_ := Aside0.mk (below_step pB hb); clear HB; have HB := n0_; clear n0_; (try clear hb); (try clear hb2); (try clear hk); (try clear hi)))
    go_meet
    case rel => exact ⟨_, (true), pF, H', ⟨by first | omega | exact Nat.le_refl _⟩, ⟨pB⟩⟩
  ·replace c6 := Bool.eq_false_iff.mpr c6
   subst c6
   have H1 : (impl_ServeFits.j0 k l0 l1 l2 true) = some r := by rw [if_neg (show ¬ (false = true) by decide)] at H; exact H
   clear H
   have H := H1
   clear H1
   have H' := Aside0.mk H
   clear H
   go_wp2_with (first | ((with_reducible refine gate_callee (f := 58) rfl ?_); refine goesL_ (some 11) rfl rfl Try.func58 pL rfl #[.slice A0 l0.length c0] rfl pM ?_; (with_reducible refine (impl_GuestsValid.calls k _ _ l0 false _ ?side1 ?side2 A5.out).mono ?_); (case side1 => exact pS ((Kd.C_below HR0.out HB.out))); (case side2 => exact HC0.out); rintro e w13 ⟨rfl, hb⟩; refine ⟨_, rfl, ?_⟩; have n0_ := Aside0.mk (below_step pB hb); clear HB; have HB := n0_; clear n0_; (try clear hb); (try clear hb2); (try clear hk); (try clear hi)))
   go_meet
   case rel => exact ⟨_, (true), pF, H', ⟨by first | omega | exact Nat.le_refl _⟩, ⟨pB⟩⟩
 case rest =>
  clear HC4
  try clear c1
  try clear c2
  try clear p2
  try clear c3
  try clear c5
  try clear c6
  try clear c8
  obtain ⟨kq, x24_3, rfl, HA, HJ3, HB⟩ := hcut
  cases kq with
  | zero => exact absurd HA.out (by simp [impl_ServeFits.j0])
  | succ kj3 =>
   have H := HA.out
   clear HA
   simp only [impl_ServeFits.j0] at H
   by_cases c14 : x24_3 = true
   ·subst c14
    have H1 : (some false) = some r := by rw [if_pos rfl] at H; exact H
    clear H
    have H := H1
    clear H1
    obtain rfl := Option.some.inj H
    go_wp2
    go_ret
    exact ⟨pE, pB⟩
   ·replace c14 := Bool.eq_false_iff.mpr c14
    subst c14
    have H1 : (if 0 ≤ (l1.length : Int) then (if ((l1.length : Int) : Int).toNat ≤ 35184372088832 then (impl_ServeFits.l0 kj3 l0 l1 (List.replicate ((l1.length : Int) : Int).toNat 0) l2 (l2.length : Int) 0) else (none)) else (none)) = some r := by rw [if_neg (show ¬ (false = true) by decide)] at H; exact H
    clear H
    have H := H1
    clear H1
    by_cases c15 : 0 ≤ (l1.length : Int)
    ·rw [if_pos c15] at H
     have c15b0 := eq_true c15
     have c15b1 : decide (0 ≤ (l1.length : Int)) = true := decide_eq_true c15
     clear c15
     by_cases c16 : ((l1.length : Int) : Int).toNat ≤ 35184372088832
     ·rw [if_pos c16] at H
      have c16b0 := eq_true c16
      have c16b1 : decide (((l1.length : Int) : Int).toNat ≤ 35184372088832) = true := decide_eq_true c16
      clear c16
      obtain ⟨y448, hy448⟩ : ∃ y_ : List Int, y_ = (List.replicate ((l1.length : Int) : Int).toNat 0) := ⟨_, rfl⟩
      replace H : (impl_ServeFits.l0 kj3 l0 l1 y448 l2 (l2.length : Int) 0) = some r := by first | (rw [hy448]; with_reducible exact H) | (have H2_ := (Option.bind_some _ _).symm.trans H; rw [hy448]; with_reducible exact H2_) | (have H2_ := (Option.bind_some _ _).symm.trans H; with_reducible exact H2_) | with_reducible exact H | (rw [hy448]; exact H) | exact H
      have Ny448 := Aside0.mk hy448
      clear hy448
      have H' := Aside0.mk H
      clear H
      go_wp2_with (first | ((with_reducible refine gate_dst (N := 27) rfl ?_); (try (refine gate_guard (by rfl) ?_; dsimp only)); refine Kd.R_make (Kd.int .i64) _ 3 rfl (N := 27) rfl 37 _ _ rfl (l1.length : Int) rfl rfl Try.underlying37 (.int .i64 0) 8 info3 rfl (by decide) (by omega) 0 (ok := fun _ => True) (okp := fun _ => True) rfl (fun _ hk => hk) trivial (of_decide_eq_true pA) (Nat.le_trans (Nat.mul_le_mul_right _ (of_decide_eq_true pA : (l1.length : Int).toNat ≤ 35184372088832)) (by omega)) (Below.refl _ _) (Nat.le_refl _) ?_; intro v449 w17 ho18 hb hg_ hnew_; clear hg_ hnew_; (first | rw [← Ny448.out] at ho18 | (simp only [Int.reduceToNat] at ho18; rw [← Ny448.out] at ho18)); have n0_ := Aside0.mk (Kd.R_lower ho18 (below_size pB)); have n1_ := Aside0.mk (below_step pB hb); clear HB; have HO450 := n0_; have HB := n1_; clear n0_ n1_; clear hb ho18))
      go_loopg [30] kj3 (fun kq v30 w' => ∃ (x7_2 : List Int) (x30_2 : Int), v30 = .int .i64 x30_2 ∧ Aside0 (impl_ServeFits.l0 kq l0 l1 x7_2 l2 (l2.length : Int) x30_2 = some r) ∧ Aside0 (kq ≤ kj3) ∧ Aside0 (Kd.R (Kd.int .i64) 3 w' w.heap.size (fun _ => True) v449 x7_2) ∧ Aside0 (Below w.heap.size w w'))
      case atStart => exact ⟨(y448), (0), pF, H', ⟨Nat.le_refl _⟩, ⟨pR HO450⟩, ⟨pB⟩⟩
      case round =>
       clear H'
       try clear c1
       try clear c2
       try clear p2
       try clear c3
       try clear c5
       try clear c6
       try clear c8
       try clear c14
       try clear c15
       try clear c15b0
       try clear c15b1
       try clear c16
       try clear c16b0
       try clear c16b1
       try clear p2
       obtain ⟨x7_2, x30_2, rfl, HA, HK2, HO_7, HB⟩ := hrel
       cases gk with
       | zero => exact absurd HA.out (by simp [impl_ServeFits.l0])
       | succ k2 =>
        have H := HA.out
        clear HA
        simp only [impl_ServeFits.l0] at H
        by_cases c19 : x30_2 < (l2.length : Int)
        ·rw [if_pos c19] at H
         have c19b0 : decide (x30_2 < (l2.length : Int)) = true := decide_eq_true c19
         clear c19
         by_cases c20 : 0 ≤ x30_2
         ·rw [if_pos c20] at H
          have c20b0 : decide (0 ≤ x30_2) = true := decide_eq_true c20
          clear c20
          by_cases c21 : x30_2 < (l2.length : Int)
          ·rw [if_pos c21] at H
           have c21b0 : decide (x30_2 < (l2.length : Int)) = true := decide_eq_true c21
           clear c21
           have HC22 := Aside0.mk H
           clear H
           have p451 : 0 ≤ (x30_2 : Int) := of_decide_eq_true pA
           have q451 : x30_2 < (l2.length : Int) := of_decide_eq_true pA
           obtain ⟨ad451, e451, hx451_0⟩ := Kd.at_int HR2.out x30_2 p451 q451
           cases e451
           replace hx451_0 := (HB.out.cell (World.block_lt_of_cell? w _ hx451_0)).trans hx451_0
           replace p451 := eq_true p451
           replace q451 := eq_true q451
           go_upto_region 7 with (fail)
           go_cut [52] (fun v52 wc => ∃ (kq : Nat) (x52_21 : Bool), v52 = .bool x52_21 ∧ Aside0 (impl_ServeFits.j2 kq l0 l1 x7_2 (rd l2 x30_2) l2 (l2.length : Int) x30_2 x52_21 = some r) ∧ Aside0 (kq ≤ k2) ∧ Aside0 (Kd.R (Kd.int .i64) 3 wc w.heap.size (fun _ => True) v449 x7_2) ∧ Aside0 (Below w.heap.size w wc))
           case first =>
            have H := HC22.out
            clear HC22
            replace H := Option.bind_eq_some_iff.mp H
            obtain ⟨t452, A230, H⟩ := H
            replace H : (if t452 = true then (if 0 ≤ (rd l2 x30_2) then (if (rd l2 x30_2) < (l1.length : Int) then (if x30_2 < (l0.length : Int) then ((impl_Choice_may.f ((rd_T32 l1 (rd l2 x30_2)).f0) ((rd_T32 l1 (rd l2 x30_2)).f1) ((rd_T32 l1 (rd l2 x30_2)).f2) ((rd_T43 l0 x30_2).f0) ((rd_T43 l0 x30_2).f1) ((rd_T43 l0 x30_2).f2)).bind fun t455 => (impl_ServeFits.j2 k2 l0 l1 x7_2 (rd l2 x30_2) l2 (l2.length : Int) x30_2 (!t455))) else (none)) else (none)) else (none)) else (impl_ServeFits.j2 k2 l0 l1 x7_2 (rd l2 x30_2) l2 (l2.length : Int) x30_2 true)) = some r := H
            have A23 := Aside0.mk A230
            clear A230
            by_cases c24 : t452 = true
            ·subst c24
             have H1 : (if 0 ≤ (rd l2 x30_2) then (if (rd l2 x30_2) < (l1.length : Int) then (if x30_2 < (l0.length : Int) then ((impl_Choice_may.f ((rd_T32 l1 (rd l2 x30_2)).f0) ((rd_T32 l1 (rd l2 x30_2)).f1) ((rd_T32 l1 (rd l2 x30_2)).f2) ((rd_T43 l0 x30_2).f0) ((rd_T43 l0 x30_2).f1) ((rd_T43 l0 x30_2).f2)).bind fun t455 => (impl_ServeFits.j2 k2 l0 l1 x7_2 (rd l2 x30_2) l2 (l2.length : Int) x30_2 (!t455))) else (none)) else (none)) else (none)) = some r := by rw [if_pos rfl] at H; exact H
             clear H
             have H := H1
             clear H1
             by_cases c25 : 0 ≤ (rd l2 x30_2)
             ·rw [if_pos c25] at H
              have c25b0 : decide (0 ≤ (rd l2 x30_2)) = true := decide_eq_true c25
              clear c25
              (first | rw [c25b0] | (simp only [i64_w, i32_w]; rw [c25b0]) | skip)
              by_cases c26 : (rd l2 x30_2) < (l1.length : Int)
              ·rw [if_pos c26] at H
               have c26b0 : decide ((rd l2 x30_2) < (l1.length : Int)) = true := decide_eq_true c26
               clear c26
               by_cases c27 : x30_2 < (l0.length : Int)
               ·rw [if_pos c27] at H
                have c27b0 : decide (x30_2 < (l0.length : Int)) = true := decide_eq_true c27
                clear c27
                replace H := Option.bind_eq_some_iff.mp H
                obtain ⟨t455, A280, H⟩ := H
                replace H : (impl_ServeFits.j2 k2 l0 l1 x7_2 (rd l2 x30_2) l2 (l2.length : Int) x30_2 (!t455)) = some r := H
                have A28 := Aside0.mk A280
                clear A280
                have H' := Aside0.mk H
                clear H
                try go_wp2
                have n0_ := Aside0.mk (Kd.R_drew HO_7.out)
                have n1_ := Aside0.mk (below_drew1 HB.out)
                clear HO_7
                clear HB
                have HO_7 := n0_
                have HB := n1_
                clear n0_ n1_
                have p453 : 0 ≤ ((rd l2 x30_2) : Int) := of_decide_eq_true pA
                have q453 : (rd l2 x30_2) < (l1.length : Int) := of_decide_eq_true pA
                obtain ⟨ad453, e453, hx453_0, hx453_1, hx453_2⟩ := at_T32 HR1.out (rd l2 x30_2) p453 q453
                have hw453_2 := hx453_2
                have hw453_1 := hx453_1
                have hw453_0 := hx453_0
                cases e453
                replace hx453_0 := (HB.out.cell (World.block_lt_of_cell? w _ hx453_0)).trans hx453_0
                replace hx453_1 := (HB.out.cell (World.block_lt_of_cell? w _ hx453_1)).trans hx453_1
                replace hx453_2 := (HB.out.cell (World.block_lt_of_cell? w _ hx453_2)).trans hx453_2
                replace p453 := eq_true p453
                replace q453 := eq_true q453
                have p454 : 0 ≤ (x30_2 : Int) := of_decide_eq_true pA
                have q454 : x30_2 < (l0.length : Int) := of_decide_eq_true pA
                obtain ⟨ad454, e454, hx454_0, hx454_1, hx454_2⟩ := at_T43 HR0.out x30_2 p454 q454
                have hw454_2 := hx454_2
                have hw454_1 := hx454_1
                have hw454_0 := hx454_0
                cases e454
                replace hx454_0 := (HB.out.cell (World.block_lt_of_cell? w _ hx454_0)).trans hx454_0
                replace hx454_1 := (HB.out.cell (World.block_lt_of_cell? w _ hx454_1)).trans hx454_1
                replace hx454_2 := (HB.out.cell (World.block_lt_of_cell? w _ hx454_2)).trans hx454_2
                replace p454 := eq_true p454
                replace q454 := eq_true q454
                refine start_ (n := 18) (S := fun w' => w'.cell? (ad453.add (((rd l2 x30_2)).toNat * 3)) = some (.int .i64 ((rd_T32 l1 (rd l2 x30_2)).f0)) ∧ w'.cell? ⟨(ad453.add (((rd l2 x30_2)).toNat * 3)).block, (ad453.add (((rd l2 x30_2)).toNat * 3)).off + 1, none⟩ = some (.int .i64 ((rd_T32 l1 (rd l2 x30_2)).f1)) ∧ w'.cell? ⟨(ad453.add (((rd l2 x30_2)).toNat * 3)).block, (ad453.add (((rd l2 x30_2)).toNat * 3)).off + 2, none⟩ = some (.int .i64 ((rd_T32 l1 (rd l2 x30_2)).f2)) ∧ w'.cell? (ad454.add ((x30_2).toNat * 3)) = some (.int .i64 ((rd_T43 l0 x30_2).f0)) ∧ w'.cell? ⟨(ad454.add ((x30_2).toNat * 3)).block, (ad454.add ((x30_2).toNat * 3)).off + 1, none⟩ = some (.int .i64 ((rd_T43 l0 x30_2).f1)) ∧ w'.cell? ⟨(ad454.add ((x30_2).toNat * 3)).block, (ad454.add ((x30_2).toNat * 3)).off + 2, none⟩ = some (.int .i64 ((rd_T43 l0 x30_2).f2))) (ds := []) #[false, false, false, false, false, false, false, false, false, false, false, false, false, false, false, false, false, false] pL rfl rfl ⟨((HB.out.cell (World.block_lt_of_cell? w _ hw453_0)).trans hw453_0), ((HB.out.cell (World.block_lt_of_cell? w _ hw453_1)).trans hw453_1), ((HB.out.cell (World.block_lt_of_cell? w _ hw453_2)).trans hw453_2), ((HB.out.cell (World.block_lt_of_cell? w _ hw454_0)).trans hw454_0), ((HB.out.cell (World.block_lt_of_cell? w _ hw454_1)).trans hw454_1), ((HB.out.cell (World.block_lt_of_cell? w _ hw454_2)).trans hw454_2)⟩ (fun hHeld => ?_); refine with_tabW impl_ServeFits.tab7 impl_ServeFits.bits7 (fun HT_ HW_ => ?_)
                generalize wr.drew = w29 at HO_7 HB hx453_0 hx453_1 hx453_2 hx454_0 hx454_1 hx454_2 hHeld ⊢
                refine pure_ (i := 0) (N := some 35) (v := ?_) (a' := ?_) #[true, false, false, false, false, false, false, false, false, false, false, false, false, false, false, false, false, false] rfl rfl (any_of HT_.out pL) (fun _ _ _ h => h) (Or.inl ⟨by rfl, ?_⟩) ?_ ?_
                rotate_left
                ·intro w'
                 go_simp
                 with_reducible rfl
                rotate_left
                ·exact pP
                refine pure_ (i := 1) (N := some 36) (v := ?_) (a' := ?_) #[true, true, false, false, false, false, false, false, false, false, false, false, false, false, false, false, false, false] rfl rfl (any_of HT_.out pL) (fun _ _ _ h => h) (Or.inl ⟨by rfl, ?_⟩) ?_ ?_
                rotate_left
                ·intro w'
                 go_simp
                 with_reducible rfl
                rotate_left
                ·exact pP
                refine pure_ (i := 2) (N := some 37) (v := ?_) (a' := ?_) #[true, true, true, false, false, false, false, false, false, false, false, false, false, false, false, false, false, false] rfl rfl (any_of HT_.out pL) (fun _ _ _ h => h) (Or.inl ⟨by rfl, ?_⟩) ?_ ?_
                rotate_left
                ·intro w'
                 go_simp
                 with_reducible rfl
                rotate_left
                ·exact pP
                refine pure_ (i := 3) (N := some 38) (v := ?_) (a' := ?_) #[true, true, true, true, false, false, false, false, false, false, false, false, false, false, false, false, false, false] rfl rfl (any_of HT_.out pL) (fun _ _ _ h => h) (Or.inl ⟨by rfl, ?_⟩) ?_ ?_
                rotate_left
                ·intro w'
                 go_simp
                 with_reducible rfl
                rotate_left
                ·exact pP
                refine one_ (i := 4) (N := some 39) #[true, true, true, true, true, false, false, false, false, false, false, false, false, false, false, false, false, false] rfl rfl (one_of HT_.out pL) (by decide) (fun K hK => ?_)
                refine goes_ Try.func49 pL rfl #[.int .i64 (rd l2 x30_2), .int .i64 0, .int .i64 (wrap64 ((l1.length : Int) - 1))] (by rfl) rfl rfl pM ?_
                with_reducible refine (impl_within.calls (rd l2 x30_2) 0 (wrap64 ((l1.length : Int) - 1)) true _ A23.out).mono ?_
                rintro e w' ⟨rfl, ⟨nd, rfl⟩⟩
                refine ⟨_, rfl, ?_⟩
                refine hK.out _ _ ⟨((HB.out.cell (World.block_lt_of_cell? w _ hw453_0)).trans hw453_0), ((HB.out.cell (World.block_lt_of_cell? w _ hw453_1)).trans hw453_1), ((HB.out.cell (World.block_lt_of_cell? w _ hw453_2)).trans hw453_2), ((HB.out.cell (World.block_lt_of_cell? w _ hw454_0)).trans hw454_0), ((HB.out.cell (World.block_lt_of_cell? w _ hw454_1)).trans hw454_1), ((HB.out.cell (World.block_lt_of_cell? w _ hw454_2)).trans hw454_2)⟩ (fun hHeld => ?_)
                clear hK K
                refine norm_ (a' := ?_) ?_ ?_
                rotate_left
                ·show Act.put _ (some 39) _ = _
                 exact pP
                refine pure_ (i := 5) (N := some 40) (v := ?_) (a' := ?_) #[true, true, true, true, true, true, false, false, false, false, false, false, false, false, false, false, false, false] rfl rfl (any_of HT_.out pL) (fun _ _ _ h => h) (Or.inl ⟨by rfl, ?_⟩) ?_ ?_
                rotate_left
                ·intro w'
                 go_simp
                 with_reducible rfl
                rotate_left
                ·exact pP
                refine pure_ (i := 6) (N := some 41) (v := ?_) (a' := ?_) #[true, true, true, true, true, true, true, false, false, false, false, false, false, false, false, false, false, false] rfl rfl (any_of HT_.out pL) (fun _ _ _ h => h) (Or.inl ⟨by rfl, ?_⟩) ?_ ?_
                rotate_left
                ·intro w'
                 go_simp
                 with_reducible rfl
                rotate_left
                ·exact pP
                refine pure_ (i := 7) (N := some 42) (v := ?_) (a' := ?_) #[true, true, true, true, true, true, true, true, false, false, false, false, false, false, false, false, false, false] rfl rfl (any_of HT_.out pL) (fun _ _ _ h => h) (Or.inl ⟨by rfl, ?_⟩) ?_ ?_
                rotate_left
                ·intro w'
                 go_simp
                 with_reducible rfl
                rotate_left
                ·exact pP
                refine pure_ (i := 8) (N := some 43) (v := ?_) (a' := ?_) #[true, true, true, true, true, true, true, true, true, false, false, false, false, false, false, false, false, false] rfl rfl (any_of HT_.out pL) (fun _ _ _ h => h) (Or.inl ⟨by rfl, ?_⟩) ?_ ?_
                rotate_left
                ·intro w'
                 go_simp
                 with_reducible rfl
                rotate_left
                ·exact pP
                refine pure_ (i := 9) (N := some 44) (v := ?_) (a' := ?_) #[true, true, true, true, true, true, true, true, true, true, false, false, false, false, false, false, false, false] rfl rfl (any_of HT_.out pL) (fun _ _ _ h => h) (Or.inl ⟨by rfl, ?_⟩) ?_ ?_
                rotate_left
                ·intro w'
                 go_simp
                 with_reducible rfl
                rotate_left
                ·exact pP
                refine pure_ (i := 11) (N := some 46) (v := ?_) (a' := ?_) #[true, true, true, true, true, true, true, true, true, true, false, true, false, false, false, false, false, false] rfl rfl (any_of HT_.out pL) (fun _ _ _ h => h) (Or.inl ⟨by rfl, ?_⟩) ?_ ?_
                rotate_left
                ·intro w'
                 go_simp
                 with_reducible rfl
                rotate_left
                ·exact pP
                refine pure_ (i := 12) (N := some 47) (v := ?_) (a' := ?_) #[true, true, true, true, true, true, true, true, true, true, false, true, true, false, false, false, false, false] rfl rfl (any_of HT_.out pL) (fun _ _ _ h => h) (Or.inl ⟨by rfl, ?_⟩) ?_ ?_
                rotate_left
                ·intro w'
                 go_simp
                 with_reducible rfl
                rotate_left
                ·exact pP
                refine pure_ (i := 13) (N := some 48) (v := ?_) (a' := ?_) #[true, true, true, true, true, true, true, true, true, true, false, true, true, true, false, false, false, false] rfl rfl (any_of HT_.out pL) (fun _ _ _ h => h) (Or.inl ⟨by rfl, ?_⟩) ?_ ?_
                rotate_left
                ·intro w'
                 go_simp
                 with_reducible rfl
                rotate_left
                ·exact pP
                refine take_ (i := 10) (N := some 45) (v := ?_) (a' := ?_) #[true, true, true, true, true, true, true, true, true, true, true, true, true, true, false, false, false, false] rfl rfl (take_ofW HT_.out HW_.out pL) (fun _ _ _ h => h) (Or.inl ⟨by rfl, ?_⟩) hHeld ?_ ?_
                rotate_left
                ·rintro w' ⟨s0, s1, s2, s3, s4, s5⟩
                 go_simp
                 with_reducible rfl
                rotate_left
                ·exact pP
                refine take_ (i := 14) (N := some 49) (v := ?_) (a' := ?_) #[true, true, true, true, true, true, true, true, true, true, true, true, true, true, true, false, false, false] rfl rfl (take_ofW HT_.out HW_.out pL) (fun _ _ _ h => h) (Or.inl ⟨by rfl, ?_⟩) hHeld ?_ ?_
                rotate_left
                ·rintro w' ⟨s0, s1, s2, s3, s4, s5⟩
                 go_simp
                 with_reducible rfl
                rotate_left
                ·exact pP
                refine one_ (i := 15) (N := some 50) #[true, true, true, true, true, true, true, true, true, true, true, true, true, true, true, true, false, false] rfl rfl (one_of HT_.out pL) (by decide) (fun K hK => ?_)
                refine goes_ Try.func61 pL rfl #[.agg #[.int .i64 ((rd_T32 l1 (rd l2 x30_2)).f0), .int .i64 ((rd_T32 l1 (rd l2 x30_2)).f1), .int .i64 ((rd_T32 l1 (rd l2 x30_2)).f2)], .agg #[.int .i64 ((rd_T43 l0 x30_2).f0), .int .i64 ((rd_T43 l0 x30_2).f1), .int .i64 ((rd_T43 l0 x30_2).f2)]] (by rfl) rfl rfl pM ?_
                with_reducible refine (impl_Choice_may.calls ((rd_T32 l1 (rd l2 x30_2)).f0) ((rd_T32 l1 (rd l2 x30_2)).f1) ((rd_T32 l1 (rd l2 x30_2)).f2) ((rd_T43 l0 x30_2).f0) ((rd_T43 l0 x30_2).f1) ((rd_T43 l0 x30_2).f2) t455 _ A28.out).mono ?_
                rintro e w30 ⟨rfl, hb⟩
                refine ⟨_, rfl, ?_⟩
                have n0_ := Aside0.mk (Kd.R_below (pR HO_7) hb)
                have n1_ := Aside0.mk (below_step pB hb)
                clear HO_7
                clear HB
                have HO_7 := n0_
                have HB := n1_
                clear n0_ n1_
                (try clear hb)
                (try clear hb2)
                (try clear hk)
                (try clear hi)
                refine hK.out _ _ ⟨((HB.out.cell (World.block_lt_of_cell? w _ hw453_0)).trans hw453_0), ((HB.out.cell (World.block_lt_of_cell? w _ hw453_1)).trans hw453_1), ((HB.out.cell (World.block_lt_of_cell? w _ hw453_2)).trans hw453_2), ((HB.out.cell (World.block_lt_of_cell? w _ hw454_0)).trans hw454_0), ((HB.out.cell (World.block_lt_of_cell? w _ hw454_1)).trans hw454_1), ((HB.out.cell (World.block_lt_of_cell? w _ hw454_2)).trans hw454_2)⟩ (fun hHeld => ?_)
                clear hK K
                refine norm_ (a' := ?_) ?_ ?_
                rotate_left
                ·show Act.put _ (some 50) _ = _
                 exact pP
                refine pure_ (i := 16) (N := some 51) (v := ?_) (a' := ?_) #[true, true, true, true, true, true, true, true, true, true, true, true, true, true, true, true, true, false] rfl rfl (any_of HT_.out pL) (fun _ _ _ h => h) (Or.inl ⟨by rfl, ?_⟩) ?_ ?_
                rotate_left
                ·intro w'
                 go_simp
                 with_reducible rfl
                rotate_left
                ·exact pP
                refine pure_ (i := 17) (N := some 52) (v := ?_) (a' := ?_) #[true, true, true, true, true, true, true, true, true, true, true, true, true, true, true, true, true, true] rfl rfl (any_of HT_.out pL) (fun _ _ _ h => h) (Or.inl ⟨by rfl, ?_⟩) ?_ ?_
                rotate_left
                ·intro w'
                 go_simp
                 with_reducible rfl
                rotate_left
                ·exact pP
                refine done_ (done_of HT_.out pL) ?_
                try go_wp2
                go_meet
                case rel => exact ⟨_, (!t455), pF, H', ⟨by have := HJ3.out; have := HK2.out; first | omega | exact Nat.le_refl _⟩, ⟨pR HO_7⟩, ⟨pB⟩⟩
               ·rw [if_neg c27] at H
                exact absurd H (by simp)
              ·rw [if_neg c26] at H
               exact absurd H (by simp)
             ·rw [if_neg c25] at H
              exact absurd H (by simp)
            ·replace c24 := Bool.eq_false_iff.mpr c24
             subst c24
             have H1 : (impl_ServeFits.j2 k2 l0 l1 x7_2 (rd l2 x30_2) l2 (l2.length : Int) x30_2 true) = some r := by rw [if_neg (show ¬ (false = true) by decide)] at H; exact H
             clear H
             have H := H1
             clear H1
             have H' := Aside0.mk H
             clear H
             try go_wp2
             have n0_ := Aside0.mk (Kd.R_drew HO_7.out)
             have n1_ := Aside0.mk (below_drew1 HB.out)
             clear HO_7
             clear HB
             have HO_7 := n0_
             have HB := n1_
             clear n0_ n1_
             refine start_ (n := 18) (S := fun w' => True) (ds := []) #[false, false, false, false, false, false, false, false, false, false, false, false, false, false, false, false, false, false] pL rfl rfl trivial (fun hHeld => ?_); refine with_tabW impl_ServeFits.tab7 impl_ServeFits.bits7 (fun HT_ HW_ => ?_)
             generalize wr.drew = w31 at HO_7 HB hHeld ⊢
             refine pure_ (i := 0) (N := some 35) (v := ?_) (a' := ?_) #[true, false, false, false, false, false, false, false, false, false, false, false, false, false, false, false, false, false] rfl rfl (any_of HT_.out pL) (fun _ _ _ h => h) (Or.inl ⟨by rfl, ?_⟩) ?_ ?_
             rotate_left
             ·intro w'
              go_simp
              with_reducible rfl
             rotate_left
             ·exact pP
             refine pure_ (i := 1) (N := some 36) (v := ?_) (a' := ?_) #[true, true, false, false, false, false, false, false, false, false, false, false, false, false, false, false, false, false] rfl rfl (any_of HT_.out pL) (fun _ _ _ h => h) (Or.inl ⟨by rfl, ?_⟩) ?_ ?_
             rotate_left
             ·intro w'
              go_simp
              with_reducible rfl
             rotate_left
             ·exact pP
             refine pure_ (i := 2) (N := some 37) (v := ?_) (a' := ?_) #[true, true, true, false, false, false, false, false, false, false, false, false, false, false, false, false, false, false] rfl rfl (any_of HT_.out pL) (fun _ _ _ h => h) (Or.inl ⟨by rfl, ?_⟩) ?_ ?_
             rotate_left
             ·intro w'
              go_simp
              with_reducible rfl
             rotate_left
             ·exact pP
             refine pure_ (i := 3) (N := some 38) (v := ?_) (a' := ?_) #[true, true, true, true, false, false, false, false, false, false, false, false, false, false, false, false, false, false] rfl rfl (any_of HT_.out pL) (fun _ _ _ h => h) (Or.inl ⟨by rfl, ?_⟩) ?_ ?_
             rotate_left
             ·intro w'
              go_simp
              with_reducible rfl
             rotate_left
             ·exact pP
             refine one_ (i := 4) (N := some 39) #[true, true, true, true, true, false, false, false, false, false, false, false, false, false, false, false, false, false] rfl rfl (one_of HT_.out pL) (by decide) (fun K hK => ?_)
             refine goes_ Try.func49 pL rfl #[.int .i64 (rd l2 x30_2), .int .i64 0, .int .i64 (wrap64 ((l1.length : Int) - 1))] (by rfl) rfl rfl pM ?_
             with_reducible refine (impl_within.calls (rd l2 x30_2) 0 (wrap64 ((l1.length : Int) - 1)) false _ A23.out).mono ?_
             rintro e w' ⟨rfl, ⟨nd, rfl⟩⟩
             refine ⟨_, rfl, ?_⟩
             refine hK.out _ _ trivial (fun hHeld => ?_)
             clear hK K
             refine norm_ (a' := ?_) ?_ ?_
             rotate_left
             ·show Act.put _ (some 39) _ = _
              exact pP
             refine pure_ (i := 5) (N := some 40) (v := ?_) (a' := ?_) #[true, true, true, true, true, true, false, false, false, false, false, false, false, false, false, false, false, false] rfl rfl (any_of HT_.out pL) (fun _ _ _ h => h) (Or.inl ⟨by rfl, ?_⟩) ?_ ?_
             rotate_left
             ·intro w'
              go_simp
              with_reducible rfl
             rotate_left
             ·exact pP
             refine pure_ (i := 6) (N := some 41) (v := ?_) (a' := ?_) #[true, true, true, true, true, true, true, false, false, false, false, false, false, false, false, false, false, false] rfl rfl (any_of HT_.out pL) (fun _ _ _ h => h) (Or.inl ⟨by rfl, ?_⟩) ?_ ?_
             rotate_left
             ·intro w'
              go_simp
              with_reducible rfl
             rotate_left
             ·exact pP
             refine pure_ (i := 7) (N := some 42) (v := undef) (a' := ?_) #[true, true, true, true, true, true, true, true, false, false, false, false, false, false, false, false, false, false] rfl rfl (any_of HT_.out pL) (fun _ _ _ h => h) (Or.inr ⟨by rfl, rfl⟩) ?_ ?_
             rotate_left
             ·exact pP
             refine pure_ (i := 8) (N := some 43) (v := undef) (a' := ?_) #[true, true, true, true, true, true, true, true, true, false, false, false, false, false, false, false, false, false] rfl rfl (any_of HT_.out pL) (fun _ _ _ h => h) (Or.inr ⟨by rfl, rfl⟩) ?_ ?_
             rotate_left
             ·exact pP
             refine pure_ (i := 9) (N := some 44) (v := undef) (a' := ?_) #[true, true, true, true, true, true, true, true, true, true, false, false, false, false, false, false, false, false] rfl rfl (any_of HT_.out pL) (fun _ _ _ h => h) (Or.inr ⟨by rfl, rfl⟩) ?_ ?_
             rotate_left
             ·exact pP
             refine pure_ (i := 10) (N := some 45) (v := undef) (a' := ?_) #[true, true, true, true, true, true, true, true, true, true, true, false, false, false, false, false, false, false] rfl rfl (any_of HT_.out pL) (fun _ _ _ h => h) (Or.inr ⟨by rfl, rfl⟩) ?_ ?_
             rotate_left
             ·exact pP
             refine pure_ (i := 11) (N := some 46) (v := undef) (a' := ?_) #[true, true, true, true, true, true, true, true, true, true, true, true, false, false, false, false, false, false] rfl rfl (any_of HT_.out pL) (fun _ _ _ h => h) (Or.inr ⟨by rfl, rfl⟩) ?_ ?_
             rotate_left
             ·exact pP
             refine pure_ (i := 12) (N := some 47) (v := undef) (a' := ?_) #[true, true, true, true, true, true, true, true, true, true, true, true, true, false, false, false, false, false] rfl rfl (any_of HT_.out pL) (fun _ _ _ h => h) (Or.inr ⟨by rfl, rfl⟩) ?_ ?_
             rotate_left
             ·exact pP
             refine pure_ (i := 13) (N := some 48) (v := undef) (a' := ?_) #[true, true, true, true, true, true, true, true, true, true, true, true, true, true, false, false, false, false] rfl rfl (any_of HT_.out pL) (fun _ _ _ h => h) (Or.inr ⟨by rfl, rfl⟩) ?_ ?_
             rotate_left
             ·exact pP
             refine pure_ (i := 14) (N := some 49) (v := undef) (a' := ?_) #[true, true, true, true, true, true, true, true, true, true, true, true, true, true, true, false, false, false] rfl rfl (any_of HT_.out pL) (fun _ _ _ h => h) (Or.inr ⟨by rfl, rfl⟩) ?_ ?_
             rotate_left
             ·exact pP
             refine pure_ (i := 15) (N := some 50) (v := undef) (a' := ?_) #[true, true, true, true, true, true, true, true, true, true, true, true, true, true, true, true, false, false] rfl rfl (any_of HT_.out pL) (fun _ _ _ h => h) (Or.inr ⟨by rfl, rfl⟩) ?_ ?_
             rotate_left
             ·exact pP
             refine pure_ (i := 16) (N := some 51) (v := undef) (a' := ?_) #[true, true, true, true, true, true, true, true, true, true, true, true, true, true, true, true, true, false] rfl rfl (any_of HT_.out pL) (fun _ _ _ h => h) (Or.inr ⟨by rfl, rfl⟩) ?_ ?_
             rotate_left
             ·exact pP
             refine pure_ (i := 17) (N := some 52) (v := ?_) (a' := ?_) #[true, true, true, true, true, true, true, true, true, true, true, true, true, true, true, true, true, true] rfl rfl (any_of HT_.out pL) (fun _ _ _ h => h) (Or.inl ⟨by rfl, ?_⟩) ?_ ?_
             rotate_left
             ·intro w'
              go_simp
              with_reducible rfl
             rotate_left
             ·exact pP
             refine done_ (done_of HT_.out pL) ?_
             try go_wp2
             go_meet
             case rel => exact ⟨_, (true), pF, H', ⟨by have := HJ3.out; have := HK2.out; first | omega | exact Nat.le_refl _⟩, ⟨pR HO_7⟩, ⟨pB⟩⟩
           case rest =>
            clear HC22
            try clear c1
            try clear c2
            try clear p2
            try clear c3
            try clear c4
            try clear p4
            try clear q4
            try clear hx4
            try clear c5
            try clear c6
            try clear p6
            try clear c8
            try clear c14
            try clear c15
            try clear c15b0
            try clear c15b1
            try clear c16
            try clear c16b0
            try clear c16b1
            try clear c19
            try clear c19b0
            try clear c20
            try clear c20b0
            try clear c21
            try clear c21b0
            try clear c24
            try clear c25
            try clear c25b0
            try clear c26
            try clear c26b0
            try clear c27
            try clear c27b0
            try clear hx451_0
            try clear hx453_0
            try clear hx453_1
            try clear hx453_2
            try clear hx454_0
            try clear hx454_1
            try clear hx454_2
            try clear p2
            try clear p451
            try clear p453
            try clear p454
            try clear q451
            try clear q453
            try clear q454
            obtain ⟨kq, x52_21, rfl, HA, HJ21, HO_7, HB⟩ := hcut
            cases kq with
            | zero => exact absurd HA.out (by simp [impl_ServeFits.j2])
            | succ kj21 =>
             have H := HA.out
             clear HA
             simp only [impl_ServeFits.j2] at H
             by_cases c32 : x52_21 = true
             ·subst c32
              have H1 : (some false) = some r := by rw [if_pos rfl] at H; exact H
              clear H
              have H := H1
              clear H1
              obtain rfl := Option.some.inj H
              go_wp2
              go_ret
              exact ⟨pE, pB⟩
             ·replace c32 := Bool.eq_false_iff.mpr c32
              subst c32
              have H1 : (if 0 ≤ (rd l2 x30_2) then (if (rd l2 x30_2) < (x7_2.length : Int) then ((some (x7_2.set ((rd l2 x30_2) : Int).toNat (wrap64 ((rd x7_2 (rd l2 x30_2)) + 1)) : List Int)).bind fun y457 => (if (rd l2 x30_2) < (l1.length : Int) then (if (rd y457 (rd l2 x30_2)) > ((rd_T32 l1 (rd l2 x30_2)).f2) then (some false) else (impl_ServeFits.l0 kj21 l0 l1 y457 l2 (l2.length : Int) (wrap64 (x30_2 + 1)))) else (none))) else (none)) else (none)) = some r := by rw [if_neg (show ¬ (false = true) by decide)] at H; exact H
              clear H
              have H := H1
              clear H1
              by_cases c33 : 0 ≤ (rd l2 x30_2)
              ·rw [if_pos c33] at H
               have c33b0 : decide (0 ≤ (rd l2 x30_2)) = true := decide_eq_true c33
               clear c33
               by_cases c34 : (rd l2 x30_2) < (x7_2.length : Int)
               ·rw [if_pos c34] at H
                have c34b0 : decide ((rd l2 x30_2) < (x7_2.length : Int)) = true := decide_eq_true c34
                clear c34
                obtain ⟨y457, hy457⟩ : ∃ y_ : List Int, y_ = (x7_2.set ((rd l2 x30_2) : Int).toNat (wrap64 ((rd x7_2 (rd l2 x30_2)) + 1))) := ⟨_, rfl⟩
                replace H : (if (rd l2 x30_2) < (l1.length : Int) then (if (rd y457 (rd l2 x30_2)) > ((rd_T32 l1 (rd l2 x30_2)).f2) then (some false) else (impl_ServeFits.l0 kj21 l0 l1 y457 l2 (l2.length : Int) (wrap64 (x30_2 + 1)))) else (none)) = some r := by first | (rw [hy457]; with_reducible exact H) | (have H2_ := (Option.bind_some _ _).symm.trans H; rw [hy457]; with_reducible exact H2_) | (have H2_ := (Option.bind_some _ _).symm.trans H; with_reducible exact H2_) | with_reducible exact H | (rw [hy457]; exact H) | exact H
                have Ny457 := Aside0.mk hy457
                clear hy457
                by_cases c36 : (rd l2 x30_2) < (l1.length : Int)
                ·rw [if_pos c36] at H
                 have c36b0 : decide ((rd l2 x30_2) < (l1.length : Int)) = true := decide_eq_true c36
                 clear c36
                 by_cases c37 : (rd y457 (rd l2 x30_2)) > ((rd_T32 l1 (rd l2 x30_2)).f2)
                 ·rw [if_pos c37] at H
                  have c37b0 : decide (((rd_T32 l1 (rd l2 x30_2)).f2) < (rd y457 (rd l2 x30_2))) = true := decide_eq_true c37
                  clear c37
                  obtain rfl := Option.some.inj H
                  obtain ⟨Ao38, co38, eo38⟩ := Kd.R_slice HO_7.out
                  subst eo38
                  have p456 : 0 ≤ ((rd l2 x30_2) : Int) := of_decide_eq_true pA
                  have q456 : (rd l2 x30_2) < (x7_2.length : Int) := of_decide_eq_true pA
                  obtain ⟨ad456, e456, hx456_0⟩ := Kd.at_int (Kd.R_reads' HO_7.out).2.2 (rd l2 x30_2) p456 q456
                  cases e456
                  replace p456 := eq_true p456
                  replace q456 := eq_true q456
                  have p35 : 0 ≤ ((rd l2 x30_2) : Int) := of_decide_eq_true pA
                  have q35 : ((rd l2 x30_2) : Int) < ((x7_2.length : Int) : Int) := of_decide_eq_true pA
                  obtain ⟨go35, co35, eo35, gb35, gl35, cl35, HG35⟩ := Kd.R_form HO_7.out (by omega)
                  (first | cases eo35 | (injection eo35 with ea_ en_ ec_; (first | subst ea_ | (injection ea_ with ea_; subst ea_)); subst ec_; clear en_))
                  have GB35 := Aside0.mk gb35
                  have GG35 := Aside0.mk HG35
                  clear gb35 gl35 HG35
                  (first | simp only [add_plain] at hx456_0 | skip)
                  obtain ⟨hx35_0, hf35_0⟩ := Kd.R_celln 0 HO_7.out ((rd l2 x30_2) : Int) p35 q35
                  replace p35 := eq_true p35
                  replace q35 := eq_true q35
                  have HP39 := Kd.R_putg HO_7.out ((rd l2 x30_2) : Int) (wrap64 ((rd x7_2 (rd l2 x30_2)) + 1))
                  try go_wp2_with (first | ((with_reducible refine gate_store (t := 3) (p := 58) rfl ?_); refine store_event (t := 3) (p := 58) (v := ?vo_w40) (w1 := (wc.setCell ⟨go35, ((rd l2 x30_2) : Int).toNat, none⟩ (.int .i64 (wrap64 ((rd x7_2 (rd l2 x30_2)) + 1))))) ?hg ?ho ?hn ?hr ?_; (case ho => rfl); (case hg => rfl); (case hn => rfl); (case hr => first | (go_simp; done) | (go_simp; rfl)); intro w40 hw; have hg : wc.grownBy w40 (some go35) := (by rw [hw]; exact HP39.2); have hp_ : Kd.R (Kd.int .i64) 3 w40 w.heap.size (fun _ => True) (.slice (some ⟨go35, 0, none⟩) x7_2.length co38) y457 := (by rw [hw, Ny457.out]; exact HP39.1); clear HP39; have n0_ := Aside0.mk (hp_); have n1_ := Aside0.mk ((by rw [hw]; exact below_set (HB.out) GB35.out : Below w.heap.size w w40)); clear HO_7; clear HB; have HO_7 := n0_; have HB := n1_; clear n0_ n1_; clear hg hw hp_))
                  have n0_ := Aside0.mk (Kd.R_drew HO_7.out)
                  have n1_ := Aside0.mk (below_drew1 HB.out)
                  clear HO_7
                  clear HB
                  have HO_7 := n0_
                  have HB := n1_
                  clear n0_ n1_
                  have p458 : 0 ≤ ((rd l2 x30_2) : Int) := of_decide_eq_true pA
                  have q458 : (rd l2 x30_2) < (y457.length : Int) := (by have h_ : ((rd l2 x30_2) : Int) < ((x7_2.length : Int) : Int) := of_decide_eq_true pA; first | (have e_ := (Kd.R_reads' HO_7.out).1; omega) | simpa only [Ny457.out, List.length_set] using h_)
                  have ql458 : (((rd l2 x30_2) : Int) < ((x7_2.length : Int) : Int)) = True := eq_true (of_decide_eq_true pA)
                  obtain ⟨ad458, e458, hx458_0⟩ := Kd.at_int (Kd.R_reads' HO_7.out).2.2 (rd l2 x30_2) p458 q458
                  obtain rfl : (⟨go35, 0, none⟩ : Addr) = ad458 := (by injection e458)
                  (first | simp only [add_plain] at hx458_0 | simp only [add_at] at hx458_0 | simp only [Addr.add, Nat.zero_add] at hx458_0 | skip)
                  replace p458 := eq_true p458
                  replace q458 := eq_true q458
                  have p459 : 0 ≤ ((rd l2 x30_2) : Int) := of_decide_eq_true pA
                  have q459 : (rd l2 x30_2) < (l1.length : Int) := of_decide_eq_true pA
                  obtain ⟨ad459, e459, hx459_0, hx459_1, hx459_2⟩ := at_T32 HR1.out (rd l2 x30_2) p459 q459
                  have hw459_2 := hx459_2
                  have hw459_1 := hx459_1
                  have hw459_0 := hx459_0
                  cases e459
                  replace hx459_0 := (HB.out.cell (World.block_lt_of_cell? w _ hx459_0)).trans hx459_0
                  replace hx459_1 := (HB.out.cell (World.block_lt_of_cell? w _ hx459_1)).trans hx459_1
                  replace hx459_2 := (HB.out.cell (World.block_lt_of_cell? w _ hx459_2)).trans hx459_2
                  replace p459 := eq_true p459
                  replace q459 := eq_true q459
                  refine start_ (n := 10) (S := fun w' => w'.cell? ⟨go35, ((rd l2 x30_2)).toNat, none⟩ = some (.int .i64 (rd y457 (rd l2 x30_2))) ∧ w'.cell? (ad459.add (((rd l2 x30_2)).toNat * 3)) = some (.int .i64 ((rd_T32 l1 (rd l2 x30_2)).f0)) ∧ w'.cell? ⟨(ad459.add (((rd l2 x30_2)).toNat * 3)).block, (ad459.add (((rd l2 x30_2)).toNat * 3)).off + 1, none⟩ = some (.int .i64 ((rd_T32 l1 (rd l2 x30_2)).f1)) ∧ w'.cell? ⟨(ad459.add (((rd l2 x30_2)).toNat * 3)).block, (ad459.add (((rd l2 x30_2)).toNat * 3)).off + 2, none⟩ = some (.int .i64 ((rd_T32 l1 (rd l2 x30_2)).f2))) (ds := []) #[false, false, false, false, false, false, false, false, false, false] pL rfl rfl ⟨hx458_0, ((HB.out.cell (World.block_lt_of_cell? w _ hw459_0)).trans hw459_0), ((HB.out.cell (World.block_lt_of_cell? w _ hw459_1)).trans hw459_1), ((HB.out.cell (World.block_lt_of_cell? w _ hw459_2)).trans hw459_2)⟩ (fun hHeld => ?_); refine with_tabW impl_ServeFits.tab10 impl_ServeFits.bits10 (fun HT_ HW_ => ?_)
                  generalize w40.drew = w41 at HO_7 HB hx458_0 hx459_0 hx459_1 hx459_2 hHeld ⊢
                  refine pure_ (i := 0) (N := some 59) (v := ?_) (a' := ?_) #[true, false, false, false, false, false, false, false, false, false] rfl rfl (any_of HT_.out pL) (fun _ _ _ h => h) (Or.inl ⟨by rfl, ?_⟩) ?_ ?_
                  rotate_left
                  ·intro w'
                   go_simp
                   with_reducible rfl
                  rotate_left
                  ·exact pP
                  refine pure_ (i := 1) (N := some 60) (v := ?_) (a' := ?_) #[true, true, false, false, false, false, false, false, false, false] rfl rfl (any_of HT_.out pL) (fun _ _ _ h => h) (Or.inl ⟨by rfl, ?_⟩) ?_ ?_
                  rotate_left
                  ·intro w'
                   go_simp
                   with_reducible rfl
                  rotate_left
                  ·exact pP
                  refine pure_ (i := 2) (N := some 61) (v := ?_) (a' := ?_) #[true, true, true, false, false, false, false, false, false, false] rfl rfl (any_of HT_.out pL) (fun _ _ _ h => h) (Or.inl ⟨by rfl, ?_⟩) ?_ ?_
                  rotate_left
                  ·intro w'
                   go_simp
                   with_reducible rfl
                  rotate_left
                  ·exact pP
                  refine pure_ (i := 4) (N := some 63) (v := ?_) (a' := ?_) #[true, true, true, false, true, false, false, false, false, false] rfl rfl (any_of HT_.out pL) (fun _ _ _ h => h) (Or.inl ⟨by rfl, ?_⟩) ?_ ?_
                  rotate_left
                  ·intro w'
                   go_simp
                   with_reducible rfl
                  rotate_left
                  ·exact pP
                  refine pure_ (i := 5) (N := some 64) (v := ?_) (a' := ?_) #[true, true, true, false, true, true, false, false, false, false] rfl rfl (any_of HT_.out pL) (fun _ _ _ h => h) (Or.inl ⟨by rfl, ?_⟩) ?_ ?_
                  rotate_left
                  ·intro w'
                   go_simp
                   with_reducible rfl
                  rotate_left
                  ·exact pP
                  refine pure_ (i := 6) (N := some 65) (v := ?_) (a' := ?_) #[true, true, true, false, true, true, true, false, false, false] rfl rfl (any_of HT_.out pL) (fun _ _ _ h => h) (Or.inl ⟨by rfl, ?_⟩) ?_ ?_
                  rotate_left
                  ·intro w'
                   go_simp
                   with_reducible rfl
                  rotate_left
                  ·exact pP
                  refine pure_ (i := 7) (N := some 66) (v := ?_) (a' := ?_) #[true, true, true, false, true, true, true, true, false, false] rfl rfl (any_of HT_.out pL) (fun _ _ _ h => h) (Or.inl ⟨by rfl, ?_⟩) ?_ ?_
                  rotate_left
                  ·intro w'
                   go_simp
                   with_reducible rfl
                  rotate_left
                  ·exact pP
                  refine take_ (i := 3) (N := some 62) (v := ?_) (a' := ?_) #[true, true, true, true, true, true, true, true, false, false] rfl rfl (take_ofW HT_.out HW_.out pL) (fun _ _ _ h => h) (Or.inl ⟨by rfl, ?_⟩) hHeld ?_ ?_
                  rotate_left
                  ·rintro w' ⟨s0, s1, s2, s3⟩
                   go_simp
                   with_reducible rfl
                  rotate_left
                  ·exact pP
                  refine take_ (i := 8) (N := some 67) (v := ?_) (a' := ?_) #[true, true, true, true, true, true, true, true, true, false] rfl rfl (take_ofW HT_.out HW_.out pL) (fun _ _ _ h => h) (Or.inl ⟨by rfl, ?_⟩) hHeld ?_ ?_
                  rotate_left
                  ·rintro w' ⟨s0, s1, s2, s3⟩
                   go_simp
                   with_reducible rfl
                  rotate_left
                  ·exact pP
                  refine pure_ (i := 9) (N := some 68) (v := ?_) (a' := ?_) #[true, true, true, true, true, true, true, true, true, true] rfl rfl (any_of HT_.out pL) (fun _ _ _ h => h) (Or.inl ⟨by rfl, ?_⟩) ?_ ?_
                  rotate_left
                  ·intro w'
                   go_simp
                   with_reducible rfl
                  rotate_left
                  ·exact pP
                  refine done_ (done_of HT_.out pL) ?_
                  try go_wp2
                  go_ret
                  exact ⟨pE, pB⟩
                 ·rw [if_neg c37] at H
                  have c37b0 : decide (((rd_T32 l1 (rd l2 x30_2)).f2) < (rd y457 (rd l2 x30_2))) = false := decide_eq_false c37
                  clear c37
                  have H' := Aside0.mk H
                  clear H
                  obtain ⟨Ao42, co42, eo42⟩ := Kd.R_slice HO_7.out
                  subst eo42
                  have p456 : 0 ≤ ((rd l2 x30_2) : Int) := of_decide_eq_true pA
                  have q456 : (rd l2 x30_2) < (x7_2.length : Int) := of_decide_eq_true pA
                  obtain ⟨ad456, e456, hx456_0⟩ := Kd.at_int (Kd.R_reads' HO_7.out).2.2 (rd l2 x30_2) p456 q456
                  cases e456
                  replace p456 := eq_true p456
                  replace q456 := eq_true q456
                  have p35 : 0 ≤ ((rd l2 x30_2) : Int) := of_decide_eq_true pA
                  have q35 : ((rd l2 x30_2) : Int) < ((x7_2.length : Int) : Int) := of_decide_eq_true pA
                  obtain ⟨go35, co35, eo35, gb35, gl35, cl35, HG35⟩ := Kd.R_form HO_7.out (by omega)
                  (first | cases eo35 | (injection eo35 with ea_ en_ ec_; (first | subst ea_ | (injection ea_ with ea_; subst ea_)); subst ec_; clear en_))
                  have GB35 := Aside0.mk gb35
                  have GG35 := Aside0.mk HG35
                  clear gb35 gl35 HG35
                  (first | simp only [add_plain] at hx456_0 | skip)
                  obtain ⟨hx35_0, hf35_0⟩ := Kd.R_celln 0 HO_7.out ((rd l2 x30_2) : Int) p35 q35
                  replace p35 := eq_true p35
                  replace q35 := eq_true q35
                  have HP43 := Kd.R_putg HO_7.out ((rd l2 x30_2) : Int) (wrap64 ((rd x7_2 (rd l2 x30_2)) + 1))
                  try go_wp2_with (first | ((with_reducible refine gate_store (t := 3) (p := 58) rfl ?_); refine store_event (t := 3) (p := 58) (v := ?vo_w44) (w1 := (wc.setCell ⟨go35, ((rd l2 x30_2) : Int).toNat, none⟩ (.int .i64 (wrap64 ((rd x7_2 (rd l2 x30_2)) + 1))))) ?hg ?ho ?hn ?hr ?_; (case ho => rfl); (case hg => rfl); (case hn => rfl); (case hr => first | (go_simp; done) | (go_simp; rfl)); intro w44 hw; have hg : wc.grownBy w44 (some go35) := (by rw [hw]; exact HP43.2); have hp_ : Kd.R (Kd.int .i64) 3 w44 w.heap.size (fun _ => True) (.slice (some ⟨go35, 0, none⟩) x7_2.length co42) y457 := (by rw [hw, Ny457.out]; exact HP43.1); clear HP43; have n0_ := Aside0.mk (hp_); have n1_ := Aside0.mk ((by rw [hw]; exact below_set (HB.out) GB35.out : Below w.heap.size w w44)); clear HO_7; clear HB; have HO_7 := n0_; have HB := n1_; clear n0_ n1_; clear hg hw hp_))
                  have n0_ := Aside0.mk (Kd.R_drew HO_7.out)
                  have n1_ := Aside0.mk (below_drew1 HB.out)
                  clear HO_7
                  clear HB
                  have HO_7 := n0_
                  have HB := n1_
                  clear n0_ n1_
                  have p458 : 0 ≤ ((rd l2 x30_2) : Int) := of_decide_eq_true pA
                  have q458 : (rd l2 x30_2) < (y457.length : Int) := (by have h_ : ((rd l2 x30_2) : Int) < ((x7_2.length : Int) : Int) := of_decide_eq_true pA; first | (have e_ := (Kd.R_reads' HO_7.out).1; omega) | simpa only [Ny457.out, List.length_set] using h_)
                  have ql458 : (((rd l2 x30_2) : Int) < ((x7_2.length : Int) : Int)) = True := eq_true (of_decide_eq_true pA)
                  obtain ⟨ad458, e458, hx458_0⟩ := Kd.at_int (Kd.R_reads' HO_7.out).2.2 (rd l2 x30_2) p458 q458
                  obtain rfl : (⟨go35, 0, none⟩ : Addr) = ad458 := (by injection e458)
                  (first | simp only [add_plain] at hx458_0 | simp only [add_at] at hx458_0 | simp only [Addr.add, Nat.zero_add] at hx458_0 | skip)
                  replace p458 := eq_true p458
                  replace q458 := eq_true q458
                  have p459 : 0 ≤ ((rd l2 x30_2) : Int) := of_decide_eq_true pA
                  have q459 : (rd l2 x30_2) < (l1.length : Int) := of_decide_eq_true pA
                  obtain ⟨ad459, e459, hx459_0, hx459_1, hx459_2⟩ := at_T32 HR1.out (rd l2 x30_2) p459 q459
                  have hw459_2 := hx459_2
                  have hw459_1 := hx459_1
                  have hw459_0 := hx459_0
                  cases e459
                  replace hx459_0 := (HB.out.cell (World.block_lt_of_cell? w _ hx459_0)).trans hx459_0
                  replace hx459_1 := (HB.out.cell (World.block_lt_of_cell? w _ hx459_1)).trans hx459_1
                  replace hx459_2 := (HB.out.cell (World.block_lt_of_cell? w _ hx459_2)).trans hx459_2
                  replace p459 := eq_true p459
                  replace q459 := eq_true q459
                  refine start_ (n := 10) (S := fun w' => w'.cell? ⟨go35, ((rd l2 x30_2)).toNat, none⟩ = some (.int .i64 (rd y457 (rd l2 x30_2))) ∧ w'.cell? (ad459.add (((rd l2 x30_2)).toNat * 3)) = some (.int .i64 ((rd_T32 l1 (rd l2 x30_2)).f0)) ∧ w'.cell? ⟨(ad459.add (((rd l2 x30_2)).toNat * 3)).block, (ad459.add (((rd l2 x30_2)).toNat * 3)).off + 1, none⟩ = some (.int .i64 ((rd_T32 l1 (rd l2 x30_2)).f1)) ∧ w'.cell? ⟨(ad459.add (((rd l2 x30_2)).toNat * 3)).block, (ad459.add (((rd l2 x30_2)).toNat * 3)).off + 2, none⟩ = some (.int .i64 ((rd_T32 l1 (rd l2 x30_2)).f2))) (ds := []) #[false, false, false, false, false, false, false, false, false, false] pL rfl rfl ⟨hx458_0, ((HB.out.cell (World.block_lt_of_cell? w _ hw459_0)).trans hw459_0), ((HB.out.cell (World.block_lt_of_cell? w _ hw459_1)).trans hw459_1), ((HB.out.cell (World.block_lt_of_cell? w _ hw459_2)).trans hw459_2)⟩ (fun hHeld => ?_); refine with_tabW impl_ServeFits.tab10 impl_ServeFits.bits10 (fun HT_ HW_ => ?_)
                  generalize w44.drew = w45 at HO_7 HB hx458_0 hx459_0 hx459_1 hx459_2 hHeld ⊢
                  refine pure_ (i := 0) (N := some 59) (v := ?_) (a' := ?_) #[true, false, false, false, false, false, false, false, false, false] rfl rfl (any_of HT_.out pL) (fun _ _ _ h => h) (Or.inl ⟨by rfl, ?_⟩) ?_ ?_
                  rotate_left
                  ·intro w'
                   go_simp
                   with_reducible rfl
                  rotate_left
                  ·exact pP
                  refine pure_ (i := 1) (N := some 60) (v := ?_) (a' := ?_) #[true, true, false, false, false, false, false, false, false, false] rfl rfl (any_of HT_.out pL) (fun _ _ _ h => h) (Or.inl ⟨by rfl, ?_⟩) ?_ ?_
                  rotate_left
                  ·intro w'
                   go_simp
                   with_reducible rfl
                  rotate_left
                  ·exact pP
                  refine pure_ (i := 2) (N := some 61) (v := ?_) (a' := ?_) #[true, true, true, false, false, false, false, false, false, false] rfl rfl (any_of HT_.out pL) (fun _ _ _ h => h) (Or.inl ⟨by rfl, ?_⟩) ?_ ?_
                  rotate_left
                  ·intro w'
                   go_simp
                   with_reducible rfl
                  rotate_left
                  ·exact pP
                  refine pure_ (i := 4) (N := some 63) (v := ?_) (a' := ?_) #[true, true, true, false, true, false, false, false, false, false] rfl rfl (any_of HT_.out pL) (fun _ _ _ h => h) (Or.inl ⟨by rfl, ?_⟩) ?_ ?_
                  rotate_left
                  ·intro w'
                   go_simp
                   with_reducible rfl
                  rotate_left
                  ·exact pP
                  refine pure_ (i := 5) (N := some 64) (v := ?_) (a' := ?_) #[true, true, true, false, true, true, false, false, false, false] rfl rfl (any_of HT_.out pL) (fun _ _ _ h => h) (Or.inl ⟨by rfl, ?_⟩) ?_ ?_
                  rotate_left
                  ·intro w'
                   go_simp
                   with_reducible rfl
                  rotate_left
                  ·exact pP
                  refine pure_ (i := 6) (N := some 65) (v := ?_) (a' := ?_) #[true, true, true, false, true, true, true, false, false, false] rfl rfl (any_of HT_.out pL) (fun _ _ _ h => h) (Or.inl ⟨by rfl, ?_⟩) ?_ ?_
                  rotate_left
                  ·intro w'
                   go_simp
                   with_reducible rfl
                  rotate_left
                  ·exact pP
                  refine pure_ (i := 7) (N := some 66) (v := ?_) (a' := ?_) #[true, true, true, false, true, true, true, true, false, false] rfl rfl (any_of HT_.out pL) (fun _ _ _ h => h) (Or.inl ⟨by rfl, ?_⟩) ?_ ?_
                  rotate_left
                  ·intro w'
                   go_simp
                   with_reducible rfl
                  rotate_left
                  ·exact pP
                  refine take_ (i := 3) (N := some 62) (v := ?_) (a' := ?_) #[true, true, true, true, true, true, true, true, false, false] rfl rfl (take_ofW HT_.out HW_.out pL) (fun _ _ _ h => h) (Or.inl ⟨by rfl, ?_⟩) hHeld ?_ ?_
                  rotate_left
                  ·rintro w' ⟨s0, s1, s2, s3⟩
                   go_simp
                   with_reducible rfl
                  rotate_left
                  ·exact pP
                  refine take_ (i := 8) (N := some 67) (v := ?_) (a' := ?_) #[true, true, true, true, true, true, true, true, true, false] rfl rfl (take_ofW HT_.out HW_.out pL) (fun _ _ _ h => h) (Or.inl ⟨by rfl, ?_⟩) hHeld ?_ ?_
                  rotate_left
                  ·rintro w' ⟨s0, s1, s2, s3⟩
                   go_simp
                   with_reducible rfl
                  rotate_left
                  ·exact pP
                  refine pure_ (i := 9) (N := some 68) (v := ?_) (a' := ?_) #[true, true, true, true, true, true, true, true, true, true] rfl rfl (any_of HT_.out pL) (fun _ _ _ h => h) (Or.inl ⟨by rfl, ?_⟩) ?_ ?_
                  rotate_left
                  ·intro w'
                   go_simp
                   with_reducible rfl
                  rotate_left
                  ·exact pP
                  refine done_ (done_of HT_.out pL) ?_
                  try go_wp2
                  go_roundg kj21
                  case measure => have := HJ3.out; have := HK2.out; have := HJ21.out; omega
                  case rel => exact ⟨(y457), (wrap64 (x30_2 + 1)), pF, H', ⟨by have := HJ3.out; have := HK2.out; have := HJ21.out; omega⟩, ⟨pR HO_7⟩, ⟨pB⟩⟩
                ·rw [if_neg c36] at H
                 exact absurd H (by simp)
               ·rw [if_neg c34] at H
                exact absurd H (by simp)
              ·rw [if_neg c33] at H
               exact absurd H (by simp)
          ·rw [if_neg c21] at H
           exact absurd H (by simp)
         ·rw [if_neg c20] at H
          exact absurd H (by simp)
        ·rw [if_neg c19] at H
         have c19b0 : decide (x30_2 < (l2.length : Int)) = false := decide_eq_false c19
         clear c19
         obtain rfl := Option.some.inj H
         go_wp2
         go_ret
         exact ⟨pE, pB⟩
     ·rw [if_neg c16] at H
      exact absurd H (by simp)
    ·rw [if_neg c15] at H
     exact absurd H (by simp)

end Go.Proofs.Ytehenjjaekkcfaa.Q
