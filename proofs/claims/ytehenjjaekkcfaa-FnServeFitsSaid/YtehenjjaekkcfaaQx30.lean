-- Written by the kit's print.py for all laws of the seat at once (one namespace), by a program of this session.
import Derived.Test.YtehenjjaekkcfaaQx0
import Derived.Test.YtehenjjaekkcfaaQx9
import Derived.Test.YtehenjjaekkcfaaQx19
import Derived.Test.YtehenjjaekkcfaaQx21
import Derived.Test.YtehenjjaekkcfaaQx29
namespace Go.Proofs.Ytehenjjaekkcfaa.Q
open Go.RowKit Go.Proofs.YtehenjjaekkcfaaW.PrintWords Go.Proofs.YtehenjjaekkcfaaW.PrintLast Go.Proofs.YtehenjjaekkcfaaW.PrintMore
attribute [local go_sem] max2_int min2_int max_two min_two max_three min_three max_four min_four   -- for this text's walks alone
set_option linter.unusedVariables false
set_option linter.unusedSimpArgs false

/-! ### laws_FnServeFits: function 11 -/
mutual
def laws_FnServeFits.j0 : Nat → List (S43) → List (S32) → List Int → Bool → Bool → Bool → Option (Bool)
 | 0, _, _, _, _, _, _ => none
 | k + 1, x3, x4, x5, x6, x7, x34 => if x34 = true then (some (x6 == x7)) else (laws_FnServeFits.l0 k x3 x4 x5 0)
def laws_FnServeFits.l0 : Nat → List (S43) → List (S32) → List Int → Int → Option (Bool)
 | 0, _, _, _, _ => none
 | k + 1, x3, x4, x5, x8 => if x8 < (x4.length : Int) then (laws_FnServeFits.l1 k x3 x4 x5 x8 0 0) else (some ((x5.length : Int) == (x3.length : Int)))
def laws_FnServeFits.l1 : Nat → List (S43) → List (S32) → List Int → Int → Int → Int → Option (Bool)
 | 0, _, _, _, _, _, _ => none
 | k + 1, x3, x4, x5, x8, x9, x10 => if x10 < (x5.length : Int) then (if 0 ≤ x10 then (if (rd x5 x10) = x8 then (if x10 < (x3.length : Int) then (if 0 ≤ x8 then (if x8 < (x4.length : Int) then ((impl_GuestMay.f ((rd_T43 x3 x10).f0) ((rd_T43 x3 x10).f1) ((rd_T43 x3 x10).f2) ((rd_T32 x4 x8).f0) ((rd_T32 x4 x8).f1)).bind fun t755 => (if t755 = true then (laws_FnServeFits.l1 k x3 x4 x5 x8 (wrap64 (x9 + 1)) (wrap64 (x10 + 1))) else (some false))) else (none)) else (none)) else (none)) else (laws_FnServeFits.l1 k x3 x4 x5 x8 x9 (wrap64 (x10 + 1)))) else (none)) else (if 0 ≤ x8 then (if x8 < (x4.length : Int) then (if x9 > ((rd_T32 x4 x8).f2) then (some false) else (laws_FnServeFits.l0 k x3 x4 x5 (wrap64 (x8 + 1)))) else (none)) else (none))
end
def laws_FnServeFits.f (k : Nat) (l0 : List Int) : Option (Bool) := if (l0.length : Int) > 1048576 then (some true) else ((spec_DrawServeFits.f k l0).bind fun bt739 => ((impl_ServeFits.f k bt739.1 bt739.2.1 bt739.2.2).bind fun t748 => ((spec_ServeFits.f k bt739.1 bt739.2.1 bt739.2.2).bind fun t749 => (if (t748 != t749) = true then (laws_FnServeFits.j0 k bt739.1 bt739.2.1 bt739.2.2 t748 t749 true) else (laws_FnServeFits.j0 k bt739.1 bt739.2.1 bt739.2.2 t748 t749 (!t748))))))
theorem laws_FnServeFits.mono_l : ∀ k, (∀ y0 y1 y2 y3 y4 y5, LeO (laws_FnServeFits.j0 k y0 y1 y2 y3 y4 y5) (laws_FnServeFits.j0 (k + 1) y0 y1 y2 y3 y4 y5)) ∧ (∀ y0 y1 y2 y3, LeO (laws_FnServeFits.l0 k y0 y1 y2 y3) (laws_FnServeFits.l0 (k + 1) y0 y1 y2 y3)) ∧ (∀ y0 y1 y2 y3 y4 y5, LeO (laws_FnServeFits.l1 k y0 y1 y2 y3 y4 y5) (laws_FnServeFits.l1 (k + 1) y0 y1 y2 y3 y4 y5))
 | 0 => ⟨fun _ _ _ _ _ _ r h => by simp [laws_FnServeFits.j0] at h, fun _ _ _ _ r h => by simp [laws_FnServeFits.l0] at h, fun _ _ _ _ _ _ r h => by simp [laws_FnServeFits.l1] at h⟩
 | k + 1 => by
  obtain ⟨ih0, ih1, ih2⟩ := laws_FnServeFits.mono_l k
  refine ⟨?_, ?_, ?_⟩
  ·intro y0 y1 y2 y3 y4 y5
   unfold laws_FnServeFits.j0
   repeat' first
   | (with_reducible exact ih0 _ _ _ _ _ _)
   | (with_reducible exact ih1 _ _ _ _)
   | (with_reducible exact ih2 _ _ _ _ _ _)
   | (with_reducible exact impl_ServeFits.mono _ _ _ _)
   | (with_reducible exact spec_DrawServeFits.mono _ _)
   | (with_reducible exact spec_ServeFits.mono _ _ _ _)
   | (with_reducible exact LeO.refl _)
   | (with_reducible exact LeO.none _)
   | (with_reducible refine LeO.ite ?_ ?_)
   | (with_reducible refine LeO.bind ?_ (fun _ => ?_))
   | exact ih0 _ _ _ _ _ _
   | exact ih1 _ _ _ _
   | exact ih2 _ _ _ _ _ _
   | exact impl_ServeFits.mono _ _ _ _
   | exact spec_DrawServeFits.mono _ _
   | exact spec_ServeFits.mono _ _ _ _
   | exact LeO.none _
   | refine LeO.ite ?_ ?_
   | refine LeO.bind ?_ (fun _ => ?_)
  ·intro y0 y1 y2 y3
   unfold laws_FnServeFits.l0
   repeat' first
   | (with_reducible exact ih0 _ _ _ _ _ _)
   | (with_reducible exact ih1 _ _ _ _)
   | (with_reducible exact ih2 _ _ _ _ _ _)
   | (with_reducible exact impl_ServeFits.mono _ _ _ _)
   | (with_reducible exact spec_DrawServeFits.mono _ _)
   | (with_reducible exact spec_ServeFits.mono _ _ _ _)
   | (with_reducible exact LeO.refl _)
   | (with_reducible exact LeO.none _)
   | (with_reducible refine LeO.ite ?_ ?_)
   | (with_reducible refine LeO.bind ?_ (fun _ => ?_))
   | exact ih0 _ _ _ _ _ _
   | exact ih1 _ _ _ _
   | exact ih2 _ _ _ _ _ _
   | exact impl_ServeFits.mono _ _ _ _
   | exact spec_DrawServeFits.mono _ _
   | exact spec_ServeFits.mono _ _ _ _
   | exact LeO.none _
   | refine LeO.ite ?_ ?_
   | refine LeO.bind ?_ (fun _ => ?_)
  ·intro y0 y1 y2 y3 y4 y5
   unfold laws_FnServeFits.l1
   repeat' first
   | (with_reducible exact ih0 _ _ _ _ _ _)
   | (with_reducible exact ih1 _ _ _ _)
   | (with_reducible exact ih2 _ _ _ _ _ _)
   | (with_reducible exact impl_ServeFits.mono _ _ _ _)
   | (with_reducible exact spec_DrawServeFits.mono _ _)
   | (with_reducible exact spec_ServeFits.mono _ _ _ _)
   | (with_reducible exact LeO.refl _)
   | (with_reducible exact LeO.none _)
   | (with_reducible refine LeO.ite ?_ ?_)
   | (with_reducible refine LeO.bind ?_ (fun _ => ?_))
   | exact ih0 _ _ _ _ _ _
   | exact ih1 _ _ _ _
   | exact ih2 _ _ _ _ _ _
   | exact impl_ServeFits.mono _ _ _ _
   | exact spec_DrawServeFits.mono _ _
   | exact spec_ServeFits.mono _ _ _ _
   | exact LeO.none _
   | refine LeO.ite ?_ ?_
   | refine LeO.bind ?_ (fun _ => ?_)
theorem laws_FnServeFits.mono : ∀ a0 k, LeO (laws_FnServeFits.f k a0) (laws_FnServeFits.f (k + 1) a0) := by
 intro a0 k
 obtain ⟨ih0, ih1, ih2⟩ := laws_FnServeFits.mono_l k
 unfold laws_FnServeFits.f
 repeat' first
   | (with_reducible exact ih0 _ _ _ _ _ _)
   | (with_reducible exact ih1 _ _ _ _)
   | (with_reducible exact ih2 _ _ _ _ _ _)
   | (with_reducible exact impl_ServeFits.mono _ _ _ _)
   | (with_reducible exact spec_DrawServeFits.mono _ _)
   | (with_reducible exact spec_ServeFits.mono _ _ _ _)
   | (with_reducible exact LeO.refl _)
   | (with_reducible exact LeO.none _)
   | (with_reducible refine LeO.ite ?_ ?_)
   | (with_reducible refine LeO.bind ?_ (fun _ => ?_))
   | exact ih0 _ _ _ _ _ _
   | exact ih1 _ _ _ _
   | exact ih2 _ _ _ _ _ _
   | exact impl_ServeFits.mono _ _ _ _
   | exact spec_DrawServeFits.mono _ _
   | exact spec_ServeFits.mono _ _ _ _
   | exact LeO.none _
   | refine LeO.ite ?_ ?_
   | refine LeO.bind ?_ (fun _ => ?_)
def laws_FnServeFits.T17 : Bool × List (List Nat × List Nat) := (true, [([], []), ([], []), ([0, 1], [0, 1]), ([2], [2]), ([], []), ([], []), ([4, 5], [4, 5]), ([6], [6]), ([7], [7]), ([], []), ([], []), ([9, 10], [9, 10]), ([11], [11]), ([12], [12]), ([3, 8, 13], [3, 8, 13]), ([14], [14])])
def laws_FnServeFits.B17 : List Nat := [0, 0, 3, 7, 0, 0, 48, 112, 240, 0, 0, 1536, 3584, 7680, 16383, 32767]
theorem laws_FnServeFits.tab17 : rtab .any (opsOf Try.f11 17) = laws_FnServeFits.T17 := by kernel_rfl
theorem laws_FnServeFits.bits17 : waitsOk laws_FnServeFits.T17.2 laws_FnServeFits.B17 = true := by kernel_rfl
set_option maxHeartbeats 8000000 in
set_option maxRecDepth 100000 in
theorem laws_FnServeFits.calls (k : Nat) (A0 : Option Addr) (c0 : Nat) (l0 : List Int) (r : Bool) (w : World) (hr0 : Kd.C (Kd.int .u8) w A0 l0.length l0) (hc0 : l0.length ≤ c0) (h : laws_FnServeFits.f k l0 = some r) :
  Calls Try.prog 11 #[.slice A0 l0.length c0] w fun e w' => e = .returned (.bool r) ∧ Below w.heap.size w w' := by
 have hu43 := Try.underlying43
 have HR0 := Aside0.mk hr0
 have HC0 := Aside0.mk hc0
 clear hr0 hc0
 have HB := Aside0.mk (Below.refl w.heap.size w)
 have H : (if (l0.length : Int) > 1048576 then (some true) else ((spec_DrawServeFits.f k l0).bind fun bt739 => ((impl_ServeFits.f k bt739.1 bt739.2.1 bt739.2.2).bind fun t748 => ((spec_ServeFits.f k bt739.1 bt739.2.1 bt739.2.2).bind fun t749 => (if (t748 != t749) = true then (laws_FnServeFits.j0 k bt739.1 bt739.2.1 bt739.2.2 t748 t749 true) else (laws_FnServeFits.j0 k bt739.1 bt739.2.1 bt739.2.2 t748 t749 (!t748))))))) = some r := h
 clear h
 by_cases c2 : (l0.length : Int) > 1048576
 ·rw [if_pos c2] at H
  have c2b0 : decide (1048576 < (l0.length : Int)) = true := decide_eq_true c2
  have c2b1 : decide (1048576 < l0.length) = true := decide_eq_true (by omega)
  clear c2
  obtain rfl := Option.some.inj H
  go_enter Try.func11, Try.ntmps11
  go_wp2
  go_ret
  exact ⟨pE, pB⟩
 ·rw [if_neg c2] at H
  have c2b0 : decide (1048576 < (l0.length : Int)) = false := decide_eq_false c2
  have c2b1 : decide (1048576 < l0.length) = false := decide_eq_false (by omega)
  clear c2
  replace H := Option.bind_eq_some_iff.mp H
  obtain ⟨⟨t739, t740, t741⟩, A30, H⟩ := H
  replace H : ((impl_ServeFits.f k t739 t740 t741).bind fun t748 => ((spec_ServeFits.f k t739 t740 t741).bind fun t749 => (if (t748 != t749) = true then (laws_FnServeFits.j0 k t739 t740 t741 t748 t749 true) else (laws_FnServeFits.j0 k t739 t740 t741 t748 t749 (!t748))))) = some r := H
  have A3 := Aside0.mk A30
  clear A30
  replace H := Option.bind_eq_some_iff.mp H
  obtain ⟨t748, A40, H⟩ := H
  replace H : ((spec_ServeFits.f k t739 t740 t741).bind fun t749 => (if (t748 != t749) = true then (laws_FnServeFits.j0 k t739 t740 t741 t748 t749 true) else (laws_FnServeFits.j0 k t739 t740 t741 t748 t749 (!t748)))) = some r := H
  have A4 := Aside0.mk A40
  clear A40
  replace H := Option.bind_eq_some_iff.mp H
  obtain ⟨t749, A50, H⟩ := H
  replace H : (if (t748 != t749) = true then (laws_FnServeFits.j0 k t739 t740 t741 t748 t749 true) else (laws_FnServeFits.j0 k t739 t740 t741 t748 t749 (!t748))) = some r := H
  have A5 := Aside0.mk A50
  clear A50
  have HC6 := Aside0.mk H
  clear H
  go_enter Try.func11, Try.ntmps11
  go_upto_region 6 with (first | ((with_reducible refine gate_callee (f := 45) rfl ?_); refine goesL_ (some 16) rfl rfl Try.func45 pL rfl #[.slice A0 l0.length c0] rfl pM ?_; (with_reducible refine (spec_DrawServeFits.calls k _ _ l0 t739 t740 t741 _ ?side1 ?side2 A3.out).mono ?_); (case side1 => exact pS (HR0.out)); (case side2 => exact HC0.out); rintro e w7 ⟨v742, v744, v746, rfl, ho0, ho1, ho2, hb⟩; refine ⟨_, rfl, ?_⟩; have n0_ := Aside0.mk (Kd.R_lower ho0 (below_size pB)); have n1_ := Aside0.mk (Kd.R_lower ho1 (below_size pB)); have n2_ := Aside0.mk (Kd.R_lower ho2 (below_size pB)); have n3_ := Aside0.mk (below_step pB hb); clear HB; have HO743 := n0_; have HO745 := n1_; have HO747 := n2_; have HB := n3_; clear n0_ n1_ n2_ n3_; (try clear hb); (try clear hb2); (try clear hk); (try clear hi); (try clear ho0); (try clear ho1); (try clear ho2); obtain ⟨Ao8, co8, eo8⟩ := Kd.R_slice HO743.out; subst eo8; obtain ⟨Ao9, co9, eo9⟩ := Kd.R_slice HO745.out; subst eo9; obtain ⟨Ao10, co10, eo10⟩ := Kd.R_slice HO747.out; subst eo10) | ((with_reducible refine gate_callee (f := 35) rfl ?_); refine goesL_ (some 23) rfl rfl Try.func35 pL rfl #[.slice Ao8 t739.length co8, .slice Ao9 t740.length co9, .slice Ao10 t741.length co10] rfl pM ?_; (with_reducible refine (impl_ServeFits.calls k _ _ t739 _ _ t740 _ _ t741 t748 _ ?side1 ?side2 ?side3 ?side4 ?side5 ?side6 A4.out).mono ?_); (case side1 => exact pS ((Kd.R_reads' HO743.out).2.2)); (case side2 => exact (Kd.R_reads' HO743.out).2.1); (case side3 => exact pS ((Kd.R_reads' HO745.out).2.2)); (case side4 => exact (Kd.R_reads' HO745.out).2.1); (case side5 => exact pS ((Kd.R_reads' HO747.out).2.2)); (case side6 => exact (Kd.R_reads' HO747.out).2.1); rintro e w11 ⟨rfl, hb⟩; refine ⟨_, rfl, ?_⟩; have n0_ := Aside0.mk (Kd.R_below (pR HO743) hb); have n1_ := Aside0.mk (Kd.R_below (pR HO745) hb); have n2_ := Aside0.mk (Kd.R_below (pR HO747) hb); have n3_ := Aside0.mk (below_step pB hb); clear HO743; clear HO745; clear HO747; clear HB; have HO743 := n0_; have HO745 := n1_; have HO747 := n2_; have HB := n3_; clear n0_ n1_ n2_ n3_; (try clear hb); (try clear hb2); (try clear hk); (try clear hi)) | ((with_reducible refine gate_callee (f := 32) rfl ?_); refine goesL_ (some 27) rfl rfl Try.func32 pL rfl #[.slice Ao8 t739.length co8, .slice Ao9 t740.length co9, .slice Ao10 t741.length co10] rfl pM ?_; (with_reducible refine (spec_ServeFits.calls k _ _ t739 _ _ t740 _ _ t741 t749 _ ?side1 ?side2 ?side3 ?side4 ?side5 ?side6 A5.out).mono ?_); (case side1 => exact pS ((Kd.R_reads' HO743.out).2.2)); (case side2 => exact (Kd.R_reads' HO743.out).2.1); (case side3 => exact pS ((Kd.R_reads' HO745.out).2.2)); (case side4 => exact (Kd.R_reads' HO745.out).2.1); (case side5 => exact pS ((Kd.R_reads' HO747.out).2.2)); (case side6 => exact (Kd.R_reads' HO747.out).2.1); rintro e w12 ⟨rfl, hb⟩; refine ⟨_, rfl, ?_⟩; have n0_ := Aside0.mk (Kd.R_below (pR HO743) hb); have n1_ := Aside0.mk (Kd.R_below (pR HO745) hb); have n2_ := Aside0.mk (Kd.R_below (pR HO747) hb); have n3_ := Aside0.mk (below_step pB hb); clear HO743; clear HO745; clear HO747; clear HB; have HO743 := n0_; have HO745 := n1_; have HO747 := n2_; have HB := n3_; clear n0_ n1_ n2_ n3_; (try clear hb); (try clear hb2); (try clear hk); (try clear hi)))
  (try simp only [Act.put, List.setIfInBounds_toArray, List.set_cons_zero, List.set_cons_succ])
  go_cut [34] (fun v34 wc => ∃ (kq : Nat) (x34_5 : Bool), v34 = .bool x34_5 ∧ Aside0 (laws_FnServeFits.j0 kq t739 t740 t741 t748 t749 x34_5 = some r) ∧ Aside0 (kq ≤ k) ∧ Aside0 (Kd.R k43 43 wc w.heap.size (fun _ => True) (.slice Ao8 t739.length co8) t739) ∧ Aside0 (Kd.R k32 32 wc w.heap.size (fun _ => True) (.slice Ao9 t740.length co9) t740) ∧ Aside0 (Kd.R (Kd.int .i64) 3 wc w.heap.size (fun _ => True) (.slice Ao10 t741.length co10) t741) ∧ Aside0 (Below w.heap.size w wc))
  case first =>
   have H := HC6.out
   clear HC6
   by_cases c13 : (t748 != t749) = true
   ·rw [if_pos c13] at H
    have c13b0 : (t748 != t749) = true := c13
    (try (have c13b1 : decide (t748 = t749) = false := by simpa using c13))
    (try (have c13b2 : (t748 == t749) = false := by simpa using c13))
    (try (have c13b3 : ¬ (t748 = t749) := by simpa using c13))
    clear c13
    (first | rw [c13b0] | (simp only [i64_w, i32_w]; rw [c13b0]) | skip)
    have H' := Aside0.mk H
    clear H
    go_wp2
    go_meet
    case rel => exact ⟨_, (true), pF, H', ⟨by first | omega | exact Nat.le_refl _⟩, ⟨pR HO743⟩, ⟨pR HO745⟩, ⟨pR HO747⟩, ⟨pB⟩⟩
   ·rw [if_neg c13] at H
    have c13b0 : (t748 != t749) = false := by simpa using c13
    (try (have c13b1 : decide (t748 = t749) = true := by simpa using c13))
    (try (have c13b2 : (t748 == t749) = true := by simpa using c13))
    clear c13
    (first | rw [c13b0] | (simp only [i64_w, i32_w]; rw [c13b0]) | skip)
    have H' := Aside0.mk H
    clear H
    go_wp2
    go_meet
    case rel => exact ⟨_, (!t748), pF, H', ⟨by first | omega | exact Nat.le_refl _⟩, ⟨pR HO743⟩, ⟨pR HO745⟩, ⟨pR HO747⟩, ⟨pB⟩⟩
  case rest =>
   clear HC6
   try clear c1
   try clear c2
   try clear c2b0
   try clear c2b1
   try clear p2
   try clear c3
   try clear c4
   try clear c11
   try clear c13
   try clear c13b0
   try clear c13b1
   try clear c13b2
   obtain ⟨kq, x34_5, rfl, HA, HJ5, HO_3, HO_4, HO_5, HB⟩ := hcut
   cases kq with
   | zero => exact absurd HA.out (by simp [laws_FnServeFits.j0])
   | succ kj5 =>
    have H := HA.out
    clear HA
    simp only [laws_FnServeFits.j0] at H
    by_cases c14 : x34_5 = true
    ·subst c14
     have H1 : (some (t748 == t749)) = some r := by rw [if_pos rfl] at H; exact H
     clear H
     have H := H1
     clear H1
     obtain rfl := Option.some.inj H
     go_wp2
     go_ret
     exact ⟨pE, pB⟩
    ·replace c14 := Bool.eq_false_iff.mpr c14
     subst c14
     have H1 : (laws_FnServeFits.l0 kj5 t739 t740 t741 0) = some r := by rw [if_neg (show ¬ (false = true) by decide)] at H; exact H
     clear H
     have H := H1
     clear H1
     have H' := Aside0.mk H
     clear H
     go_wp2
     go_loopg [8] kj5 (fun kq v8 w' => ∃ (x8_2 : Int), v8 = .int .i64 x8_2 ∧ Aside0 (laws_FnServeFits.l0 kq t739 t740 t741 x8_2 = some r) ∧ Aside0 (kq ≤ kj5) ∧ Aside0 (Kd.R k43 43 w' w.heap.size (fun _ => True) (.slice Ao8 t739.length co8) t739) ∧ Aside0 (Kd.R k32 32 w' w.heap.size (fun _ => True) (.slice Ao9 t740.length co9) t740) ∧ Aside0 (Kd.R (Kd.int .i64) 3 w' w.heap.size (fun _ => True) (.slice Ao10 t741.length co10) t741) ∧ Aside0 (Below w.heap.size w w'))
     case atStart => exact ⟨(0), pF, H', ⟨Nat.le_refl _⟩, ⟨pR HO_3⟩, ⟨pR HO_4⟩, ⟨pR HO_5⟩, ⟨pB⟩⟩
     case round =>
      clear H'
      try clear c1
      try clear c2
      try clear c2b0
      try clear c2b1
      try clear p2
      try clear c3
      try clear c4
      try clear c11
      try clear c13
      try clear c13b0
      try clear c13b1
      try clear c13b2
      try clear c14
      try clear p2
      obtain ⟨x8_2, rfl, HA, HK2, HO_3, HO_4, HO_5, HB⟩ := hrel
      cases gk with
      | zero => exact absurd HA.out (by simp [laws_FnServeFits.l0])
      | succ k2 =>
       have H := HA.out
       clear HA
       simp only [laws_FnServeFits.l0] at H
       by_cases c15 : x8_2 < (t740.length : Int)
       ·rw [if_pos c15] at H
        have c15b0 : decide (x8_2 < (t740.length : Int)) = true := decide_eq_true c15
        clear c15
        have H' := Aside0.mk H
        clear H
        go_wp2
        go_loopg [9, 10] k2 (fun kq v9 v10 w' => ∃ (x9_3 : Int) (x10_3 : Int), v9 = .int .i64 x9_3 ∧ v10 = .int .i64 x10_3 ∧ Aside0 (laws_FnServeFits.l1 kq t739 t740 t741 x8_2 x9_3 x10_3 = some r) ∧ Aside0 (kq ≤ k2) ∧ Aside0 (Kd.R k43 43 w' w.heap.size (fun _ => True) (.slice Ao8 t739.length co8) t739) ∧ Aside0 (Kd.R k32 32 w' w.heap.size (fun _ => True) (.slice Ao9 t740.length co9) t740) ∧ Aside0 (Kd.R (Kd.int .i64) 3 w' w.heap.size (fun _ => True) (.slice Ao10 t741.length co10) t741) ∧ Aside0 (Below w.heap.size w w'))
        case atStart => exact ⟨(0), (0), pF, pF, H', ⟨Nat.le_refl _⟩, ⟨pR HO_3⟩, ⟨pR HO_4⟩, ⟨pR HO_5⟩, ⟨pB⟩⟩
        case round =>
         clear H'
         try clear c1
         try clear c2
         try clear c2b0
         try clear c2b1
         try clear p2
         try clear c3
         try clear c4
         try clear c11
         try clear c13
         try clear c13b0
         try clear c13b1
         try clear c13b2
         try clear c14
         try clear c15
         try clear c15b0
         try clear p2
         obtain ⟨x9_3, x10_3, rfl, rfl, HA, HK3, HO_3, HO_4, HO_5, HB⟩ := hrel
         cases gk with
         | zero => exact absurd HA.out (by simp [laws_FnServeFits.l1])
         | succ k3 =>
          have H := HA.out
          clear HA
          simp only [laws_FnServeFits.l1] at H
          by_cases c16 : x10_3 < (t741.length : Int)
          ·rw [if_pos c16] at H
           have c16b0 : decide (x10_3 < (t741.length : Int)) = true := decide_eq_true c16
           clear c16
           by_cases c17 : 0 ≤ x10_3
           ·rw [if_pos c17] at H
            have c17b0 : decide (0 ≤ x10_3) = true := decide_eq_true c17
            clear c17
            by_cases c18 : (rd t741 x10_3) = x8_2
            ·rw [if_pos c18] at H
             have c18b0 : ((rd t741 x10_3) == x8_2) = true := beq_iff_eq.mpr c18
             have c18b1 : ((rd t741 x10_3) != x8_2) = false := bne_eq_false_iff_eq.mpr c18
             clear c18
             by_cases c19 : x10_3 < (t739.length : Int)
             ·rw [if_pos c19] at H
              have c19b0 : decide (x10_3 < (t739.length : Int)) = true := decide_eq_true c19
              clear c19
              by_cases c20 : 0 ≤ x8_2
              ·rw [if_pos c20] at H
               have c20b0 : decide (0 ≤ x8_2) = true := decide_eq_true c20
               clear c20
               by_cases c21 : x8_2 < (t740.length : Int)
               ·rw [if_pos c21] at H
                have c21b0 : decide (x8_2 < (t740.length : Int)) = true := decide_eq_true c21
                clear c21
                replace H := Option.bind_eq_some_iff.mp H
                obtain ⟨t755, A220, H⟩ := H
                replace H : (if t755 = true then (laws_FnServeFits.l1 k3 t739 t740 t741 x8_2 (wrap64 (x9_3 + 1)) (wrap64 (x10_3 + 1))) else (some false)) = some r := H
                have A22 := Aside0.mk A220
                clear A220
                by_cases c23 : t755 = true
                ·subst c23
                 have H1 : (laws_FnServeFits.l1 k3 t739 t740 t741 x8_2 (wrap64 (x9_3 + 1)) (wrap64 (x10_3 + 1))) = some r := by rw [if_pos rfl] at H; exact H
                 clear H
                 have H := H1
                 clear H1
                 have H' := Aside0.mk H
                 clear H
                 have p751 : 0 ≤ (x10_3 : Int) := of_decide_eq_true pA
                 have q751 : x10_3 < (t741.length : Int) := of_decide_eq_true pA
                 obtain ⟨ad751, e751, hx751_0⟩ := Kd.at_int (Kd.R_reads' HO_5.out).2.2 x10_3 p751 q751
                 cases e751
                 replace p751 := eq_true p751
                 replace q751 := eq_true q751
                 try go_wp2
                 have n0_ := Aside0.mk (Kd.R_drew HO_3.out)
                 have n1_ := Aside0.mk (Kd.R_drew HO_4.out)
                 have n2_ := Aside0.mk (Kd.R_drew HO_5.out)
                 have n3_ := Aside0.mk (below_drew1 HB.out)
                 clear HO_3
                 clear HO_4
                 clear HO_5
                 clear HB
                 have HO_3 := n0_
                 have HO_4 := n1_
                 have HO_5 := n2_
                 have HB := n3_
                 clear n0_ n1_ n2_ n3_
                 have p752 : 0 ≤ (x10_3 : Int) := of_decide_eq_true pA
                 have q752 : x10_3 < (t739.length : Int) := of_decide_eq_true pA
                 obtain ⟨ad752, e752, hx752_0, hx752_1, hx752_2⟩ := at_T43 (Kd.R_reads' HO_3.out).2.2 x10_3 p752 q752
                 cases e752
                 replace p752 := eq_true p752
                 replace q752 := eq_true q752
                 have p753 : 0 ≤ (x8_2 : Int) := of_decide_eq_true pA
                 have q753 : x8_2 < (t740.length : Int) := of_decide_eq_true pA
                 obtain ⟨ad753, e753, hx753_0, hx753_1, hx753_2⟩ := at_T32 (Kd.R_reads' HO_4.out).2.2 x8_2 p753 q753
                 cases e753
                 replace p753 := eq_true p753
                 replace q753 := eq_true q753
                 have p754 : 0 ≤ (x8_2 : Int) := of_decide_eq_true pA
                 have q754 : x8_2 < (t740.length : Int) := of_decide_eq_true pA
                 obtain ⟨ad754, e754, hx754_0, hx754_1, hx754_2⟩ := at_T32 (Kd.R_reads' HO_4.out).2.2 x8_2 p754 q754
                 obtain rfl : ad753 = ad754 := (by injection e754)
                 replace p754 := eq_true p754
                 replace q754 := eq_true q754
                 refine start_ (n := 16) (S := fun w' => w'.cell? (ad752.add ((x10_3).toNat * 3)) = some (.int .i64 ((rd_T43 t739 x10_3).f0)) ∧ w'.cell? ⟨(ad752.add ((x10_3).toNat * 3)).block, (ad752.add ((x10_3).toNat * 3)).off + 1, none⟩ = some (.int .i64 ((rd_T43 t739 x10_3).f1)) ∧ w'.cell? ⟨(ad752.add ((x10_3).toNat * 3)).block, (ad752.add ((x10_3).toNat * 3)).off + 2, none⟩ = some (.int .i64 ((rd_T43 t739 x10_3).f2)) ∧ w'.cell? (ad753.add ((x8_2).toNat * 3)) = some (.int .i64 ((rd_T32 t740 x8_2).f0)) ∧ w'.cell? ⟨(ad753.add ((x8_2).toNat * 3)).block, (ad753.add ((x8_2).toNat * 3)).off + 1, none⟩ = some (.int .i64 ((rd_T32 t740 x8_2).f1)) ∧ w'.cell? ⟨(ad753.add ((x8_2).toNat * 3)).block, (ad753.add ((x8_2).toNat * 3)).off + 2, none⟩ = some (.int .i64 ((rd_T32 t740 x8_2).f2)) ∧ w'.cell? (ad753.add ((x8_2).toNat * 3)) = some (.int .i64 ((rd_T32 t740 x8_2).f0)) ∧ w'.cell? ⟨(ad753.add ((x8_2).toNat * 3)).block, (ad753.add ((x8_2).toNat * 3)).off + 1, none⟩ = some (.int .i64 ((rd_T32 t740 x8_2).f1)) ∧ w'.cell? ⟨(ad753.add ((x8_2).toNat * 3)).block, (ad753.add ((x8_2).toNat * 3)).off + 2, none⟩ = some (.int .i64 ((rd_T32 t740 x8_2).f2))) (ds := []) #[false, false, false, false, false, false, false, false, false, false, false, false, false, false, false, false] pL rfl rfl ⟨hx752_0, hx752_1, hx752_2, hx753_0, hx753_1, hx753_2, hx754_0, hx754_1, hx754_2⟩ (fun hHeld => ?_); refine with_tabW laws_FnServeFits.tab17 laws_FnServeFits.bits17 (fun HT_ HW_ => ?_)
                 generalize wr.drew = w24 at HO_3 HO_4 HO_5 HB hx752_0 hx752_1 hx752_2 hx753_0 hx753_1 hx753_2 hx754_0 hx754_1 hx754_2 hHeld ⊢
                 refine pure_ (i := 0) (N := some 58) (v := ?_) (a' := ?_) #[true, false, false, false, false, false, false, false, false, false, false, false, false, false, false, false] rfl rfl (any_of HT_.out pL) (fun _ _ _ h => h) (Or.inl ⟨by rfl, ?_⟩) ?_ ?_
                 rotate_left
                 ·intro w'
                  go_simp
                  with_reducible rfl
                 rotate_left
                 ·exact pP
                 refine pure_ (i := 1) (N := some 59) (v := ?_) (a' := ?_) #[true, true, false, false, false, false, false, false, false, false, false, false, false, false, false, false] rfl rfl (any_of HT_.out pL) (fun _ _ _ h => h) (Or.inl ⟨by rfl, ?_⟩) ?_ ?_
                 rotate_left
                 ·intro w'
                  go_simp
                  with_reducible rfl
                 rotate_left
                 ·exact pP
                 refine pure_ (i := 2) (N := some 60) (v := ?_) (a' := ?_) #[true, true, true, false, false, false, false, false, false, false, false, false, false, false, false, false] rfl rfl (any_of HT_.out pL) (fun _ _ _ h => h) (Or.inl ⟨by rfl, ?_⟩) ?_ ?_
                 rotate_left
                 ·intro w'
                  go_simp
                  with_reducible rfl
                 rotate_left
                 ·exact pP
                 refine pure_ (i := 4) (N := some 62) (v := ?_) (a' := ?_) #[true, true, true, false, true, false, false, false, false, false, false, false, false, false, false, false] rfl rfl (any_of HT_.out pL) (fun _ _ _ h => h) (Or.inl ⟨by rfl, ?_⟩) ?_ ?_
                 rotate_left
                 ·intro w'
                  go_simp
                  with_reducible rfl
                 rotate_left
                 ·exact pP
                 refine pure_ (i := 5) (N := some 63) (v := ?_) (a' := ?_) #[true, true, true, false, true, true, false, false, false, false, false, false, false, false, false, false] rfl rfl (any_of HT_.out pL) (fun _ _ _ h => h) (Or.inl ⟨by rfl, ?_⟩) ?_ ?_
                 rotate_left
                 ·intro w'
                  go_simp
                  with_reducible rfl
                 rotate_left
                 ·exact pP
                 refine pure_ (i := 6) (N := some 64) (v := ?_) (a' := ?_) #[true, true, true, false, true, true, true, false, false, false, false, false, false, false, false, false] rfl rfl (any_of HT_.out pL) (fun _ _ _ h => h) (Or.inl ⟨by rfl, ?_⟩) ?_ ?_
                 rotate_left
                 ·intro w'
                  go_simp
                  with_reducible rfl
                 rotate_left
                 ·exact pP
                 refine pure_ (i := 7) (N := some 65) (v := ?_) (a' := ?_) #[true, true, true, false, true, true, true, true, false, false, false, false, false, false, false, false] rfl rfl (any_of HT_.out pL) (fun _ _ _ h => h) (Or.inl ⟨by rfl, ?_⟩) ?_ ?_
                 rotate_left
                 ·intro w'
                  go_simp
                  with_reducible rfl
                 rotate_left
                 ·exact pP
                 refine pure_ (i := 9) (N := some 67) (v := ?_) (a' := ?_) #[true, true, true, false, true, true, true, true, false, true, false, false, false, false, false, false] rfl rfl (any_of HT_.out pL) (fun _ _ _ h => h) (Or.inl ⟨by rfl, ?_⟩) ?_ ?_
                 rotate_left
                 ·intro w'
                  go_simp
                  with_reducible rfl
                 rotate_left
                 ·exact pP
                 refine pure_ (i := 10) (N := some 68) (v := ?_) (a' := ?_) #[true, true, true, false, true, true, true, true, false, true, true, false, false, false, false, false] rfl rfl (any_of HT_.out pL) (fun _ _ _ h => h) (Or.inl ⟨by rfl, ?_⟩) ?_ ?_
                 rotate_left
                 ·intro w'
                  go_simp
                  with_reducible rfl
                 rotate_left
                 ·exact pP
                 refine pure_ (i := 11) (N := some 69) (v := ?_) (a' := ?_) #[true, true, true, false, true, true, true, true, false, true, true, true, false, false, false, false] rfl rfl (any_of HT_.out pL) (fun _ _ _ h => h) (Or.inl ⟨by rfl, ?_⟩) ?_ ?_
                 rotate_left
                 ·intro w'
                  go_simp
                  with_reducible rfl
                 rotate_left
                 ·exact pP
                 refine pure_ (i := 12) (N := some 70) (v := ?_) (a' := ?_) #[true, true, true, false, true, true, true, true, false, true, true, true, true, false, false, false] rfl rfl (any_of HT_.out pL) (fun _ _ _ h => h) (Or.inl ⟨by rfl, ?_⟩) ?_ ?_
                 rotate_left
                 ·intro w'
                  go_simp
                  with_reducible rfl
                 rotate_left
                 ·exact pP
                 refine take_ (i := 3) (N := some 61) (v := ?_) (a' := ?_) #[true, true, true, true, true, true, true, true, false, true, true, true, true, false, false, false] rfl rfl (take_ofW HT_.out HW_.out pL) (fun _ _ _ h => h) (Or.inl ⟨by rfl, ?_⟩) hHeld ?_ ?_
                 rotate_left
                 ·rintro w' ⟨s0, s1, s2, s3, s4, s5, s6, s7, s8⟩
                  go_simp
                  with_reducible rfl
                 rotate_left
                 ·exact pP
                 refine take_ (i := 8) (N := some 66) (v := ?_) (a' := ?_) #[true, true, true, true, true, true, true, true, true, true, true, true, true, false, false, false] rfl rfl (take_ofW HT_.out HW_.out pL) (fun _ _ _ h => h) (Or.inl ⟨by rfl, ?_⟩) hHeld ?_ ?_
                 rotate_left
                 ·rintro w' ⟨s0, s1, s2, s3, s4, s5, s6, s7, s8⟩
                  go_simp
                  with_reducible rfl
                 rotate_left
                 ·exact pP
                 refine take_ (i := 13) (N := some 71) (v := ?_) (a' := ?_) #[true, true, true, true, true, true, true, true, true, true, true, true, true, true, false, false] rfl rfl (take_ofW HT_.out HW_.out pL) (fun _ _ _ h => h) (Or.inl ⟨by rfl, ?_⟩) hHeld ?_ ?_
                 rotate_left
                 ·rintro w' ⟨s0, s1, s2, s3, s4, s5, s6, s7, s8⟩
                  go_simp
                  with_reducible rfl
                 rotate_left
                 ·exact pP
                 refine one_ (i := 14) (N := some 72) #[true, true, true, true, true, true, true, true, true, true, true, true, true, true, true, false] rfl rfl (one_of HT_.out pL) (by decide) (fun K hK => ?_)
                 refine goes_ Try.func27 pL rfl #[.agg #[.int .i64 ((rd_T43 t739 x10_3).f0), .int .i64 ((rd_T43 t739 x10_3).f1), .int .i64 ((rd_T43 t739 x10_3).f2)], .int .i64 ((rd_T32 t740 x8_2).f0), .int .i64 ((rd_T32 t740 x8_2).f1)] (by rfl) rfl rfl pM ?_
                 with_reducible refine (impl_GuestMay.calls ((rd_T43 t739 x10_3).f0) ((rd_T43 t739 x10_3).f1) ((rd_T43 t739 x10_3).f2) ((rd_T32 t740 x8_2).f0) ((rd_T32 t740 x8_2).f1) true _ A22.out).mono ?_
                 rintro e w25 ⟨rfl, hb⟩
                 have HS0_ := (hb.cell (World.block_lt_of_cell? _ _ (hHeld.1))).trans (hHeld.1)
                 have HS1_ := (hb.cell (World.block_lt_of_cell? _ _ (hHeld.2.1))).trans (hHeld.2.1)
                 have HS2_ := (hb.cell (World.block_lt_of_cell? _ _ (hHeld.2.2.1))).trans (hHeld.2.2.1)
                 have HS3_ := (hb.cell (World.block_lt_of_cell? _ _ (hHeld.2.2.2.1))).trans (hHeld.2.2.2.1)
                 have HS4_ := (hb.cell (World.block_lt_of_cell? _ _ (hHeld.2.2.2.2.1))).trans (hHeld.2.2.2.2.1)
                 have HS5_ := (hb.cell (World.block_lt_of_cell? _ _ (hHeld.2.2.2.2.2.1))).trans (hHeld.2.2.2.2.2.1)
                 have HS6_ := (hb.cell (World.block_lt_of_cell? _ _ (hHeld.2.2.2.2.2.2.1))).trans (hHeld.2.2.2.2.2.2.1)
                 have HS7_ := (hb.cell (World.block_lt_of_cell? _ _ (hHeld.2.2.2.2.2.2.2.1))).trans (hHeld.2.2.2.2.2.2.2.1)
                 have HS8_ := (hb.cell (World.block_lt_of_cell? _ _ (hHeld.2.2.2.2.2.2.2.2))).trans (hHeld.2.2.2.2.2.2.2.2)
                 refine ⟨_, rfl, ?_⟩
                 have n0_ := Aside0.mk (Kd.R_below (pR HO_3) hb)
                 have n1_ := Aside0.mk (Kd.R_below (pR HO_4) hb)
                 have n2_ := Aside0.mk (Kd.R_below (pR HO_5) hb)
                 have n3_ := Aside0.mk (below_step pB hb)
                 clear HO_3
                 clear HO_4
                 clear HO_5
                 clear HB
                 have HO_3 := n0_
                 have HO_4 := n1_
                 have HO_5 := n2_
                 have HB := n3_
                 clear n0_ n1_ n2_ n3_
                 (try clear hb)
                 (try clear hb2)
                 (try clear hk)
                 (try clear hi)
                 refine hK.out _ _ ⟨HS0_, HS1_, HS2_, HS3_, HS4_, HS5_, HS6_, HS7_, HS8_⟩ (fun hHeld => ?_)
                 clear hK K
                 refine norm_ (a' := ?_) ?_ ?_
                 rotate_left
                 ·show Act.put _ (some 72) _ = _
                  exact pP
                 refine pure_ (i := 15) (N := some 73) (v := ?_) (a' := ?_) #[true, true, true, true, true, true, true, true, true, true, true, true, true, true, true, true] rfl rfl (any_of HT_.out pL) (fun _ _ _ h => h) (Or.inl ⟨by rfl, ?_⟩) ?_ ?_
                 rotate_left
                 ·intro w'
                  go_simp
                  with_reducible rfl
                 rotate_left
                 ·exact pP
                 refine done_ (done_of HT_.out pL) ?_
                 try go_wp2
                 go_roundg k3
                 case measure => have := HJ5.out; have := HK2.out; have := HK3.out; omega
                 case rel => exact ⟨(wrap64 (x9_3 + 1)), (wrap64 (x10_3 + 1)), pF, pF, H', ⟨by have := HJ5.out; have := HK2.out; have := HK3.out; omega⟩, ⟨pR HO_3⟩, ⟨pR HO_4⟩, ⟨pR HO_5⟩, ⟨pB⟩⟩
                ·replace c23 := Bool.eq_false_iff.mpr c23
                 subst c23
                 have H1 : (some false) = some r := by rw [if_neg (show ¬ (false = true) by decide)] at H; exact H
                 clear H
                 have H := H1
                 clear H1
                 obtain rfl := Option.some.inj H
                 have p751 : 0 ≤ (x10_3 : Int) := of_decide_eq_true pA
                 have q751 : x10_3 < (t741.length : Int) := of_decide_eq_true pA
                 obtain ⟨ad751, e751, hx751_0⟩ := Kd.at_int (Kd.R_reads' HO_5.out).2.2 x10_3 p751 q751
                 cases e751
                 replace p751 := eq_true p751
                 replace q751 := eq_true q751
                 try go_wp2
                 have n0_ := Aside0.mk (Kd.R_drew HO_3.out)
                 have n1_ := Aside0.mk (Kd.R_drew HO_4.out)
                 have n2_ := Aside0.mk (Kd.R_drew HO_5.out)
                 have n3_ := Aside0.mk (below_drew1 HB.out)
                 clear HO_3
                 clear HO_4
                 clear HO_5
                 clear HB
                 have HO_3 := n0_
                 have HO_4 := n1_
                 have HO_5 := n2_
                 have HB := n3_
                 clear n0_ n1_ n2_ n3_
                 have p752 : 0 ≤ (x10_3 : Int) := of_decide_eq_true pA
                 have q752 : x10_3 < (t739.length : Int) := of_decide_eq_true pA
                 obtain ⟨ad752, e752, hx752_0, hx752_1, hx752_2⟩ := at_T43 (Kd.R_reads' HO_3.out).2.2 x10_3 p752 q752
                 cases e752
                 replace p752 := eq_true p752
                 replace q752 := eq_true q752
                 have p753 : 0 ≤ (x8_2 : Int) := of_decide_eq_true pA
                 have q753 : x8_2 < (t740.length : Int) := of_decide_eq_true pA
                 obtain ⟨ad753, e753, hx753_0, hx753_1, hx753_2⟩ := at_T32 (Kd.R_reads' HO_4.out).2.2 x8_2 p753 q753
                 cases e753
                 replace p753 := eq_true p753
                 replace q753 := eq_true q753
                 have p754 : 0 ≤ (x8_2 : Int) := of_decide_eq_true pA
                 have q754 : x8_2 < (t740.length : Int) := of_decide_eq_true pA
                 obtain ⟨ad754, e754, hx754_0, hx754_1, hx754_2⟩ := at_T32 (Kd.R_reads' HO_4.out).2.2 x8_2 p754 q754
                 obtain rfl : ad753 = ad754 := (by injection e754)
                 replace p754 := eq_true p754
                 replace q754 := eq_true q754
                 refine start_ (n := 16) (S := fun w' => w'.cell? (ad752.add ((x10_3).toNat * 3)) = some (.int .i64 ((rd_T43 t739 x10_3).f0)) ∧ w'.cell? ⟨(ad752.add ((x10_3).toNat * 3)).block, (ad752.add ((x10_3).toNat * 3)).off + 1, none⟩ = some (.int .i64 ((rd_T43 t739 x10_3).f1)) ∧ w'.cell? ⟨(ad752.add ((x10_3).toNat * 3)).block, (ad752.add ((x10_3).toNat * 3)).off + 2, none⟩ = some (.int .i64 ((rd_T43 t739 x10_3).f2)) ∧ w'.cell? (ad753.add ((x8_2).toNat * 3)) = some (.int .i64 ((rd_T32 t740 x8_2).f0)) ∧ w'.cell? ⟨(ad753.add ((x8_2).toNat * 3)).block, (ad753.add ((x8_2).toNat * 3)).off + 1, none⟩ = some (.int .i64 ((rd_T32 t740 x8_2).f1)) ∧ w'.cell? ⟨(ad753.add ((x8_2).toNat * 3)).block, (ad753.add ((x8_2).toNat * 3)).off + 2, none⟩ = some (.int .i64 ((rd_T32 t740 x8_2).f2)) ∧ w'.cell? (ad753.add ((x8_2).toNat * 3)) = some (.int .i64 ((rd_T32 t740 x8_2).f0)) ∧ w'.cell? ⟨(ad753.add ((x8_2).toNat * 3)).block, (ad753.add ((x8_2).toNat * 3)).off + 1, none⟩ = some (.int .i64 ((rd_T32 t740 x8_2).f1)) ∧ w'.cell? ⟨(ad753.add ((x8_2).toNat * 3)).block, (ad753.add ((x8_2).toNat * 3)).off + 2, none⟩ = some (.int .i64 ((rd_T32 t740 x8_2).f2))) (ds := []) #[false, false, false, false, false, false, false, false, false, false, false, false, false, false, false, false] pL rfl rfl ⟨hx752_0, hx752_1, hx752_2, hx753_0, hx753_1, hx753_2, hx754_0, hx754_1, hx754_2⟩ (fun hHeld => ?_); refine with_tabW laws_FnServeFits.tab17 laws_FnServeFits.bits17 (fun HT_ HW_ => ?_)
                 generalize wr.drew = w26 at HO_3 HO_4 HO_5 HB hx752_0 hx752_1 hx752_2 hx753_0 hx753_1 hx753_2 hx754_0 hx754_1 hx754_2 hHeld ⊢
                 refine pure_ (i := 0) (N := some 58) (v := ?_) (a' := ?_) #[true, false, false, false, false, false, false, false, false, false, false, false, false, false, false, false] rfl rfl (any_of HT_.out pL) (fun _ _ _ h => h) (Or.inl ⟨by rfl, ?_⟩) ?_ ?_
                 rotate_left
                 ·intro w'
                  go_simp
                  with_reducible rfl
                 rotate_left
                 ·exact pP
                 refine pure_ (i := 1) (N := some 59) (v := ?_) (a' := ?_) #[true, true, false, false, false, false, false, false, false, false, false, false, false, false, false, false] rfl rfl (any_of HT_.out pL) (fun _ _ _ h => h) (Or.inl ⟨by rfl, ?_⟩) ?_ ?_
                 rotate_left
                 ·intro w'
                  go_simp
                  with_reducible rfl
                 rotate_left
                 ·exact pP
                 refine pure_ (i := 2) (N := some 60) (v := ?_) (a' := ?_) #[true, true, true, false, false, false, false, false, false, false, false, false, false, false, false, false] rfl rfl (any_of HT_.out pL) (fun _ _ _ h => h) (Or.inl ⟨by rfl, ?_⟩) ?_ ?_
                 rotate_left
                 ·intro w'
                  go_simp
                  with_reducible rfl
                 rotate_left
                 ·exact pP
                 refine pure_ (i := 4) (N := some 62) (v := ?_) (a' := ?_) #[true, true, true, false, true, false, false, false, false, false, false, false, false, false, false, false] rfl rfl (any_of HT_.out pL) (fun _ _ _ h => h) (Or.inl ⟨by rfl, ?_⟩) ?_ ?_
                 rotate_left
                 ·intro w'
                  go_simp
                  with_reducible rfl
                 rotate_left
                 ·exact pP
                 refine pure_ (i := 5) (N := some 63) (v := ?_) (a' := ?_) #[true, true, true, false, true, true, false, false, false, false, false, false, false, false, false, false] rfl rfl (any_of HT_.out pL) (fun _ _ _ h => h) (Or.inl ⟨by rfl, ?_⟩) ?_ ?_
                 rotate_left
                 ·intro w'
                  go_simp
                  with_reducible rfl
                 rotate_left
                 ·exact pP
                 refine pure_ (i := 6) (N := some 64) (v := ?_) (a' := ?_) #[true, true, true, false, true, true, true, false, false, false, false, false, false, false, false, false] rfl rfl (any_of HT_.out pL) (fun _ _ _ h => h) (Or.inl ⟨by rfl, ?_⟩) ?_ ?_
                 rotate_left
                 ·intro w'
                  go_simp
                  with_reducible rfl
                 rotate_left
                 ·exact pP
                 refine pure_ (i := 7) (N := some 65) (v := ?_) (a' := ?_) #[true, true, true, false, true, true, true, true, false, false, false, false, false, false, false, false] rfl rfl (any_of HT_.out pL) (fun _ _ _ h => h) (Or.inl ⟨by rfl, ?_⟩) ?_ ?_
                 rotate_left
                 ·intro w'
                  go_simp
                  with_reducible rfl
                 rotate_left
                 ·exact pP
                 refine pure_ (i := 9) (N := some 67) (v := ?_) (a' := ?_) #[true, true, true, false, true, true, true, true, false, true, false, false, false, false, false, false] rfl rfl (any_of HT_.out pL) (fun _ _ _ h => h) (Or.inl ⟨by rfl, ?_⟩) ?_ ?_
                 rotate_left
                 ·intro w'
                  go_simp
                  with_reducible rfl
                 rotate_left
                 ·exact pP
                 refine pure_ (i := 10) (N := some 68) (v := ?_) (a' := ?_) #[true, true, true, false, true, true, true, true, false, true, true, false, false, false, false, false] rfl rfl (any_of HT_.out pL) (fun _ _ _ h => h) (Or.inl ⟨by rfl, ?_⟩) ?_ ?_
                 rotate_left
                 ·intro w'
                  go_simp
                  with_reducible rfl
                 rotate_left
                 ·exact pP
                 refine pure_ (i := 11) (N := some 69) (v := ?_) (a' := ?_) #[true, true, true, false, true, true, true, true, false, true, true, true, false, false, false, false] rfl rfl (any_of HT_.out pL) (fun _ _ _ h => h) (Or.inl ⟨by rfl, ?_⟩) ?_ ?_
                 rotate_left
                 ·intro w'
                  go_simp
                  with_reducible rfl
                 rotate_left
                 ·exact pP
                 refine pure_ (i := 12) (N := some 70) (v := ?_) (a' := ?_) #[true, true, true, false, true, true, true, true, false, true, true, true, true, false, false, false] rfl rfl (any_of HT_.out pL) (fun _ _ _ h => h) (Or.inl ⟨by rfl, ?_⟩) ?_ ?_
                 rotate_left
                 ·intro w'
                  go_simp
                  with_reducible rfl
                 rotate_left
                 ·exact pP
                 refine take_ (i := 3) (N := some 61) (v := ?_) (a' := ?_) #[true, true, true, true, true, true, true, true, false, true, true, true, true, false, false, false] rfl rfl (take_ofW HT_.out HW_.out pL) (fun _ _ _ h => h) (Or.inl ⟨by rfl, ?_⟩) hHeld ?_ ?_
                 rotate_left
                 ·rintro w' ⟨s0, s1, s2, s3, s4, s5, s6, s7, s8⟩
                  go_simp
                  with_reducible rfl
                 rotate_left
                 ·exact pP
                 refine take_ (i := 8) (N := some 66) (v := ?_) (a' := ?_) #[true, true, true, true, true, true, true, true, true, true, true, true, true, false, false, false] rfl rfl (take_ofW HT_.out HW_.out pL) (fun _ _ _ h => h) (Or.inl ⟨by rfl, ?_⟩) hHeld ?_ ?_
                 rotate_left
                 ·rintro w' ⟨s0, s1, s2, s3, s4, s5, s6, s7, s8⟩
                  go_simp
                  with_reducible rfl
                 rotate_left
                 ·exact pP
                 refine take_ (i := 13) (N := some 71) (v := ?_) (a' := ?_) #[true, true, true, true, true, true, true, true, true, true, true, true, true, true, false, false] rfl rfl (take_ofW HT_.out HW_.out pL) (fun _ _ _ h => h) (Or.inl ⟨by rfl, ?_⟩) hHeld ?_ ?_
                 rotate_left
                 ·rintro w' ⟨s0, s1, s2, s3, s4, s5, s6, s7, s8⟩
                  go_simp
                  with_reducible rfl
                 rotate_left
                 ·exact pP
                 refine one_ (i := 14) (N := some 72) #[true, true, true, true, true, true, true, true, true, true, true, true, true, true, true, false] rfl rfl (one_of HT_.out pL) (by decide) (fun K hK => ?_)
                 refine goes_ Try.func27 pL rfl #[.agg #[.int .i64 ((rd_T43 t739 x10_3).f0), .int .i64 ((rd_T43 t739 x10_3).f1), .int .i64 ((rd_T43 t739 x10_3).f2)], .int .i64 ((rd_T32 t740 x8_2).f0), .int .i64 ((rd_T32 t740 x8_2).f1)] (by rfl) rfl rfl pM ?_
                 with_reducible refine (impl_GuestMay.calls ((rd_T43 t739 x10_3).f0) ((rd_T43 t739 x10_3).f1) ((rd_T43 t739 x10_3).f2) ((rd_T32 t740 x8_2).f0) ((rd_T32 t740 x8_2).f1) false _ A22.out).mono ?_
                 rintro e w27 ⟨rfl, hb⟩
                 have HS0_ := (hb.cell (World.block_lt_of_cell? _ _ (hHeld.1))).trans (hHeld.1)
                 have HS1_ := (hb.cell (World.block_lt_of_cell? _ _ (hHeld.2.1))).trans (hHeld.2.1)
                 have HS2_ := (hb.cell (World.block_lt_of_cell? _ _ (hHeld.2.2.1))).trans (hHeld.2.2.1)
                 have HS3_ := (hb.cell (World.block_lt_of_cell? _ _ (hHeld.2.2.2.1))).trans (hHeld.2.2.2.1)
                 have HS4_ := (hb.cell (World.block_lt_of_cell? _ _ (hHeld.2.2.2.2.1))).trans (hHeld.2.2.2.2.1)
                 have HS5_ := (hb.cell (World.block_lt_of_cell? _ _ (hHeld.2.2.2.2.2.1))).trans (hHeld.2.2.2.2.2.1)
                 have HS6_ := (hb.cell (World.block_lt_of_cell? _ _ (hHeld.2.2.2.2.2.2.1))).trans (hHeld.2.2.2.2.2.2.1)
                 have HS7_ := (hb.cell (World.block_lt_of_cell? _ _ (hHeld.2.2.2.2.2.2.2.1))).trans (hHeld.2.2.2.2.2.2.2.1)
                 have HS8_ := (hb.cell (World.block_lt_of_cell? _ _ (hHeld.2.2.2.2.2.2.2.2))).trans (hHeld.2.2.2.2.2.2.2.2)
                 refine ⟨_, rfl, ?_⟩
                 have n0_ := Aside0.mk (Kd.R_below (pR HO_3) hb)
                 have n1_ := Aside0.mk (Kd.R_below (pR HO_4) hb)
                 have n2_ := Aside0.mk (Kd.R_below (pR HO_5) hb)
                 have n3_ := Aside0.mk (below_step pB hb)
                 clear HO_3
                 clear HO_4
                 clear HO_5
                 clear HB
                 have HO_3 := n0_
                 have HO_4 := n1_
                 have HO_5 := n2_
                 have HB := n3_
                 clear n0_ n1_ n2_ n3_
                 (try clear hb)
                 (try clear hb2)
                 (try clear hk)
                 (try clear hi)
                 refine hK.out _ _ ⟨HS0_, HS1_, HS2_, HS3_, HS4_, HS5_, HS6_, HS7_, HS8_⟩ (fun hHeld => ?_)
                 clear hK K
                 refine norm_ (a' := ?_) ?_ ?_
                 rotate_left
                 ·show Act.put _ (some 72) _ = _
                  exact pP
                 refine pure_ (i := 15) (N := some 73) (v := ?_) (a' := ?_) #[true, true, true, true, true, true, true, true, true, true, true, true, true, true, true, true] rfl rfl (any_of HT_.out pL) (fun _ _ _ h => h) (Or.inl ⟨by rfl, ?_⟩) ?_ ?_
                 rotate_left
                 ·intro w'
                  go_simp
                  with_reducible rfl
                 rotate_left
                 ·exact pP
                 refine done_ (done_of HT_.out pL) ?_
                 try go_wp2
                 go_ret
                 exact ⟨pE, pB⟩
               ·rw [if_neg c21] at H
                exact absurd H (by simp)
              ·rw [if_neg c20] at H
               exact absurd H (by simp)
             ·rw [if_neg c19] at H
              exact absurd H (by simp)
            ·rw [if_neg c18] at H
             have c18b0 : ((rd t741 x10_3) == x8_2) = false := beq_eq_false_iff_ne.mpr c18
             have c18b1 : ((rd t741 x10_3) != x8_2) = true := bne_iff_ne.mpr c18
             have H' := Aside0.mk H
             clear H
             have p751 : 0 ≤ (x10_3 : Int) := of_decide_eq_true pA
             have q751 : x10_3 < (t741.length : Int) := of_decide_eq_true pA
             obtain ⟨ad751, e751, hx751_0⟩ := Kd.at_int (Kd.R_reads' HO_5.out).2.2 x10_3 p751 q751
             cases e751
             replace p751 := eq_true p751
             replace q751 := eq_true q751
             go_wp2
             go_roundg k3
             case measure => have := HJ5.out; have := HK2.out; have := HK3.out; omega
             case rel => exact ⟨(x9_3), (wrap64 (x10_3 + 1)), pF, pF, H', ⟨by have := HJ5.out; have := HK2.out; have := HK3.out; omega⟩, ⟨pR HO_3⟩, ⟨pR HO_4⟩, ⟨pR HO_5⟩, ⟨pB⟩⟩
           ·rw [if_neg c17] at H
            exact absurd H (by simp)
          ·rw [if_neg c16] at H
           have c16b0 : decide (x10_3 < (t741.length : Int)) = false := decide_eq_false c16
           clear c16
           by_cases c28 : 0 ≤ x8_2
           ·rw [if_pos c28] at H
            have c28b0 : decide (0 ≤ x8_2) = true := decide_eq_true c28
            clear c28
            by_cases c29 : x8_2 < (t740.length : Int)
            ·rw [if_pos c29] at H
             have c29b0 : decide (x8_2 < (t740.length : Int)) = true := decide_eq_true c29
             clear c29
             by_cases c30 : x9_3 > ((rd_T32 t740 x8_2).f2)
             ·rw [if_pos c30] at H
              have c30b0 : decide (((rd_T32 t740 x8_2).f2) < x9_3) = true := decide_eq_true c30
              clear c30
              obtain rfl := Option.some.inj H
              have p750 : 0 ≤ (x8_2 : Int) := of_decide_eq_true pA
              have q750 : x8_2 < (t740.length : Int) := of_decide_eq_true pA
              obtain ⟨ad750, e750, hx750_0, hx750_1, hx750_2⟩ := at_T32 (Kd.R_reads' HO_4.out).2.2 x8_2 p750 q750
              cases e750
              replace p750 := eq_true p750
              replace q750 := eq_true q750
              go_wp2
              go_ret
              exact ⟨pE, pB⟩
             ·rw [if_neg c30] at H
              have c30b0 : decide (((rd_T32 t740 x8_2).f2) < x9_3) = false := decide_eq_false c30
              clear c30
              have H' := Aside0.mk H
              clear H
              have p750 : 0 ≤ (x8_2 : Int) := of_decide_eq_true pA
              have q750 : x8_2 < (t740.length : Int) := of_decide_eq_true pA
              obtain ⟨ad750, e750, hx750_0, hx750_1, hx750_2⟩ := at_T32 (Kd.R_reads' HO_4.out).2.2 x8_2 p750 q750
              cases e750
              replace p750 := eq_true p750
              replace q750 := eq_true q750
              go_wp2
              go_roundg k3
              case measure => have := HJ5.out; have := HK2.out; have := HK3.out; omega
              case rel => exact ⟨(wrap64 (x8_2 + 1)), pF, H', ⟨by have := HJ5.out; have := HK2.out; have := HK3.out; omega⟩, ⟨pR HO_3⟩, ⟨pR HO_4⟩, ⟨pR HO_5⟩, ⟨pB⟩⟩
            ·rw [if_neg c29] at H
             exact absurd H (by simp)
           ·rw [if_neg c28] at H
            exact absurd H (by simp)
       ·rw [if_neg c15] at H
        have c15b0 : decide (x8_2 < (t740.length : Int)) = false := decide_eq_false c15
        clear c15
        obtain rfl := Option.some.inj H
        go_wp2
        go_ret
        exact ⟨pE, pB⟩

/-- THE ONE PURE STATEMENT of laws_FnServeFits: yours. -/
def laws_FnServeFits.Pure : Prop := ∀ (l0 : List Int), l0.length ≤ maxLen → l0.length * 1 ≤ 140737488351232 → (∀ x ∈ l0, (Lit.int .u8 x).wf = true) → ∃ k, laws_FnServeFits.f k l0 = some true
theorem laws_FnServeFits.walk (P : laws_FnServeFits.Pure) (a0 : Option Addr) (len0 cap0 : Nat) (z0 : List Int) (w : World) (w0 : (a0 = none ∧ len0 = 0 ∧ cap0 = 0 ∧ z0 = []) ∨ ∃ x, a0 = some x ∧ len0 ≤ cap0 ∧ cap0 ≤ maxLen ∧ z0.length = cap0 ∧ (∀ i, i < z0.length → w.cell? (x.add i) = some (.int .u8 (z0.getD i 0))) ∧ ∀ n ∈ z0, (Lit.int .u8 n).wf = true) (y0 : len0 * 1 ≤ 140737488351232) :
  Calls Try.prog 11 #[.slice a0 len0 cap0] w fun e w' => e = .returned (.bool true) ∧ Below w.heap.size w w' := by
 obtain ⟨l0, rfl, hr0, hm0, hw0, hc0⟩ := ReadsInt.ofRowC w0
 obtain ⟨k, h⟩ := P l0 hm0 y0 hw0
 refine (laws_FnServeFits.calls k _ _ l0 true w (Kd.C_of_reads (d := (0 : Int)) (h1 := fun _ => rfl) hr0) hc0 h).mono ?_
 rintro e w' ⟨rfl, hd⟩
 exact ⟨rfl, hd⟩

end Go.Proofs.Ytehenjjaekkcfaa.Q
