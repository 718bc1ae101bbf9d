-- Written by the kit's print.py for all laws of the seat at once (one namespace), by a program of this session.
import Derived.Test.YtglpjchpgjaanaaQx0
import Derived.Test.YtglpjchpgjaanaaQx3
import Derived.Test.YtglpjchpgjaanaaQx11
import Derived.Test.YtglpjchpgjaanaaQx12
import Derived.Test.YtglpjchpgjaanaaQx13
import Derived.Test.YtglpjchpgjaanaaQx16
namespace Go.Proofs.Ytglpjchpgjaanaa.Q
open Go.RowKit Go.Proofs.YtglpjchpgjaanaaW.PrintWords Go.Proofs.YtglpjchpgjaanaaW.PrintLast Go.Proofs.YtglpjchpgjaanaaW.PrintMore
attribute [local go_sem] max2_int min2_int max_two min_two max_three min_three max_four min_four   -- for this text's walks alone
set_option linter.unusedVariables false
set_option linter.unusedSimpArgs false

/-! ### laws_FnTraces: function 7 -/
mutual
def laws_FnTraces.j0 : Nat → List (S40) → List Int → List Int → Bool → Option (Bool)
 | 0, _, _, _, _ => none
 | k + 1, x3, x4, x5, x26 => if x26 = true then ((laws_sameInts.f k x4 x5).bind fun t307 => (some t307)) else (laws_FnTraces.l0 k x3 x4 0)
def laws_FnTraces.l0 : Nat → List (S40) → List Int → Int → Option (Bool)
 | 0, _, _, _ => none
 | k + 1, x3, x4, x6 => if x6 < (x3.length : Int) then (laws_FnTraces.j2 k x3 x4 x6 (decide (x6 < (x4.length : Int)))) else (laws_FnTraces.j2 k x3 x4 x6 false)
def laws_FnTraces.j2 : Nat → List (S40) → List Int → Int → Bool → Option (Bool)
 | 0, _, _, _, _ => none
 | k + 1, x3, x4, x6, x39 => if x39 = true then (laws_FnTraces.l1 k x3 x4 x6 0 0) else (some ((x4.length : Int) == (x3.length : Int)))
def laws_FnTraces.l1 : Nat → List (S40) → List Int → Int → Int → Int → Option (Bool)
 | 0, _, _, _, _, _ => none
 | k + 1, x3, x4, x6, x7, x8 => if x8 < x6 then (if 0 ≤ x6 then (if x6 < (x3.length : Int) then (laws_FnTraces.j4 k x3 x4 x6 x7 x8 (!((rd_T40 x3 x6).f2))) else (none)) else (none)) else (laws_FnTraces.j4 k x3 x4 x6 x7 x8 false)
def laws_FnTraces.j4 : Nat → List (S40) → List Int → Int → Int → Int → Bool → Option (Bool)
 | 0, _, _, _, _, _, _ => none
 | k + 1, x3, x4, x6, x7, x8, x52 => if x52 = true then (if 0 ≤ x8 then (if x8 < (x3.length : Int) then (if 0 ≤ x6 then (if x6 < (x3.length : Int) then (if ((rd_T40 x3 x8).f0) = ((rd_T40 x3 x6).f0) then (if (rd_T40 x3 x8).f2 = true then ((impl_AllergensJoin.f 0 ((rd_T40 x3 x8).f1)).bind fun t314 => (laws_FnTraces.l1 k x3 x4 x6 t314 (wrap64 (x8 + 1)))) else ((impl_AllergensJoin.f x7 ((rd_T40 x3 x8).f1)).bind fun t316 => (laws_FnTraces.l1 k x3 x4 x6 t316 (wrap64 (x8 + 1))))) else (laws_FnTraces.l1 k x3 x4 x6 x7 (wrap64 (x8 + 1)))) else (none)) else (none)) else (none)) else (none)) else (if 0 ≤ x6 then (if x6 < (x4.length : Int) then (if (rd x4 x6) = x7 then (laws_FnTraces.l0 k x3 x4 (wrap64 (x6 + 1))) else (some false)) else (none)) else (none))
end
def laws_FnTraces.f (k : Nat) (l0 : List Int) : Option (Bool) := if (l0.length : Int) > 1048576 then (some true) else ((spec_DrawTracesOf.f k l0).bind fun t296 => ((impl_TracesOf.f k t296).bind fun t299 => ((spec_TracesOf.f k t296).bind fun t302 => ((laws_sameInts.f k t299 t302).bind fun t305 => (if t305 = true then ((spec_UsesValid.f k t296).bind fun t306 => (laws_FnTraces.j0 k t296 t299 t302 (!t306))) else (laws_FnTraces.j0 k t296 t299 t302 true))))))
theorem laws_FnTraces.mono_l : ∀ k, (∀ y0 y1 y2 y3, LeO (laws_FnTraces.j0 k y0 y1 y2 y3) (laws_FnTraces.j0 (k + 1) y0 y1 y2 y3)) ∧ (∀ y0 y1 y2, LeO (laws_FnTraces.l0 k y0 y1 y2) (laws_FnTraces.l0 (k + 1) y0 y1 y2)) ∧ (∀ y0 y1 y2 y3, LeO (laws_FnTraces.j2 k y0 y1 y2 y3) (laws_FnTraces.j2 (k + 1) y0 y1 y2 y3)) ∧ (∀ y0 y1 y2 y3 y4, LeO (laws_FnTraces.l1 k y0 y1 y2 y3 y4) (laws_FnTraces.l1 (k + 1) y0 y1 y2 y3 y4)) ∧ (∀ y0 y1 y2 y3 y4 y5, LeO (laws_FnTraces.j4 k y0 y1 y2 y3 y4 y5) (laws_FnTraces.j4 (k + 1) y0 y1 y2 y3 y4 y5))
 | 0 => ⟨fun _ _ _ _ r h => by simp [laws_FnTraces.j0] at h, fun _ _ _ r h => by simp [laws_FnTraces.l0] at h, fun _ _ _ _ r h => by simp [laws_FnTraces.j2] at h, fun _ _ _ _ _ r h => by simp [laws_FnTraces.l1] at h, fun _ _ _ _ _ _ r h => by simp [laws_FnTraces.j4] at h⟩
 | k + 1 => by
  obtain ⟨ih0, ih1, ih2, ih3, ih4⟩ := laws_FnTraces.mono_l k
  refine ⟨?_, ?_, ?_, ?_, ?_⟩
  ·intro y0 y1 y2 y3
   unfold laws_FnTraces.j0
   repeat' first
   | (with_reducible exact ih0 _ _ _ _)
   | (with_reducible exact ih1 _ _ _)
   | (with_reducible exact ih2 _ _ _ _)
   | (with_reducible exact ih3 _ _ _ _ _)
   | (with_reducible exact ih4 _ _ _ _ _ _)
   | (with_reducible exact impl_TracesOf.mono _ _)
   | (with_reducible exact laws_sameInts.mono _ _ _)
   | (with_reducible exact spec_DrawTracesOf.mono _ _)
   | (with_reducible exact spec_TracesOf.mono _ _)
   | (with_reducible exact spec_UsesValid.mono _ _)
   | (with_reducible exact LeO.refl _)
   | (with_reducible exact LeO.none _)
   | (with_reducible refine LeO.ite ?_ ?_)
   | (with_reducible refine LeO.bind ?_ (fun _ => ?_))
   | exact ih0 _ _ _ _
   | exact ih1 _ _ _
   | exact ih2 _ _ _ _
   | exact ih3 _ _ _ _ _
   | exact ih4 _ _ _ _ _ _
   | exact impl_TracesOf.mono _ _
   | exact laws_sameInts.mono _ _ _
   | exact spec_DrawTracesOf.mono _ _
   | exact spec_TracesOf.mono _ _
   | exact spec_UsesValid.mono _ _
   | exact LeO.none _
   | refine LeO.ite ?_ ?_
   | refine LeO.bind ?_ (fun _ => ?_)
  ·intro y0 y1 y2
   unfold laws_FnTraces.l0
   repeat' first
   | (with_reducible exact ih0 _ _ _ _)
   | (with_reducible exact ih1 _ _ _)
   | (with_reducible exact ih2 _ _ _ _)
   | (with_reducible exact ih3 _ _ _ _ _)
   | (with_reducible exact ih4 _ _ _ _ _ _)
   | (with_reducible exact impl_TracesOf.mono _ _)
   | (with_reducible exact laws_sameInts.mono _ _ _)
   | (with_reducible exact spec_DrawTracesOf.mono _ _)
   | (with_reducible exact spec_TracesOf.mono _ _)
   | (with_reducible exact spec_UsesValid.mono _ _)
   | (with_reducible exact LeO.refl _)
   | (with_reducible exact LeO.none _)
   | (with_reducible refine LeO.ite ?_ ?_)
   | (with_reducible refine LeO.bind ?_ (fun _ => ?_))
   | exact ih0 _ _ _ _
   | exact ih1 _ _ _
   | exact ih2 _ _ _ _
   | exact ih3 _ _ _ _ _
   | exact ih4 _ _ _ _ _ _
   | exact impl_TracesOf.mono _ _
   | exact laws_sameInts.mono _ _ _
   | exact spec_DrawTracesOf.mono _ _
   | exact spec_TracesOf.mono _ _
   | exact spec_UsesValid.mono _ _
   | exact LeO.none _
   | refine LeO.ite ?_ ?_
   | refine LeO.bind ?_ (fun _ => ?_)
  ·intro y0 y1 y2 y3
   unfold laws_FnTraces.j2
   repeat' first
   | (with_reducible exact ih0 _ _ _ _)
   | (with_reducible exact ih1 _ _ _)
   | (with_reducible exact ih2 _ _ _ _)
   | (with_reducible exact ih3 _ _ _ _ _)
   | (with_reducible exact ih4 _ _ _ _ _ _)
   | (with_reducible exact impl_TracesOf.mono _ _)
   | (with_reducible exact laws_sameInts.mono _ _ _)
   | (with_reducible exact spec_DrawTracesOf.mono _ _)
   | (with_reducible exact spec_TracesOf.mono _ _)
   | (with_reducible exact spec_UsesValid.mono _ _)
   | (with_reducible exact LeO.refl _)
   | (with_reducible exact LeO.none _)
   | (with_reducible refine LeO.ite ?_ ?_)
   | (with_reducible refine LeO.bind ?_ (fun _ => ?_))
   | exact ih0 _ _ _ _
   | exact ih1 _ _ _
   | exact ih2 _ _ _ _
   | exact ih3 _ _ _ _ _
   | exact ih4 _ _ _ _ _ _
   | exact impl_TracesOf.mono _ _
   | exact laws_sameInts.mono _ _ _
   | exact spec_DrawTracesOf.mono _ _
   | exact spec_TracesOf.mono _ _
   | exact spec_UsesValid.mono _ _
   | exact LeO.none _
   | refine LeO.ite ?_ ?_
   | refine LeO.bind ?_ (fun _ => ?_)
  ·intro y0 y1 y2 y3 y4
   unfold laws_FnTraces.l1
   repeat' first
   | (with_reducible exact ih0 _ _ _ _)
   | (with_reducible exact ih1 _ _ _)
   | (with_reducible exact ih2 _ _ _ _)
   | (with_reducible exact ih3 _ _ _ _ _)
   | (with_reducible exact ih4 _ _ _ _ _ _)
   | (with_reducible exact impl_TracesOf.mono _ _)
   | (with_reducible exact laws_sameInts.mono _ _ _)
   | (with_reducible exact spec_DrawTracesOf.mono _ _)
   | (with_reducible exact spec_TracesOf.mono _ _)
   | (with_reducible exact spec_UsesValid.mono _ _)
   | (with_reducible exact LeO.refl _)
   | (with_reducible exact LeO.none _)
   | (with_reducible refine LeO.ite ?_ ?_)
   | (with_reducible refine LeO.bind ?_ (fun _ => ?_))
   | exact ih0 _ _ _ _
   | exact ih1 _ _ _
   | exact ih2 _ _ _ _
   | exact ih3 _ _ _ _ _
   | exact ih4 _ _ _ _ _ _
   | exact impl_TracesOf.mono _ _
   | exact laws_sameInts.mono _ _ _
   | exact spec_DrawTracesOf.mono _ _
   | exact spec_TracesOf.mono _ _
   | exact spec_UsesValid.mono _ _
   | exact LeO.none _
   | refine LeO.ite ?_ ?_
   | refine LeO.bind ?_ (fun _ => ?_)
  ·intro y0 y1 y2 y3 y4 y5
   unfold laws_FnTraces.j4
   repeat' first
   | (with_reducible exact ih0 _ _ _ _)
   | (with_reducible exact ih1 _ _ _)
   | (with_reducible exact ih2 _ _ _ _)
   | (with_reducible exact ih3 _ _ _ _ _)
   | (with_reducible exact ih4 _ _ _ _ _ _)
   | (with_reducible exact impl_TracesOf.mono _ _)
   | (with_reducible exact laws_sameInts.mono _ _ _)
   | (with_reducible exact spec_DrawTracesOf.mono _ _)
   | (with_reducible exact spec_TracesOf.mono _ _)
   | (with_reducible exact spec_UsesValid.mono _ _)
   | (with_reducible exact LeO.refl _)
   | (with_reducible exact LeO.none _)
   | (with_reducible refine LeO.ite ?_ ?_)
   | (with_reducible refine LeO.bind ?_ (fun _ => ?_))
   | exact ih0 _ _ _ _
   | exact ih1 _ _ _
   | exact ih2 _ _ _ _
   | exact ih3 _ _ _ _ _
   | exact ih4 _ _ _ _ _ _
   | exact impl_TracesOf.mono _ _
   | exact laws_sameInts.mono _ _ _
   | exact spec_DrawTracesOf.mono _ _
   | exact spec_TracesOf.mono _ _
   | exact spec_UsesValid.mono _ _
   | exact LeO.none _
   | refine LeO.ite ?_ ?_
   | refine LeO.bind ?_ (fun _ => ?_)
theorem laws_FnTraces.mono : ∀ a0 k, LeO (laws_FnTraces.f k a0) (laws_FnTraces.f (k + 1) a0) := by
 intro a0 k
 obtain ⟨ih0, ih1, ih2, ih3, ih4⟩ := laws_FnTraces.mono_l k
 unfold laws_FnTraces.f
 repeat' first
   | (with_reducible exact ih0 _ _ _ _)
   | (with_reducible exact ih1 _ _ _)
   | (with_reducible exact ih2 _ _ _ _)
   | (with_reducible exact ih3 _ _ _ _ _)
   | (with_reducible exact ih4 _ _ _ _ _ _)
   | (with_reducible exact impl_TracesOf.mono _ _)
   | (with_reducible exact laws_sameInts.mono _ _ _)
   | (with_reducible exact spec_DrawTracesOf.mono _ _)
   | (with_reducible exact spec_TracesOf.mono _ _)
   | (with_reducible exact spec_UsesValid.mono _ _)
   | (with_reducible exact LeO.refl _)
   | (with_reducible exact LeO.none _)
   | (with_reducible refine LeO.ite ?_ ?_)
   | (with_reducible refine LeO.bind ?_ (fun _ => ?_))
   | exact ih0 _ _ _ _
   | exact ih1 _ _ _
   | exact ih2 _ _ _ _
   | exact ih3 _ _ _ _ _
   | exact ih4 _ _ _ _ _ _
   | exact impl_TracesOf.mono _ _
   | exact laws_sameInts.mono _ _ _
   | exact spec_DrawTracesOf.mono _ _
   | exact spec_TracesOf.mono _ _
   | exact spec_UsesValid.mono _ _
   | exact LeO.none _
   | refine LeO.ite ?_ ?_
   | refine LeO.bind ?_ (fun _ => ?_)
set_option maxHeartbeats 8000000 in
set_option maxRecDepth 100000 in
theorem laws_FnTraces.calls (k : Nat) (A0 : Option Addr) (c0 : Nat) (l0 : List Int) (r : Bool) (w : World) (hr0 : Kd.C (Kd.int .u8) w A0 l0.length l0) (hc0 : l0.length ≤ c0) (h : laws_FnTraces.f k l0 = some r) :
  Calls Try.prog 7 #[.slice A0 l0.length c0] w fun e w' => e = .returned (.bool r) ∧ Below w.heap.size w w' := by
 have HR0 := Aside0.mk hr0
 have HC0 := Aside0.mk hc0
 clear hr0 hc0
 have HB := Aside0.mk (Below.refl w.heap.size w)
 have H : (if (l0.length : Int) > 1048576 then (some true) else ((spec_DrawTracesOf.f k l0).bind fun t296 => ((impl_TracesOf.f k t296).bind fun t299 => ((spec_TracesOf.f k t296).bind fun t302 => ((laws_sameInts.f k t299 t302).bind fun t305 => (if t305 = true then ((spec_UsesValid.f k t296).bind fun t306 => (laws_FnTraces.j0 k t296 t299 t302 (!t306))) else (laws_FnTraces.j0 k t296 t299 t302 true))))))) = some r := h
 clear h
 by_cases c2 : (l0.length : Int) > 1048576
 ·rw [if_pos c2] at H
  have c2b0 : decide (1048576 < (l0.length : Int)) = true := decide_eq_true c2
  have c2b1 : decide (1048576 < l0.length) = true := decide_eq_true (by omega)
  clear c2
  obtain rfl := Option.some.inj H
  go_enter Try.func7, Try.ntmps7
  go_wp2
  repeat (go_quiet (fail); try go_wp2)
  go_ret
  exact ⟨pE, pB⟩
 ·rw [if_neg c2] at H
  have c2b0 : decide (1048576 < (l0.length : Int)) = false := decide_eq_false c2
  have c2b1 : decide (1048576 < l0.length) = false := decide_eq_false (by omega)
  clear c2
  replace H := Option.bind_eq_some_iff.mp H
  obtain ⟨t296, A30, H⟩ := H
  replace H : ((impl_TracesOf.f k t296).bind fun t299 => ((spec_TracesOf.f k t296).bind fun t302 => ((laws_sameInts.f k t299 t302).bind fun t305 => (if t305 = true then ((spec_UsesValid.f k t296).bind fun t306 => (laws_FnTraces.j0 k t296 t299 t302 (!t306))) else (laws_FnTraces.j0 k t296 t299 t302 true))))) = some r := H
  have A3 := Aside0.mk A30
  clear A30
  replace H := Option.bind_eq_some_iff.mp H
  obtain ⟨t299, A40, H⟩ := H
  replace H : ((spec_TracesOf.f k t296).bind fun t302 => ((laws_sameInts.f k t299 t302).bind fun t305 => (if t305 = true then ((spec_UsesValid.f k t296).bind fun t306 => (laws_FnTraces.j0 k t296 t299 t302 (!t306))) else (laws_FnTraces.j0 k t296 t299 t302 true)))) = some r := H
  have A4 := Aside0.mk A40
  clear A40
  replace H := Option.bind_eq_some_iff.mp H
  obtain ⟨t302, A50, H⟩ := H
  replace H : ((laws_sameInts.f k t299 t302).bind fun t305 => (if t305 = true then ((spec_UsesValid.f k t296).bind fun t306 => (laws_FnTraces.j0 k t296 t299 t302 (!t306))) else (laws_FnTraces.j0 k t296 t299 t302 true))) = some r := H
  have A5 := Aside0.mk A50
  clear A50
  have HC6 := Aside0.mk H
  clear H
  go_enter Try.func7, Try.ntmps7
  go_upto_region 6 with (first | (go_at_call 21; (with_reducible refine (spec_DrawTracesOf.calls k _ _ l0 t296 _ ?side1 ?side2 A3.out).mono ?_); (case side1 => exact pS (HR0.out)); (case side2 => exact HC0.out); rintro e w7 ⟨v297, rfl, ho0, hb⟩; have n0_ := Aside0.mk (Kd.R_lower ho0 (below_size pB)); have n1_ := Aside0.mk (below_step pB hb); clear HB; have HO298 := n0_; have HB := n1_; clear n0_ n1_; (try clear hb); (try clear hb2); (try clear hk); (try clear hi); (try clear ho0); obtain ⟨Ao8, co8, eo8⟩ := Kd.R_slice HO298.out; subst eo8) | (go_at_call 22; (with_reducible refine (impl_TracesOf.calls k _ _ t296 t299 _ ?side1 ?side2 A4.out).mono ?_); (case side1 => exact pS ((Kd.R_reads' HO298.out).2.2)); (case side2 => exact (Kd.R_reads' HO298.out).2.1); rintro e w9 ⟨v300, rfl, ho0, hb⟩; have n0_ := Aside0.mk (Kd.R_below (pR HO298) hb); have n1_ := Aside0.mk (Kd.R_lower ho0 (below_size pB)); have n2_ := Aside0.mk (below_step pB hb); clear HO298; clear HB; have HO298 := n0_; have HO301 := n1_; have HB := n2_; clear n0_ n1_ n2_; (try clear hb); (try clear hb2); (try clear hk); (try clear hi); (try clear ho0)) | (go_at_call 23; (with_reducible refine (spec_TracesOf.calls k _ _ t296 t302 _ ?side1 ?side2 A5.out).mono ?_); (case side1 => exact pS ((Kd.R_reads' HO298.out).2.2)); (case side2 => exact (Kd.R_reads' HO298.out).2.1); rintro e w10 ⟨v303, rfl, ho0, hb⟩; have n0_ := Aside0.mk (Kd.R_below (pR HO298) hb); have n1_ := Aside0.mk (Kd.R_elder' (pR HO301) (Kd.R_base ho0) hb); have n2_ := Aside0.mk (Kd.R_lower (Kd.R_new' ho0 (Kd.R_lt (pR HO301))) (below_size pB)); have n3_ := Aside0.mk (below_step pB hb); clear HO298; clear HO301; clear HB; have HO298 := n0_; have HO301 := n1_; have HO304 := n2_; have HB := n3_; clear n0_ n1_ n2_ n3_; (try clear hb); (try clear hb2); (try clear hk); (try clear hi); (try clear ho0)))
  repeat (go_quiet (first | (go_at_call 21; (with_reducible refine (spec_DrawTracesOf.calls k _ _ l0 t296 _ ?side1 ?side2 A3.out).mono ?_); (case side1 => exact pS (HR0.out)); (case side2 => exact HC0.out); rintro e w7 ⟨v297, rfl, ho0, hb⟩; have n0_ := Aside0.mk (Kd.R_lower ho0 (below_size pB)); have n1_ := Aside0.mk (below_step pB hb); clear HB; have HO298 := n0_; have HB := n1_; clear n0_ n1_; (try clear hb); (try clear hb2); (try clear hk); (try clear hi); (try clear ho0); obtain ⟨Ao8, co8, eo8⟩ := Kd.R_slice HO298.out; subst eo8) | (go_at_call 22; (with_reducible refine (impl_TracesOf.calls k _ _ t296 t299 _ ?side1 ?side2 A4.out).mono ?_); (case side1 => exact pS ((Kd.R_reads' HO298.out).2.2)); (case side2 => exact (Kd.R_reads' HO298.out).2.1); rintro e w9 ⟨v300, rfl, ho0, hb⟩; have n0_ := Aside0.mk (Kd.R_below (pR HO298) hb); have n1_ := Aside0.mk (Kd.R_lower ho0 (below_size pB)); have n2_ := Aside0.mk (below_step pB hb); clear HO298; clear HB; have HO298 := n0_; have HO301 := n1_; have HB := n2_; clear n0_ n1_ n2_; (try clear hb); (try clear hb2); (try clear hk); (try clear hi); (try clear ho0)) | (go_at_call 23; (with_reducible refine (spec_TracesOf.calls k _ _ t296 t302 _ ?side1 ?side2 A5.out).mono ?_); (case side1 => exact pS ((Kd.R_reads' HO298.out).2.2)); (case side2 => exact (Kd.R_reads' HO298.out).2.1); rintro e w10 ⟨v303, rfl, ho0, hb⟩; have n0_ := Aside0.mk (Kd.R_below (pR HO298) hb); have n1_ := Aside0.mk (Kd.R_elder' (pR HO301) (Kd.R_base ho0) hb); have n2_ := Aside0.mk (Kd.R_lower (Kd.R_new' ho0 (Kd.R_lt (pR HO301))) (below_size pB)); have n3_ := Aside0.mk (below_step pB hb); clear HO298; clear HO301; clear HB; have HO298 := n0_; have HO301 := n1_; have HO304 := n2_; have HB := n3_; clear n0_ n1_ n2_ n3_; (try clear hb); (try clear hb2); (try clear hk); (try clear hi); (try clear ho0))); go_upto_region 6 with (first | (go_at_call 21; (with_reducible refine (spec_DrawTracesOf.calls k _ _ l0 t296 _ ?side1 ?side2 A3.out).mono ?_); (case side1 => exact pS (HR0.out)); (case side2 => exact HC0.out); rintro e w7 ⟨v297, rfl, ho0, hb⟩; have n0_ := Aside0.mk (Kd.R_lower ho0 (below_size pB)); have n1_ := Aside0.mk (below_step pB hb); clear HB; have HO298 := n0_; have HB := n1_; clear n0_ n1_; (try clear hb); (try clear hb2); (try clear hk); (try clear hi); (try clear ho0); obtain ⟨Ao8, co8, eo8⟩ := Kd.R_slice HO298.out; subst eo8) | (go_at_call 22; (with_reducible refine (impl_TracesOf.calls k _ _ t296 t299 _ ?side1 ?side2 A4.out).mono ?_); (case side1 => exact pS ((Kd.R_reads' HO298.out).2.2)); (case side2 => exact (Kd.R_reads' HO298.out).2.1); rintro e w9 ⟨v300, rfl, ho0, hb⟩; have n0_ := Aside0.mk (Kd.R_below (pR HO298) hb); have n1_ := Aside0.mk (Kd.R_lower ho0 (below_size pB)); have n2_ := Aside0.mk (below_step pB hb); clear HO298; clear HB; have HO298 := n0_; have HO301 := n1_; have HB := n2_; clear n0_ n1_ n2_; (try clear hb); (try clear hb2); (try clear hk); (try clear hi); (try clear ho0)) | (go_at_call 23; (with_reducible refine (spec_TracesOf.calls k _ _ t296 t302 _ ?side1 ?side2 A5.out).mono ?_); (case side1 => exact pS ((Kd.R_reads' HO298.out).2.2)); (case side2 => exact (Kd.R_reads' HO298.out).2.1); rintro e w10 ⟨v303, rfl, ho0, hb⟩; have n0_ := Aside0.mk (Kd.R_below (pR HO298) hb); have n1_ := Aside0.mk (Kd.R_elder' (pR HO301) (Kd.R_base ho0) hb); have n2_ := Aside0.mk (Kd.R_lower (Kd.R_new' ho0 (Kd.R_lt (pR HO301))) (below_size pB)); have n3_ := Aside0.mk (below_step pB hb); clear HO298; clear HO301; clear HB; have HO298 := n0_; have HO301 := n1_; have HO304 := n2_; have HB := n3_; clear n0_ n1_ n2_ n3_; (try clear hb); (try clear hb2); (try clear hk); (try clear hi); (try clear ho0))))
  (try simp only [Act.put, List.setIfInBounds_toArray, List.set_cons_zero, List.set_cons_succ])
  go_cut [26] (fun v26 wc => ∃ (kq : Nat) (x26_5 : Bool), v26 = .bool x26_5 ∧ Aside0 (laws_FnTraces.j0 kq t296 t299 t302 x26_5 = some r) ∧ Aside0 (kq ≤ k) ∧ Aside0 (Kd.R k40 40 wc w.heap.size (fun _ => True) (.slice Ao8 t296.length co8) t296) ∧ Aside0 (Kd.R (Kd.int .i64) 3 wc w.heap.size (fun k_ => some k_ ≠ (v303 : Value).ownBlock) v300 t299) ∧ Aside0 (Kd.R (Kd.int .i64) 3 wc w.heap.size (fun k_ => some k_ ≠ (v300 : Value).ownBlock) v303 t302) ∧ Aside0 (Below w.heap.size w wc))
  case first =>
   have H := HC6.out
   clear HC6
   replace H := Option.bind_eq_some_iff.mp H
   obtain ⟨t305, A110, H⟩ := H
   replace H : (if t305 = true then ((spec_UsesValid.f k t296).bind fun t306 => (laws_FnTraces.j0 k t296 t299 t302 (!t306))) else (laws_FnTraces.j0 k t296 t299 t302 true)) = some r := H
   have A11 := Aside0.mk A110
   clear A110
   by_cases c12 : t305 = true
   ·subst c12
    have H1 : ((spec_UsesValid.f k t296).bind fun t306 => (laws_FnTraces.j0 k t296 t299 t302 (!t306))) = some r := by rw [if_pos rfl] at H; exact H
    clear H
    have H := H1
    clear H1
    replace H := Option.bind_eq_some_iff.mp H
    obtain ⟨t306, A130, H⟩ := H
    replace H : (laws_FnTraces.j0 k t296 t299 t302 (!t306)) = some r := H
    have A13 := Aside0.mk A130
    clear A130
    have H' := Aside0.mk H
    clear H
    obtain ⟨Ao14, co14, eo14⟩ := Kd.R_slice HO301.out
    subst eo14
    obtain ⟨Ao15, co15, eo15⟩ := Kd.R_slice HO304.out
    subst eo15
    go_wp2_with (first | (go_at_call 24; (with_reducible refine (laws_sameInts.calls k _ _ t299 _ _ t302 true _ ?side1 ?side2 ?side3 ?side4 A11.out).mono ?_); (case side1 => exact pS ((Kd.R_reads' HO301.out).2.2)); (case side2 => exact (Kd.R_reads' HO301.out).2.1); (case side3 => exact pS ((Kd.R_reads' HO304.out).2.2)); (case side4 => exact (Kd.R_reads' HO304.out).2.1); rintro e w' ⟨rfl, ⟨nd, rfl⟩⟩; (try first | exact ⟨rfl, _, World.drewN_drewN _ _ _⟩ | exact ⟨rfl, _, Eq.trans (World.drewN_drewN _ _ _) (congrArg (World.drewN _) (Nat.add_assoc _ _ _))⟩)) | (go_at_call 15; (with_reducible refine (spec_UsesValid.calls k _ _ t296 t306 _ ?side1 ?side2 A13.out).mono ?_); (case side1 => exact pS ((Kd.R_reads' HO298.out).2.2)); (case side2 => exact (Kd.R_reads' HO298.out).2.1); rintro e w' ⟨rfl, ⟨nd, rfl⟩⟩; (try first | exact ⟨rfl, _, World.drewN_drewN _ _ _⟩ | exact ⟨rfl, _, Eq.trans (World.drewN_drewN _ _ _) (congrArg (World.drewN _) (Nat.add_assoc _ _ _))⟩)))
    repeat (go_quiet (first | (go_at_call 24; (with_reducible refine (laws_sameInts.calls k _ _ t299 _ _ t302 true _ ?side1 ?side2 ?side3 ?side4 A11.out).mono ?_); (case side1 => exact pS ((Kd.R_reads' HO301.out).2.2)); (case side2 => exact (Kd.R_reads' HO301.out).2.1); (case side3 => exact pS ((Kd.R_reads' HO304.out).2.2)); (case side4 => exact (Kd.R_reads' HO304.out).2.1); rintro e w' ⟨rfl, ⟨nd, rfl⟩⟩; (try first | exact ⟨rfl, _, World.drewN_drewN _ _ _⟩ | exact ⟨rfl, _, Eq.trans (World.drewN_drewN _ _ _) (congrArg (World.drewN _) (Nat.add_assoc _ _ _))⟩)) | (go_at_call 15; (with_reducible refine (spec_UsesValid.calls k _ _ t296 t306 _ ?side1 ?side2 A13.out).mono ?_); (case side1 => exact pS ((Kd.R_reads' HO298.out).2.2)); (case side2 => exact (Kd.R_reads' HO298.out).2.1); rintro e w' ⟨rfl, ⟨nd, rfl⟩⟩; (try first | exact ⟨rfl, _, World.drewN_drewN _ _ _⟩ | exact ⟨rfl, _, Eq.trans (World.drewN_drewN _ _ _) (congrArg (World.drewN _) (Nat.add_assoc _ _ _))⟩))); try go_wp2_with (first | (go_at_call 24; (with_reducible refine (laws_sameInts.calls k _ _ t299 _ _ t302 true _ ?side1 ?side2 ?side3 ?side4 A11.out).mono ?_); (case side1 => exact pS ((Kd.R_reads' HO301.out).2.2)); (case side2 => exact (Kd.R_reads' HO301.out).2.1); (case side3 => exact pS ((Kd.R_reads' HO304.out).2.2)); (case side4 => exact (Kd.R_reads' HO304.out).2.1); rintro e w' ⟨rfl, ⟨nd, rfl⟩⟩; (try first | exact ⟨rfl, _, World.drewN_drewN _ _ _⟩ | exact ⟨rfl, _, Eq.trans (World.drewN_drewN _ _ _) (congrArg (World.drewN _) (Nat.add_assoc _ _ _))⟩)) | (go_at_call 15; (with_reducible refine (spec_UsesValid.calls k _ _ t296 t306 _ ?side1 ?side2 A13.out).mono ?_); (case side1 => exact pS ((Kd.R_reads' HO298.out).2.2)); (case side2 => exact (Kd.R_reads' HO298.out).2.1); rintro e w' ⟨rfl, ⟨nd, rfl⟩⟩; (try first | exact ⟨rfl, _, World.drewN_drewN _ _ _⟩ | exact ⟨rfl, _, Eq.trans (World.drewN_drewN _ _ _) (congrArg (World.drewN _) (Nat.add_assoc _ _ _))⟩))))
    go_meet
    case rel => exact ⟨_, (!t306), pF, H', ⟨by first | omega | exact Nat.le_refl _⟩, ⟨pR HO298⟩, ⟨by (with_reducible repeat (first | apply Kd.R_alloc | apply Kd.R_drewN | apply Kd.R_drew)); exact Kd.R_mono HO301.out (fun _ hk => hk.2)⟩, ⟨by (with_reducible repeat (first | apply Kd.R_alloc | apply Kd.R_drewN | apply Kd.R_drew)); exact Kd.R_mono HO304.out (fun _ hk => hk.2)⟩, ⟨pB⟩⟩
   ·replace c12 := Bool.eq_false_iff.mpr c12
    subst c12
    have H1 : (laws_FnTraces.j0 k t296 t299 t302 true) = some r := by rw [if_neg (show ¬ (false = true) by decide)] at H; exact H
    clear H
    have H := H1
    clear H1
    have H' := Aside0.mk H
    clear H
    obtain ⟨Ao16, co16, eo16⟩ := Kd.R_slice HO301.out
    subst eo16
    obtain ⟨Ao17, co17, eo17⟩ := Kd.R_slice HO304.out
    subst eo17
    go_wp2_with (first | (go_at_call 24; (with_reducible refine (laws_sameInts.calls k _ _ t299 _ _ t302 false _ ?side1 ?side2 ?side3 ?side4 A11.out).mono ?_); (case side1 => exact pS ((Kd.R_reads' HO301.out).2.2)); (case side2 => exact (Kd.R_reads' HO301.out).2.1); (case side3 => exact pS ((Kd.R_reads' HO304.out).2.2)); (case side4 => exact (Kd.R_reads' HO304.out).2.1); rintro e w' ⟨rfl, ⟨nd, rfl⟩⟩; (try first | exact ⟨rfl, _, World.drewN_drewN _ _ _⟩ | exact ⟨rfl, _, Eq.trans (World.drewN_drewN _ _ _) (congrArg (World.drewN _) (Nat.add_assoc _ _ _))⟩)))
    repeat (go_quiet (first | (go_at_call 24; (with_reducible refine (laws_sameInts.calls k _ _ t299 _ _ t302 false _ ?side1 ?side2 ?side3 ?side4 A11.out).mono ?_); (case side1 => exact pS ((Kd.R_reads' HO301.out).2.2)); (case side2 => exact (Kd.R_reads' HO301.out).2.1); (case side3 => exact pS ((Kd.R_reads' HO304.out).2.2)); (case side4 => exact (Kd.R_reads' HO304.out).2.1); rintro e w' ⟨rfl, ⟨nd, rfl⟩⟩; (try first | exact ⟨rfl, _, World.drewN_drewN _ _ _⟩ | exact ⟨rfl, _, Eq.trans (World.drewN_drewN _ _ _) (congrArg (World.drewN _) (Nat.add_assoc _ _ _))⟩))); try go_wp2_with (first | (go_at_call 24; (with_reducible refine (laws_sameInts.calls k _ _ t299 _ _ t302 false _ ?side1 ?side2 ?side3 ?side4 A11.out).mono ?_); (case side1 => exact pS ((Kd.R_reads' HO301.out).2.2)); (case side2 => exact (Kd.R_reads' HO301.out).2.1); (case side3 => exact pS ((Kd.R_reads' HO304.out).2.2)); (case side4 => exact (Kd.R_reads' HO304.out).2.1); rintro e w' ⟨rfl, ⟨nd, rfl⟩⟩; (try first | exact ⟨rfl, _, World.drewN_drewN _ _ _⟩ | exact ⟨rfl, _, Eq.trans (World.drewN_drewN _ _ _) (congrArg (World.drewN _) (Nat.add_assoc _ _ _))⟩))))
    go_meet
    case rel => exact ⟨_, (true), pF, H', ⟨by first | omega | exact Nat.le_refl _⟩, ⟨pR HO298⟩, ⟨by (with_reducible repeat (first | apply Kd.R_alloc | apply Kd.R_drewN | apply Kd.R_drew)); exact Kd.R_mono HO301.out (fun _ hk => hk.2)⟩, ⟨by (with_reducible repeat (first | apply Kd.R_alloc | apply Kd.R_drewN | apply Kd.R_drew)); exact Kd.R_mono HO304.out (fun _ hk => hk.2)⟩, ⟨pB⟩⟩
  case rest =>
   clear HC6
   try clear c1
   try clear c2
   try clear c2b0
   try clear c2b1
   try clear p2
   try clear c7
   try clear c12
   obtain ⟨kq, x26_5, rfl, HA, HJ5, HO_3, HO_4, HO_5, HB⟩ := hcut
   cases kq with
   | zero => exact absurd HA.out (by simp [laws_FnTraces.j0])
   | succ kj5 =>
    have H := HA.out
    clear HA
    simp only [laws_FnTraces.j0] at H
    by_cases c18 : x26_5 = true
    ·subst c18
     have H1 : ((laws_sameInts.f kj5 t299 t302).bind fun t307 => (some t307)) = some r := by rw [if_pos rfl] at H; exact H
     clear H
     have H := H1
     clear H1
     replace H := Option.bind_eq_some_iff.mp H
     obtain ⟨t307, A190, H⟩ := H
     replace H : (some t307) = some r := H
     have A19 := Aside0.mk A190
     clear A190
     obtain rfl := Option.some.inj H
     obtain ⟨Ao20, co20, eo20⟩ := Kd.R_slice HO_4.out
     subst eo20
     obtain ⟨Ao21, co21, eo21⟩ := Kd.R_slice HO_5.out
     subst eo21
     go_wp2_with (first | (go_at_call 24; (with_reducible refine (laws_sameInts.calls kj5 _ _ t299 _ _ t302 t307 _ ?side1 ?side2 ?side3 ?side4 A19.out).mono ?_); (case side1 => exact pS ((Kd.R_reads' HO_4.out).2.2)); (case side2 => exact (Kd.R_reads' HO_4.out).2.1); (case side3 => exact pS ((Kd.R_reads' HO_5.out).2.2)); (case side4 => exact (Kd.R_reads' HO_5.out).2.1); rintro e w' ⟨rfl, ⟨nd, rfl⟩⟩; (try first | exact ⟨rfl, _, World.drewN_drewN _ _ _⟩ | exact ⟨rfl, _, Eq.trans (World.drewN_drewN _ _ _) (congrArg (World.drewN _) (Nat.add_assoc _ _ _))⟩)))
     repeat (go_quiet (first | (go_at_call 24; (with_reducible refine (laws_sameInts.calls kj5 _ _ t299 _ _ t302 t307 _ ?side1 ?side2 ?side3 ?side4 A19.out).mono ?_); (case side1 => exact pS ((Kd.R_reads' HO_4.out).2.2)); (case side2 => exact (Kd.R_reads' HO_4.out).2.1); (case side3 => exact pS ((Kd.R_reads' HO_5.out).2.2)); (case side4 => exact (Kd.R_reads' HO_5.out).2.1); rintro e w' ⟨rfl, ⟨nd, rfl⟩⟩; (try first | exact ⟨rfl, _, World.drewN_drewN _ _ _⟩ | exact ⟨rfl, _, Eq.trans (World.drewN_drewN _ _ _) (congrArg (World.drewN _) (Nat.add_assoc _ _ _))⟩))); try go_wp2_with (first | (go_at_call 24; (with_reducible refine (laws_sameInts.calls kj5 _ _ t299 _ _ t302 t307 _ ?side1 ?side2 ?side3 ?side4 A19.out).mono ?_); (case side1 => exact pS ((Kd.R_reads' HO_4.out).2.2)); (case side2 => exact (Kd.R_reads' HO_4.out).2.1); (case side3 => exact pS ((Kd.R_reads' HO_5.out).2.2)); (case side4 => exact (Kd.R_reads' HO_5.out).2.1); rintro e w' ⟨rfl, ⟨nd, rfl⟩⟩; (try first | exact ⟨rfl, _, World.drewN_drewN _ _ _⟩ | exact ⟨rfl, _, Eq.trans (World.drewN_drewN _ _ _) (congrArg (World.drewN _) (Nat.add_assoc _ _ _))⟩))))
     go_ret
     exact ⟨pE, pB⟩
    ·replace c18 := Bool.eq_false_iff.mpr c18
     subst c18
     have H1 : (laws_FnTraces.l0 kj5 t296 t299 0) = some r := by rw [if_neg (show ¬ (false = true) by decide)] at H; exact H
     clear H
     have H := H1
     clear H1
     have H' := Aside0.mk H
     clear H
     go_wp2
     repeat (go_quiet (fail); try go_wp2)
     go_loopg [6] kj5 (fun kq v6 w' => ∃ (x6_2 : Int), v6 = .int .i64 x6_2 ∧ Aside0 (laws_FnTraces.l0 kq t296 t299 x6_2 = some r) ∧ Aside0 (kq ≤ kj5) ∧ Aside0 (Kd.R k40 40 w' w.heap.size (fun _ => True) (.slice Ao8 t296.length co8) t296) ∧ Aside0 (Kd.R (Kd.int .i64) 3 w' w.heap.size (fun _ => True) v300 t299) ∧ Aside0 (Below w.heap.size w w'))
     case atStart => exact ⟨(0), pF, H', ⟨Nat.le_refl _⟩, ⟨pR HO_3⟩, ⟨by (with_reducible repeat (first | apply Kd.R_alloc | apply Kd.R_drewN | apply Kd.R_drew)); exact Kd.R_mono HO_4.out (fun _ hk => trivial)⟩, ⟨pB⟩⟩
     case round =>
      clear H'
      try clear c1
      try clear c2
      try clear c2b0
      try clear c2b1
      try clear p2
      try clear c7
      try clear c12
      try clear c18
      try clear p2
      obtain ⟨x6_2, rfl, HA, HK2, HO_3, HO_4, HB⟩ := hrel
      cases gk with
      | zero => exact absurd HA.out (by simp [laws_FnTraces.l0])
      | succ k2 =>
       have H := HA.out
       clear HA
       simp only [laws_FnTraces.l0] at H
       have HC22 := Aside0.mk H
       clear H
       go_upto_region 9 with (fail)
       repeat (go_quiet (fail); go_upto_region 9 with (fail))
       go_cut [39] (fun v39 wc => ∃ (kq : Nat) (x39_21 : Bool), v39 = .bool x39_21 ∧ Aside0 (laws_FnTraces.j2 kq t296 t299 x6_2 x39_21 = some r) ∧ Aside0 (kq ≤ k2) ∧ Aside0 (Kd.R k40 40 wc w.heap.size (fun _ => True) (.slice Ao8 t296.length co8) t296) ∧ Aside0 (Kd.R (Kd.int .i64) 3 wc w.heap.size (fun _ => True) v300 t299) ∧ Aside0 (Below w.heap.size w wc))
       case first =>
        have H := HC22.out
        clear HC22
        by_cases c23 : x6_2 < (t296.length : Int)
        ·rw [if_pos c23] at H
         have c23b0 : decide (x6_2 < (t296.length : Int)) = true := decide_eq_true c23
         clear c23
         (first | rw [c23b0] | (simp only [i64_w, i32_w]; rw [c23b0]) | skip)
         have H' := Aside0.mk H
         clear H
         obtain ⟨Ao24, co24, eo24⟩ := Kd.R_slice HO_4.out
         subst eo24
         go_wp2
         repeat (go_quiet (fail); try go_wp2)
         go_meet
         case rel => exact ⟨_, (decide (x6_2 < (t299.length : Int))), pF, H', ⟨by have := HJ5.out; have := HK2.out; first | omega | exact Nat.le_refl _⟩, ⟨pR HO_3⟩, ⟨pR HO_4⟩, ⟨pB⟩⟩
        ·rw [if_neg c23] at H
         have c23b0 : decide (x6_2 < (t296.length : Int)) = false := decide_eq_false c23
         clear c23
         (first | rw [c23b0] | (simp only [i64_w, i32_w]; rw [c23b0]) | skip)
         have H' := Aside0.mk H
         clear H
         go_wp2
         repeat (go_quiet (fail); try go_wp2)
         go_meet
         case rel => exact ⟨_, (false), pF, H', ⟨by have := HJ5.out; have := HK2.out; first | omega | exact Nat.le_refl _⟩, ⟨pR HO_3⟩, ⟨pR HO_4⟩, ⟨pB⟩⟩
       case rest =>
        clear HC22
        try clear c1
        try clear c2
        try clear c2b0
        try clear c2b1
        try clear p2
        try clear c7
        try clear c12
        try clear c18
        try clear c23
        try clear c23b0
        try clear p2
        obtain ⟨kq, x39_21, rfl, HA, HJ21, HO_3, HO_4, HB⟩ := hcut
        cases kq with
        | zero => exact absurd HA.out (by simp [laws_FnTraces.j2])
        | succ kj21 =>
         have H := HA.out
         clear HA
         simp only [laws_FnTraces.j2] at H
         by_cases c25 : x39_21 = true
         ·subst c25
          have H1 : (laws_FnTraces.l1 kj21 t296 t299 x6_2 0 0) = some r := by rw [if_pos rfl] at H; exact H
          clear H
          have H := H1
          clear H1
          have H' := Aside0.mk H
          clear H
          go_wp2
          repeat (go_quiet (fail); try go_wp2)
          go_loopg [7, 8] kj21 (fun kq v7 v8 w' => ∃ (x7_4 : Int) (x8_4 : Int), v7 = .int .i64 x7_4 ∧ v8 = .int .i64 x8_4 ∧ Aside0 (laws_FnTraces.l1 kq t296 t299 x6_2 x7_4 x8_4 = some r) ∧ Aside0 (kq ≤ kj21) ∧ Aside0 (Kd.R k40 40 w' w.heap.size (fun _ => True) (.slice Ao8 t296.length co8) t296) ∧ Aside0 (Kd.R (Kd.int .i64) 3 w' w.heap.size (fun _ => True) v300 t299) ∧ Aside0 (Below w.heap.size w w'))
          case atStart => exact ⟨(0), (0), pF, pF, H', ⟨Nat.le_refl _⟩, ⟨pR HO_3⟩, ⟨pR HO_4⟩, ⟨pB⟩⟩
          case round =>
           clear H'
           try clear c1
           try clear c2
           try clear c2b0
           try clear c2b1
           try clear p2
           try clear c7
           try clear c12
           try clear c18
           try clear c23
           try clear c23b0
           try clear c25
           try clear p2
           obtain ⟨x7_4, x8_4, rfl, rfl, HA, HK4, HO_3, HO_4, HB⟩ := hrel
           cases gk with
           | zero => exact absurd HA.out (by simp [laws_FnTraces.l1])
           | succ k4 =>
            have H := HA.out
            clear HA
            simp only [laws_FnTraces.l1] at H
            have HC26 := Aside0.mk H
            clear H
            go_upto_region 13 with (fail)
            repeat (go_quiet (fail); go_upto_region 13 with (fail))
            go_cut [52] (fun v52 wc => ∃ (kq : Nat) (x52_25 : Bool), v52 = .bool x52_25 ∧ Aside0 (laws_FnTraces.j4 kq t296 t299 x6_2 x7_4 x8_4 x52_25 = some r) ∧ Aside0 (kq ≤ k4) ∧ Aside0 (Kd.R k40 40 wc w.heap.size (fun _ => True) (.slice Ao8 t296.length co8) t296) ∧ Aside0 (Kd.R (Kd.int .i64) 3 wc w.heap.size (fun _ => True) v300 t299) ∧ Aside0 (Below w.heap.size w wc))
            case first =>
             have H := HC26.out
             clear HC26
             by_cases c27 : x8_4 < x6_2
             ·rw [if_pos c27] at H
              have c27b0 : decide (x8_4 < x6_2) = true := decide_eq_true c27
              clear c27
              (first | rw [c27b0] | (simp only [i64_w, i32_w]; rw [c27b0]) | skip)
              by_cases c28 : 0 ≤ x6_2
              ·rw [if_pos c28] at H
               have c28b0 : decide (0 ≤ x6_2) = true := decide_eq_true c28
               clear c28
               by_cases c29 : x6_2 < (t296.length : Int)
               ·rw [if_pos c29] at H
                have c29b0 : decide (x6_2 < (t296.length : Int)) = true := decide_eq_true c29
                clear c29
                have H' := Aside0.mk H
                clear H
                have p308 : 0 ≤ (x6_2 : Int) := of_decide_eq_true pA
                have q308 : x6_2 < (t296.length : Int) := of_decide_eq_true pA
                obtain ⟨ad308, e308, hx308_0, hx308_1, hx308_2⟩ := at_T40 (Kd.R_reads' HO_3.out).2.2 x6_2 p308 q308
                cases e308
                replace p308 := eq_true p308
                replace q308 := eq_true q308
                go_wp2
                repeat (go_quiet (fail); try go_wp2)
                go_meet
                case rel => exact ⟨_, (!((rd_T40 t296 x6_2).f2)), pF, H', ⟨by have := HJ5.out; have := HK2.out; have := HJ21.out; have := HK4.out; first | omega | exact Nat.le_refl _⟩, ⟨pR HO_3⟩, ⟨pR HO_4⟩, ⟨pB⟩⟩
               ·rw [if_neg c29] at H
                exact absurd H (by simp)
              ·rw [if_neg c28] at H
               exact absurd H (by simp)
             ·rw [if_neg c27] at H
              have c27b0 : decide (x8_4 < x6_2) = false := decide_eq_false c27
              clear c27
              (first | rw [c27b0] | (simp only [i64_w, i32_w]; rw [c27b0]) | skip)
              have H' := Aside0.mk H
              clear H
              go_wp2
              repeat (go_quiet (fail); try go_wp2)
              go_meet
              case rel => exact ⟨_, (false), pF, H', ⟨by have := HJ5.out; have := HK2.out; have := HJ21.out; have := HK4.out; first | omega | exact Nat.le_refl _⟩, ⟨pR HO_3⟩, ⟨pR HO_4⟩, ⟨pB⟩⟩
            case rest =>
             clear HC26
             try clear c1
             try clear c2
             try clear c2b0
             try clear c2b1
             try clear p2
             try clear p3
             try clear q3
             try clear hx3
             try clear c7
             try clear c12
             try clear c18
             try clear c23
             try clear c23b0
             try clear c25
             try clear c27
             try clear c27b0
             try clear c28
             try clear c28b0
             try clear c29
             try clear c29b0
             try clear hx308_0
             try clear hx308_1
             try clear hx308_2
             try clear p2
             try clear p308
             try clear q308
             obtain ⟨kq, x52_25, rfl, HA, HJ25, HO_3, HO_4, HB⟩ := hcut
             cases kq with
             | zero => exact absurd HA.out (by simp [laws_FnTraces.j4])
             | succ kj25 =>
              have H := HA.out
              clear HA
              simp only [laws_FnTraces.j4] at H
              by_cases c30 : x52_25 = true
              ·subst c30
               have H1 : (if 0 ≤ x8_4 then (if x8_4 < (t296.length : Int) then (if 0 ≤ x6_2 then (if x6_2 < (t296.length : Int) then (if ((rd_T40 t296 x8_4).f0) = ((rd_T40 t296 x6_2).f0) then (if (rd_T40 t296 x8_4).f2 = true then ((impl_AllergensJoin.f 0 ((rd_T40 t296 x8_4).f1)).bind fun t314 => (laws_FnTraces.l1 kj25 t296 t299 x6_2 t314 (wrap64 (x8_4 + 1)))) else ((impl_AllergensJoin.f x7_4 ((rd_T40 t296 x8_4).f1)).bind fun t316 => (laws_FnTraces.l1 kj25 t296 t299 x6_2 t316 (wrap64 (x8_4 + 1))))) else (laws_FnTraces.l1 kj25 t296 t299 x6_2 x7_4 (wrap64 (x8_4 + 1)))) else (none)) else (none)) else (none)) else (none)) = some r := by rw [if_pos rfl] at H; exact H
               clear H
               have H := H1
               clear H1
               by_cases c31 : 0 ≤ x8_4
               ·rw [if_pos c31] at H
                have c31b0 : decide (0 ≤ x8_4) = true := decide_eq_true c31
                clear c31
                by_cases c32 : x8_4 < (t296.length : Int)
                ·rw [if_pos c32] at H
                 have c32b0 : decide (x8_4 < (t296.length : Int)) = true := decide_eq_true c32
                 clear c32
                 by_cases c33 : 0 ≤ x6_2
                 ·rw [if_pos c33] at H
                  have c33b0 : decide (0 ≤ x6_2) = true := decide_eq_true c33
                  clear c33
                  by_cases c34 : x6_2 < (t296.length : Int)
                  ·rw [if_pos c34] at H
                   have c34b0 : decide (x6_2 < (t296.length : Int)) = true := decide_eq_true c34
                   clear c34
                   by_cases c35 : ((rd_T40 t296 x8_4).f0) = ((rd_T40 t296 x6_2).f0)
                   ·rw [if_pos c35] at H
                    have c35b0 : (((rd_T40 t296 x8_4).f0) == ((rd_T40 t296 x6_2).f0)) = true := beq_iff_eq.mpr c35
                    have c35b1 : (((rd_T40 t296 x8_4).f0) != ((rd_T40 t296 x6_2).f0)) = false := bne_eq_false_iff_eq.mpr c35
                    clear c35
                    obtain ⟨bq36, hbq36⟩ : ∃ b_ : Bool, b_ = ((rd_T40 t296 x8_4).f2) := ⟨_, rfl⟩
                    replace H : (if bq36 = true then ((impl_AllergensJoin.f 0 ((rd_T40 t296 x8_4).f1)).bind fun t314 => (laws_FnTraces.l1 kj25 t296 t299 x6_2 t314 (wrap64 (x8_4 + 1)))) else ((impl_AllergensJoin.f x7_4 ((rd_T40 t296 x8_4).f1)).bind fun t316 => (laws_FnTraces.l1 kj25 t296 t299 x6_2 t316 (wrap64 (x8_4 + 1))))) = some r := by rw [← hbq36] at H; exact H
                    have Nbq36 := Aside0.mk hbq36
                    clear hbq36
                    by_cases c37 : bq36 = true
                    ·subst c37
                     have H1 : ((impl_AllergensJoin.f 0 ((rd_T40 t296 x8_4).f1)).bind fun t314 => (laws_FnTraces.l1 kj25 t296 t299 x6_2 t314 (wrap64 (x8_4 + 1)))) = some r := by rw [if_pos rfl] at H; exact H
                     clear H
                     have H := H1
                     clear H1
                     replace H := Option.bind_eq_some_iff.mp H
                     obtain ⟨t314, A380, H⟩ := H
                     replace H : (laws_FnTraces.l1 kj25 t296 t299 x6_2 t314 (wrap64 (x8_4 + 1))) = some r := H
                     have A38 := Aside0.mk A380
                     clear A380
                     have H' := Aside0.mk H
                     clear H
                     have p310 : 0 ≤ (x8_4 : Int) := of_decide_eq_true pA
                     have q310 : x8_4 < (t296.length : Int) := of_decide_eq_true pA
                     obtain ⟨ad310, e310, hx310_0, hx310_1, hx310_2⟩ := at_T40 (Kd.R_reads' HO_3.out).2.2 x8_4 p310 q310
                     (try rw [← Nbq36.out] at hx310_2)
                     cases e310
                     replace p310 := eq_true p310
                     replace q310 := eq_true q310
                     have p311 : 0 ≤ (x6_2 : Int) := of_decide_eq_true pA
                     have q311 : x6_2 < (t296.length : Int) := of_decide_eq_true pA
                     obtain ⟨ad311, e311, hx311_0, hx311_1, hx311_2⟩ := at_T40 (Kd.R_reads' HO_3.out).2.2 x6_2 p311 q311
                     (try rw [← Nbq36.out] at hx311_2)
                     obtain rfl : ad310 = ad311 := (by injection e311)
                     replace p311 := eq_true p311
                     replace q311 := eq_true q311
                     have p312 : 0 ≤ (x8_4 : Int) := of_decide_eq_true pA
                     have q312 : x8_4 < (t296.length : Int) := of_decide_eq_true pA
                     obtain ⟨ad312, e312, hx312_0, hx312_1, hx312_2⟩ := at_T40 (Kd.R_reads' HO_3.out).2.2 x8_4 p312 q312
                     (try rw [← Nbq36.out] at hx312_2)
                     obtain rfl : ad310 = ad312 := (by injection e312)
                     replace p312 := eq_true p312
                     replace q312 := eq_true q312
                     have p313 : 0 ≤ (x8_4 : Int) := of_decide_eq_true pA
                     have q313 : x8_4 < (t296.length : Int) := of_decide_eq_true pA
                     obtain ⟨ad313, e313, hx313_0, hx313_1, hx313_2⟩ := at_T40 (Kd.R_reads' HO_3.out).2.2 x8_4 p313 q313
                     (try rw [← Nbq36.out] at hx313_2)
                     obtain rfl : ad310 = ad313 := (by injection e313)
                     replace p313 := eq_true p313
                     replace q313 := eq_true q313
                     go_wp2_with (first | (go_at_call 26; (with_reducible refine (impl_AllergensJoin.calls 0 ((rd_T40 t296 x8_4).f1) t314 _ A38.out).mono ?_); rintro e w' ⟨rfl, ⟨nd, rfl⟩⟩; (try first | exact ⟨rfl, _, World.drewN_drewN _ _ _⟩ | exact ⟨rfl, _, Eq.trans (World.drewN_drewN _ _ _) (congrArg (World.drewN _) (Nat.add_assoc _ _ _))⟩)))
                     repeat (go_quiet (first | (go_at_call 26; (with_reducible refine (impl_AllergensJoin.calls 0 ((rd_T40 t296 x8_4).f1) t314 _ A38.out).mono ?_); rintro e w' ⟨rfl, ⟨nd, rfl⟩⟩; (try first | exact ⟨rfl, _, World.drewN_drewN _ _ _⟩ | exact ⟨rfl, _, Eq.trans (World.drewN_drewN _ _ _) (congrArg (World.drewN _) (Nat.add_assoc _ _ _))⟩))); try go_wp2_with (first | (go_at_call 26; (with_reducible refine (impl_AllergensJoin.calls 0 ((rd_T40 t296 x8_4).f1) t314 _ A38.out).mono ?_); rintro e w' ⟨rfl, ⟨nd, rfl⟩⟩; (try first | exact ⟨rfl, _, World.drewN_drewN _ _ _⟩ | exact ⟨rfl, _, Eq.trans (World.drewN_drewN _ _ _) (congrArg (World.drewN _) (Nat.add_assoc _ _ _))⟩))))
                     go_roundg kj25
                     case measure => have := HJ5.out; have := HK2.out; have := HJ21.out; have := HK4.out; have := HJ25.out; omega
                     case rel => exact ⟨(t314), (wrap64 (x8_4 + 1)), pF, pF, H', ⟨by have := HJ5.out; have := HK2.out; have := HJ21.out; have := HK4.out; have := HJ25.out; omega⟩, ⟨pR HO_3⟩, ⟨pR HO_4⟩, ⟨pB⟩⟩
                    ·replace c37 := Bool.eq_false_iff.mpr c37
                     subst c37
                     have H1 : ((impl_AllergensJoin.f x7_4 ((rd_T40 t296 x8_4).f1)).bind fun t316 => (laws_FnTraces.l1 kj25 t296 t299 x6_2 t316 (wrap64 (x8_4 + 1)))) = some r := by rw [if_neg (show ¬ (false = true) by decide)] at H; exact H
                     clear H
                     have H := H1
                     clear H1
                     replace H := Option.bind_eq_some_iff.mp H
                     obtain ⟨t316, A390, H⟩ := H
                     replace H : (laws_FnTraces.l1 kj25 t296 t299 x6_2 t316 (wrap64 (x8_4 + 1))) = some r := H
                     have A39 := Aside0.mk A390
                     clear A390
                     have H' := Aside0.mk H
                     clear H
                     have p310 : 0 ≤ (x8_4 : Int) := of_decide_eq_true pA
                     have q310 : x8_4 < (t296.length : Int) := of_decide_eq_true pA
                     obtain ⟨ad310, e310, hx310_0, hx310_1, hx310_2⟩ := at_T40 (Kd.R_reads' HO_3.out).2.2 x8_4 p310 q310
                     (try rw [← Nbq36.out] at hx310_2)
                     cases e310
                     replace p310 := eq_true p310
                     replace q310 := eq_true q310
                     have p311 : 0 ≤ (x6_2 : Int) := of_decide_eq_true pA
                     have q311 : x6_2 < (t296.length : Int) := of_decide_eq_true pA
                     obtain ⟨ad311, e311, hx311_0, hx311_1, hx311_2⟩ := at_T40 (Kd.R_reads' HO_3.out).2.2 x6_2 p311 q311
                     (try rw [← Nbq36.out] at hx311_2)
                     obtain rfl : ad310 = ad311 := (by injection e311)
                     replace p311 := eq_true p311
                     replace q311 := eq_true q311
                     have p312 : 0 ≤ (x8_4 : Int) := of_decide_eq_true pA
                     have q312 : x8_4 < (t296.length : Int) := of_decide_eq_true pA
                     obtain ⟨ad312, e312, hx312_0, hx312_1, hx312_2⟩ := at_T40 (Kd.R_reads' HO_3.out).2.2 x8_4 p312 q312
                     (try rw [← Nbq36.out] at hx312_2)
                     obtain rfl : ad310 = ad312 := (by injection e312)
                     replace p312 := eq_true p312
                     replace q312 := eq_true q312
                     have p315 : 0 ≤ (x8_4 : Int) := of_decide_eq_true pA
                     have q315 : x8_4 < (t296.length : Int) := of_decide_eq_true pA
                     obtain ⟨ad315, e315, hx315_0, hx315_1, hx315_2⟩ := at_T40 (Kd.R_reads' HO_3.out).2.2 x8_4 p315 q315
                     (try rw [← Nbq36.out] at hx315_2)
                     obtain rfl : ad310 = ad315 := (by injection e315)
                     replace p315 := eq_true p315
                     replace q315 := eq_true q315
                     go_wp2_with (first | (go_at_call 26; (with_reducible refine (impl_AllergensJoin.calls x7_4 ((rd_T40 t296 x8_4).f1) t316 _ A39.out).mono ?_); rintro e w' ⟨rfl, ⟨nd, rfl⟩⟩; (try first | exact ⟨rfl, _, World.drewN_drewN _ _ _⟩ | exact ⟨rfl, _, Eq.trans (World.drewN_drewN _ _ _) (congrArg (World.drewN _) (Nat.add_assoc _ _ _))⟩)))
                     repeat (go_quiet (first | (go_at_call 26; (with_reducible refine (impl_AllergensJoin.calls x7_4 ((rd_T40 t296 x8_4).f1) t316 _ A39.out).mono ?_); rintro e w' ⟨rfl, ⟨nd, rfl⟩⟩; (try first | exact ⟨rfl, _, World.drewN_drewN _ _ _⟩ | exact ⟨rfl, _, Eq.trans (World.drewN_drewN _ _ _) (congrArg (World.drewN _) (Nat.add_assoc _ _ _))⟩))); try go_wp2_with (first | (go_at_call 26; (with_reducible refine (impl_AllergensJoin.calls x7_4 ((rd_T40 t296 x8_4).f1) t316 _ A39.out).mono ?_); rintro e w' ⟨rfl, ⟨nd, rfl⟩⟩; (try first | exact ⟨rfl, _, World.drewN_drewN _ _ _⟩ | exact ⟨rfl, _, Eq.trans (World.drewN_drewN _ _ _) (congrArg (World.drewN _) (Nat.add_assoc _ _ _))⟩))))
                     go_roundg kj25
                     case measure => have := HJ5.out; have := HK2.out; have := HJ21.out; have := HK4.out; have := HJ25.out; omega
                     case rel => exact ⟨(t316), (wrap64 (x8_4 + 1)), pF, pF, H', ⟨by have := HJ5.out; have := HK2.out; have := HJ21.out; have := HK4.out; have := HJ25.out; omega⟩, ⟨pR HO_3⟩, ⟨pR HO_4⟩, ⟨pB⟩⟩
                   ·rw [if_neg c35] at H
                    have c35b0 : (((rd_T40 t296 x8_4).f0) == ((rd_T40 t296 x6_2).f0)) = false := beq_eq_false_iff_ne.mpr c35
                    have c35b1 : (((rd_T40 t296 x8_4).f0) != ((rd_T40 t296 x6_2).f0)) = true := bne_iff_ne.mpr c35
                    have H' := Aside0.mk H
                    clear H
                    have p310 : 0 ≤ (x8_4 : Int) := of_decide_eq_true pA
                    have q310 : x8_4 < (t296.length : Int) := of_decide_eq_true pA
                    obtain ⟨ad310, e310, hx310_0, hx310_1, hx310_2⟩ := at_T40 (Kd.R_reads' HO_3.out).2.2 x8_4 p310 q310
                    cases e310
                    replace p310 := eq_true p310
                    replace q310 := eq_true q310
                    have p311 : 0 ≤ (x6_2 : Int) := of_decide_eq_true pA
                    have q311 : x6_2 < (t296.length : Int) := of_decide_eq_true pA
                    obtain ⟨ad311, e311, hx311_0, hx311_1, hx311_2⟩ := at_T40 (Kd.R_reads' HO_3.out).2.2 x6_2 p311 q311
                    obtain rfl : ad310 = ad311 := (by injection e311)
                    replace p311 := eq_true p311
                    replace q311 := eq_true q311
                    go_wp2
                    repeat (go_quiet (fail); try go_wp2)
                    go_roundg kj25
                    case measure => have := HJ5.out; have := HK2.out; have := HJ21.out; have := HK4.out; have := HJ25.out; omega
                    case rel => exact ⟨(x7_4), (wrap64 (x8_4 + 1)), pF, pF, H', ⟨by have := HJ5.out; have := HK2.out; have := HJ21.out; have := HK4.out; have := HJ25.out; omega⟩, ⟨pR HO_3⟩, ⟨pR HO_4⟩, ⟨pB⟩⟩
                  ·rw [if_neg c34] at H
                   exact absurd H (by simp)
                 ·rw [if_neg c33] at H
                  exact absurd H (by simp)
                ·rw [if_neg c32] at H
                 exact absurd H (by simp)
               ·rw [if_neg c31] at H
                exact absurd H (by simp)
              ·replace c30 := Bool.eq_false_iff.mpr c30
               subst c30
               have H1 : (if 0 ≤ x6_2 then (if x6_2 < (t299.length : Int) then (if (rd t299 x6_2) = x7_4 then (laws_FnTraces.l0 kj25 t296 t299 (wrap64 (x6_2 + 1))) else (some false)) else (none)) else (none)) = some r := by rw [if_neg (show ¬ (false = true) by decide)] at H; exact H
               clear H
               have H := H1
               clear H1
               by_cases c40 : 0 ≤ x6_2
               ·rw [if_pos c40] at H
                have c40b0 : decide (0 ≤ x6_2) = true := decide_eq_true c40
                clear c40
                by_cases c41 : x6_2 < (t299.length : Int)
                ·rw [if_pos c41] at H
                 have c41b0 : decide (x6_2 < (t299.length : Int)) = true := decide_eq_true c41
                 clear c41
                 by_cases c42 : (rd t299 x6_2) = x7_4
                 ·rw [if_pos c42] at H
                  have c42b0 : ((rd t299 x6_2) == x7_4) = true := beq_iff_eq.mpr c42
                  have c42b1 : ((rd t299 x6_2) != x7_4) = false := bne_eq_false_iff_eq.mpr c42
                  clear c42
                  have H' := Aside0.mk H
                  clear H
                  obtain ⟨Ao43, co43, eo43⟩ := Kd.R_slice HO_4.out
                  subst eo43
                  have p309 : 0 ≤ (x6_2 : Int) := of_decide_eq_true pA
                  have q309 : x6_2 < (t299.length : Int) := of_decide_eq_true pA
                  obtain ⟨ad309, e309, hx309_0⟩ := Kd.at_int (Kd.R_reads' HO_4.out).2.2 x6_2 p309 q309
                  cases e309
                  replace p309 := eq_true p309
                  replace q309 := eq_true q309
                  go_wp2
                  repeat (go_quiet (fail); try go_wp2)
                  go_roundg kj25
                  case measure => have := HJ5.out; have := HK2.out; have := HJ21.out; have := HK4.out; have := HJ25.out; omega
                  case rel => exact ⟨(wrap64 (x6_2 + 1)), pF, H', ⟨by have := HJ5.out; have := HK2.out; have := HJ21.out; have := HK4.out; have := HJ25.out; omega⟩, ⟨pR HO_3⟩, ⟨pR HO_4⟩, ⟨pB⟩⟩
                 ·rw [if_neg c42] at H
                  have c42b0 : ((rd t299 x6_2) == x7_4) = false := beq_eq_false_iff_ne.mpr c42
                  have c42b1 : ((rd t299 x6_2) != x7_4) = true := bne_iff_ne.mpr c42
                  obtain rfl := Option.some.inj H
                  obtain ⟨Ao44, co44, eo44⟩ := Kd.R_slice HO_4.out
                  subst eo44
                  have p309 : 0 ≤ (x6_2 : Int) := of_decide_eq_true pA
                  have q309 : x6_2 < (t299.length : Int) := of_decide_eq_true pA
                  obtain ⟨ad309, e309, hx309_0⟩ := Kd.at_int (Kd.R_reads' HO_4.out).2.2 x6_2 p309 q309
                  cases e309
                  replace p309 := eq_true p309
                  replace q309 := eq_true q309
                  go_wp2
                  repeat (go_quiet (fail); try go_wp2)
                  go_ret
                  exact ⟨pE, pB⟩
                ·rw [if_neg c41] at H
                 exact absurd H (by simp)
               ·rw [if_neg c40] at H
                exact absurd H (by simp)
         ·replace c25 := Bool.eq_false_iff.mpr c25
          subst c25
          have H1 : (some ((t299.length : Int) == (t296.length : Int))) = some r := by rw [if_neg (show ¬ (false = true) by decide)] at H; exact H
          clear H
          have H := H1
          clear H1
          obtain rfl := Option.some.inj H
          obtain ⟨Ao45, co45, eo45⟩ := Kd.R_slice HO_4.out
          subst eo45
          go_wp2
          repeat (go_quiet (fail); try go_wp2)
          go_ret
          exact ⟨pE, pB⟩

/-- THE ONE PURE STATEMENT of laws_FnTraces: yours. -/
def laws_FnTraces.Pure : Prop := ∀ (l0 : List Int), l0.length ≤ maxLen → l0.length * 1 ≤ 140737488351232 → (∀ x ∈ l0, (Lit.int .u8 x).wf = true) → ∃ k, laws_FnTraces.f k l0 = some true
theorem laws_FnTraces.walk (P : laws_FnTraces.Pure) (a0 : Option Addr) (len0 cap0 : Nat) (z0 : List Int) (w : World) (w0 : (a0 = none ∧ len0 = 0 ∧ cap0 = 0 ∧ z0 = []) ∨ ∃ x, a0 = some x ∧ len0 ≤ cap0 ∧ cap0 ≤ maxLen ∧ z0.length = cap0 ∧ (∀ i, i < z0.length → w.cell? (x.add i) = some (.int .u8 (z0.getD i 0))) ∧ ∀ n ∈ z0, (Lit.int .u8 n).wf = true) (y0 : len0 * 1 ≤ 140737488351232) :
  Calls Try.prog 7 #[.slice a0 len0 cap0] w fun e w' => e = .returned (.bool true) ∧ Below w.heap.size w w' := by
 obtain ⟨l0, rfl, hr0, hm0, hw0, hc0⟩ := ReadsInt.ofRowC w0
 obtain ⟨k, h⟩ := P l0 hm0 y0 hw0
 refine (laws_FnTraces.calls k _ _ l0 true w (Kd.C_of_reads (d := (0 : Int)) (h1 := fun _ => rfl) hr0) hc0 h).mono ?_
 rintro e w' ⟨rfl, hd⟩
 exact ⟨rfl, hd⟩

end Go.Proofs.Ytglpjchpgjaanaa.Q
