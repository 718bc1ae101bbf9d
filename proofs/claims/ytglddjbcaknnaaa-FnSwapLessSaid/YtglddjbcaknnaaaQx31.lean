-- Written by the kit's print.py for all laws of the seat at once (one namespace), by a program of this session.
import Derived.Test.YtglddjbcaknnaaaQx0
import Derived.Test.YtglddjbcaknnaaaQx19
import Derived.Test.YtglddjbcaknnaaaQx21
import Derived.Test.YtglddjbcaknnaaaQx22
import Derived.Test.YtglddjbcaknnaaaQx25
import Derived.Test.YtglddjbcaknnaaaQx26
import Derived.Test.YtglddjbcaknnaaaQx27
namespace Go.Proofs.Ytglddjbcaknnaaa.Q
open Go.RowKit Go.Proofs.YtglddjbcaknnaaaW.PrintWords Go.Proofs.YtglddjbcaknnaaaW.PrintLast Go.Proofs.YtglddjbcaknnaaaW.PrintMore
attribute [local go_sem] max2_int min2_int max_two min_two max_three min_three max_four min_four   -- for this text's walks alone
set_option linter.unusedVariables false
set_option linter.unusedSimpArgs false

/-! ### laws_FnSwapLess: function 13 -/
mutual
def laws_FnSwapLess.j0 : Nat → List (S41) → List (S62) → List Int → List Int → List Int → Bool → List Int → Bool → Bool → Option (Bool)
 | 0, _, _, _, _, _, _, _, _, _ => none
 | k + 1, x3, x4, x5, x6, x7, x8, x9, x10, x53 => if x53 = true then (if (x8 == x10) = true then ((laws_sameInts.f k x7 x9).bind fun t745 => (some t745)) else (some false)) else (laws_FnSwapLess.l0 k x3 x4 x5 x6 0)
def laws_FnSwapLess.l0 : Nat → List (S41) → List (S62) → List Int → List Int → Int → Option (Bool)
 | 0, _, _, _, _, _ => none
 | k + 1, x3, x4, x5, x6, x11 => if x11 < (x4.length : Int) then (if 0 ≤ x11 then ((laws_hasInt.f k x6 ((rd_T62 x4 x11).f0)).bind fun t747 => (if t747 = true then (if x11 < (x5.length : Int) then (laws_FnSwapLess.j2 k x3 x4 x5 x6 x11 (decide ((rd x5 x11) > 0))) else (none)) else (laws_FnSwapLess.j2 k x3 x4 x5 x6 x11 false))) else (none)) else (some true)
def laws_FnSwapLess.j2 : Nat → List (S41) → List (S62) → List Int → List Int → Int → Bool → Option (Bool)
 | 0, _, _, _, _, _, _ => none
 | k + 1, x3, x4, x5, x6, x11, x81 => if x81 = true then (if 0 ≤ x11 then (if x11 < (x4.length : Int) then ((impl_SwapsFor.f k x3 x4 ((rd_T62 x4 x11).f0)).bind fun t750 => (laws_FnSwapLess.l1 k x3 x4 x5 x6 x11 t750 false 0)) else (none)) else (none)) else (laws_FnSwapLess.l0 k x3 x4 x5 x6 (wrap64 (x11 + 1)))
def laws_FnSwapLess.l1 : Nat → List (S41) → List (S62) → List Int → List Int → Int → List Int → Bool → Int → Option (Bool)
 | 0, _, _, _, _, _, _, _, _ => none
 | k + 1, x3, x4, x5, x6, x11, x12, x13, x14 => if x14 < (x12.length : Int) then (if x13 = true then (laws_FnSwapLess.l1 k x3 x4 x5 x6 x11 x12 true (wrap64 (x14 + 1))) else (if 0 ≤ x14 then (if 0 ≤ (rd x12 x14) then (if (rd x12 x14) < (x3.length : Int) then ((laws_hasInt.f k x6 ((rd_T41 x3 (rd x12 x14)).f1)).bind fun t755 => (laws_FnSwapLess.l1 k x3 x4 x5 x6 x11 x12 (!t755) (wrap64 (x14 + 1)))) else (none)) else (none)) else (none))) else (if x13 = true then (laws_FnSwapLess.l0 k x3 x4 x5 x6 (wrap64 (x11 + 1))) else (some false))
end
def laws_FnSwapLess.f (k : Nat) (l0 : List Int) : Option (Bool) := if (l0.length : Int) > 1048576 then (some true) else ((spec_DrawSwapNeeds.f k l0).bind fun bt724 => ((impl_SwapNeeds.f k bt724.1 bt724.2.1 bt724.2.2.1 bt724.2.2.2).bind fun bt736 => ((spec_SwapNeeds.f k bt724.1 bt724.2.1 bt724.2.2.1 bt724.2.2.2).bind fun bt740 => (if (bt736.2 != bt740.2) = true then (laws_FnSwapLess.j0 k bt724.1 bt724.2.1 bt724.2.2.1 bt724.2.2.2 bt736.1 bt736.2 bt740.1 bt740.2 true) else ((laws_sameInts.f k bt736.1 bt740.1).bind fun t744 => (if t744 = true then (laws_FnSwapLess.j0 k bt724.1 bt724.2.1 bt724.2.2.1 bt724.2.2.2 bt736.1 bt736.2 bt740.1 bt740.2 (!bt736.2)) else (laws_FnSwapLess.j0 k bt724.1 bt724.2.1 bt724.2.2.1 bt724.2.2.2 bt736.1 bt736.2 bt740.1 bt740.2 true)))))))
theorem laws_FnSwapLess.mono_l : ∀ k, (∀ y0 y1 y2 y3 y4 y5 y6 y7 y8, LeO (laws_FnSwapLess.j0 k y0 y1 y2 y3 y4 y5 y6 y7 y8) (laws_FnSwapLess.j0 (k + 1) y0 y1 y2 y3 y4 y5 y6 y7 y8)) ∧ (∀ y0 y1 y2 y3 y4, LeO (laws_FnSwapLess.l0 k y0 y1 y2 y3 y4) (laws_FnSwapLess.l0 (k + 1) y0 y1 y2 y3 y4)) ∧ (∀ y0 y1 y2 y3 y4 y5, LeO (laws_FnSwapLess.j2 k y0 y1 y2 y3 y4 y5) (laws_FnSwapLess.j2 (k + 1) y0 y1 y2 y3 y4 y5)) ∧ (∀ y0 y1 y2 y3 y4 y5 y6 y7, LeO (laws_FnSwapLess.l1 k y0 y1 y2 y3 y4 y5 y6 y7) (laws_FnSwapLess.l1 (k + 1) y0 y1 y2 y3 y4 y5 y6 y7))
 | 0 => ⟨fun _ _ _ _ _ _ _ _ _ r h => by simp [laws_FnSwapLess.j0] at h, fun _ _ _ _ _ r h => by simp [laws_FnSwapLess.l0] at h, fun _ _ _ _ _ _ r h => by simp [laws_FnSwapLess.j2] at h, fun _ _ _ _ _ _ _ _ r h => by simp [laws_FnSwapLess.l1] at h⟩
 | k + 1 => by
  obtain ⟨ih0, ih1, ih2, ih3⟩ := laws_FnSwapLess.mono_l k
  refine ⟨?_, ?_, ?_, ?_⟩
  ·intro y0 y1 y2 y3 y4 y5 y6 y7 y8
   unfold laws_FnSwapLess.j0
   repeat' first
   | (with_reducible exact ih0 _ _ _ _ _ _ _ _ _)
   | (with_reducible exact ih1 _ _ _ _ _)
   | (with_reducible exact ih2 _ _ _ _ _ _)
   | (with_reducible exact ih3 _ _ _ _ _ _ _ _)
   | (with_reducible exact impl_SwapNeeds.mono _ _ _ _ _)
   | (with_reducible exact impl_SwapsFor.mono _ _ _ _)
   | (with_reducible exact laws_hasInt.mono _ _ _)
   | (with_reducible exact laws_sameInts.mono _ _ _)
   | (with_reducible exact spec_DrawSwapNeeds.mono _ _)
   | (with_reducible exact spec_SwapNeeds.mono _ _ _ _ _)
   | (with_reducible exact LeO.refl _)
   | (with_reducible exact LeO.none _)
   | (with_reducible refine LeO.ite ?_ ?_)
   | (with_reducible refine LeO.bind ?_ (fun _ => ?_))
   | exact ih0 _ _ _ _ _ _ _ _ _
   | exact ih1 _ _ _ _ _
   | exact ih2 _ _ _ _ _ _
   | exact ih3 _ _ _ _ _ _ _ _
   | exact impl_SwapNeeds.mono _ _ _ _ _
   | exact impl_SwapsFor.mono _ _ _ _
   | exact laws_hasInt.mono _ _ _
   | exact laws_sameInts.mono _ _ _
   | exact spec_DrawSwapNeeds.mono _ _
   | exact spec_SwapNeeds.mono _ _ _ _ _
   | exact LeO.none _
   | refine LeO.ite ?_ ?_
   | refine LeO.bind ?_ (fun _ => ?_)
  ·intro y0 y1 y2 y3 y4
   unfold laws_FnSwapLess.l0
   repeat' first
   | (with_reducible exact ih0 _ _ _ _ _ _ _ _ _)
   | (with_reducible exact ih1 _ _ _ _ _)
   | (with_reducible exact ih2 _ _ _ _ _ _)
   | (with_reducible exact ih3 _ _ _ _ _ _ _ _)
   | (with_reducible exact impl_SwapNeeds.mono _ _ _ _ _)
   | (with_reducible exact impl_SwapsFor.mono _ _ _ _)
   | (with_reducible exact laws_hasInt.mono _ _ _)
   | (with_reducible exact laws_sameInts.mono _ _ _)
   | (with_reducible exact spec_DrawSwapNeeds.mono _ _)
   | (with_reducible exact spec_SwapNeeds.mono _ _ _ _ _)
   | (with_reducible exact LeO.refl _)
   | (with_reducible exact LeO.none _)
   | (with_reducible refine LeO.ite ?_ ?_)
   | (with_reducible refine LeO.bind ?_ (fun _ => ?_))
   | exact ih0 _ _ _ _ _ _ _ _ _
   | exact ih1 _ _ _ _ _
   | exact ih2 _ _ _ _ _ _
   | exact ih3 _ _ _ _ _ _ _ _
   | exact impl_SwapNeeds.mono _ _ _ _ _
   | exact impl_SwapsFor.mono _ _ _ _
   | exact laws_hasInt.mono _ _ _
   | exact laws_sameInts.mono _ _ _
   | exact spec_DrawSwapNeeds.mono _ _
   | exact spec_SwapNeeds.mono _ _ _ _ _
   | exact LeO.none _
   | refine LeO.ite ?_ ?_
   | refine LeO.bind ?_ (fun _ => ?_)
  ·intro y0 y1 y2 y3 y4 y5
   unfold laws_FnSwapLess.j2
   repeat' first
   | (with_reducible exact ih0 _ _ _ _ _ _ _ _ _)
   | (with_reducible exact ih1 _ _ _ _ _)
   | (with_reducible exact ih2 _ _ _ _ _ _)
   | (with_reducible exact ih3 _ _ _ _ _ _ _ _)
   | (with_reducible exact impl_SwapNeeds.mono _ _ _ _ _)
   | (with_reducible exact impl_SwapsFor.mono _ _ _ _)
   | (with_reducible exact laws_hasInt.mono _ _ _)
   | (with_reducible exact laws_sameInts.mono _ _ _)
   | (with_reducible exact spec_DrawSwapNeeds.mono _ _)
   | (with_reducible exact spec_SwapNeeds.mono _ _ _ _ _)
   | (with_reducible exact LeO.refl _)
   | (with_reducible exact LeO.none _)
   | (with_reducible refine LeO.ite ?_ ?_)
   | (with_reducible refine LeO.bind ?_ (fun _ => ?_))
   | exact ih0 _ _ _ _ _ _ _ _ _
   | exact ih1 _ _ _ _ _
   | exact ih2 _ _ _ _ _ _
   | exact ih3 _ _ _ _ _ _ _ _
   | exact impl_SwapNeeds.mono _ _ _ _ _
   | exact impl_SwapsFor.mono _ _ _ _
   | exact laws_hasInt.mono _ _ _
   | exact laws_sameInts.mono _ _ _
   | exact spec_DrawSwapNeeds.mono _ _
   | exact spec_SwapNeeds.mono _ _ _ _ _
   | exact LeO.none _
   | refine LeO.ite ?_ ?_
   | refine LeO.bind ?_ (fun _ => ?_)
  ·intro y0 y1 y2 y3 y4 y5 y6 y7
   unfold laws_FnSwapLess.l1
   repeat' first
   | (with_reducible exact ih0 _ _ _ _ _ _ _ _ _)
   | (with_reducible exact ih1 _ _ _ _ _)
   | (with_reducible exact ih2 _ _ _ _ _ _)
   | (with_reducible exact ih3 _ _ _ _ _ _ _ _)
   | (with_reducible exact impl_SwapNeeds.mono _ _ _ _ _)
   | (with_reducible exact impl_SwapsFor.mono _ _ _ _)
   | (with_reducible exact laws_hasInt.mono _ _ _)
   | (with_reducible exact laws_sameInts.mono _ _ _)
   | (with_reducible exact spec_DrawSwapNeeds.mono _ _)
   | (with_reducible exact spec_SwapNeeds.mono _ _ _ _ _)
   | (with_reducible exact LeO.refl _)
   | (with_reducible exact LeO.none _)
   | (with_reducible refine LeO.ite ?_ ?_)
   | (with_reducible refine LeO.bind ?_ (fun _ => ?_))
   | exact ih0 _ _ _ _ _ _ _ _ _
   | exact ih1 _ _ _ _ _
   | exact ih2 _ _ _ _ _ _
   | exact ih3 _ _ _ _ _ _ _ _
   | exact impl_SwapNeeds.mono _ _ _ _ _
   | exact impl_SwapsFor.mono _ _ _ _
   | exact laws_hasInt.mono _ _ _
   | exact laws_sameInts.mono _ _ _
   | exact spec_DrawSwapNeeds.mono _ _
   | exact spec_SwapNeeds.mono _ _ _ _ _
   | exact LeO.none _
   | refine LeO.ite ?_ ?_
   | refine LeO.bind ?_ (fun _ => ?_)
theorem laws_FnSwapLess.mono : ∀ a0 k, LeO (laws_FnSwapLess.f k a0) (laws_FnSwapLess.f (k + 1) a0) := by
 intro a0 k
 obtain ⟨ih0, ih1, ih2, ih3⟩ := laws_FnSwapLess.mono_l k
 unfold laws_FnSwapLess.f
 repeat' first
   | (with_reducible exact ih0 _ _ _ _ _ _ _ _ _)
   | (with_reducible exact ih1 _ _ _ _ _)
   | (with_reducible exact ih2 _ _ _ _ _ _)
   | (with_reducible exact ih3 _ _ _ _ _ _ _ _)
   | (with_reducible exact impl_SwapNeeds.mono _ _ _ _ _)
   | (with_reducible exact impl_SwapsFor.mono _ _ _ _)
   | (with_reducible exact laws_hasInt.mono _ _ _)
   | (with_reducible exact laws_sameInts.mono _ _ _)
   | (with_reducible exact spec_DrawSwapNeeds.mono _ _)
   | (with_reducible exact spec_SwapNeeds.mono _ _ _ _ _)
   | (with_reducible exact LeO.refl _)
   | (with_reducible exact LeO.none _)
   | (with_reducible refine LeO.ite ?_ ?_)
   | (with_reducible refine LeO.bind ?_ (fun _ => ?_))
   | exact ih0 _ _ _ _ _ _ _ _ _
   | exact ih1 _ _ _ _ _
   | exact ih2 _ _ _ _ _ _
   | exact ih3 _ _ _ _ _ _ _ _
   | exact impl_SwapNeeds.mono _ _ _ _ _
   | exact impl_SwapsFor.mono _ _ _ _
   | exact laws_hasInt.mono _ _ _
   | exact laws_sameInts.mono _ _ _
   | exact spec_DrawSwapNeeds.mono _ _
   | exact spec_SwapNeeds.mono _ _ _ _ _
   | exact LeO.none _
   | refine LeO.ite ?_ ?_
   | refine LeO.bind ?_ (fun _ => ?_)
set_option maxHeartbeats 8000000 in
set_option maxRecDepth 100000 in
theorem laws_FnSwapLess.calls (k : Nat) (A0 : Option Addr) (c0 : Nat) (l0 : List Int) (r : Bool) (w : World) (hr0 : Kd.C (Kd.int .u8) w A0 l0.length l0) (hc0 : l0.length ≤ c0) (h : laws_FnSwapLess.f k l0 = some r) :
  Calls Try.prog 13 #[.slice A0 l0.length c0] w fun e w' => e = .returned (.bool r) ∧ Below w.heap.size w w' := by
 have HR0 := Aside0.mk hr0
 have HC0 := Aside0.mk hc0
 clear hr0 hc0
 have HB := Aside0.mk (Below.refl w.heap.size w)
 have H : (if (l0.length : Int) > 1048576 then (some true) else ((spec_DrawSwapNeeds.f k l0).bind fun bt724 => ((impl_SwapNeeds.f k bt724.1 bt724.2.1 bt724.2.2.1 bt724.2.2.2).bind fun bt736 => ((spec_SwapNeeds.f k bt724.1 bt724.2.1 bt724.2.2.1 bt724.2.2.2).bind fun bt740 => (if (bt736.2 != bt740.2) = true then (laws_FnSwapLess.j0 k bt724.1 bt724.2.1 bt724.2.2.1 bt724.2.2.2 bt736.1 bt736.2 bt740.1 bt740.2 true) else ((laws_sameInts.f k bt736.1 bt740.1).bind fun t744 => (if t744 = true then (laws_FnSwapLess.j0 k bt724.1 bt724.2.1 bt724.2.2.1 bt724.2.2.2 bt736.1 bt736.2 bt740.1 bt740.2 (!bt736.2)) else (laws_FnSwapLess.j0 k bt724.1 bt724.2.1 bt724.2.2.1 bt724.2.2.2 bt736.1 bt736.2 bt740.1 bt740.2 true)))))))) = some r := h
 clear h
 by_cases c2 : (l0.length : Int) > 1048576
 ·rw [if_pos c2] at H
  have c2b0 : decide (1048576 < (l0.length : Int)) = true := decide_eq_true c2
  have c2b1 : decide (1048576 < l0.length) = true := decide_eq_true (by omega)
  clear c2
  obtain rfl := Option.some.inj H
  go_enter Try.func13, Try.ntmps13
  go_wp2
  go_ret
  exact ⟨pE, pB⟩
 ·rw [if_neg c2] at H
  have c2b0 : decide (1048576 < (l0.length : Int)) = false := decide_eq_false c2
  have c2b1 : decide (1048576 < l0.length) = false := decide_eq_false (by omega)
  clear c2
  replace H := Option.bind_eq_some_iff.mp H
  obtain ⟨⟨t724, t725, t726, t727⟩, A30, H⟩ := H
  replace H : ((impl_SwapNeeds.f k t724 t725 t726 t727).bind fun bt736 => ((spec_SwapNeeds.f k t724 t725 t726 t727).bind fun bt740 => (if (bt736.2 != bt740.2) = true then (laws_FnSwapLess.j0 k t724 t725 t726 t727 bt736.1 bt736.2 bt740.1 bt740.2 true) else ((laws_sameInts.f k bt736.1 bt740.1).bind fun t744 => (if t744 = true then (laws_FnSwapLess.j0 k t724 t725 t726 t727 bt736.1 bt736.2 bt740.1 bt740.2 (!bt736.2)) else (laws_FnSwapLess.j0 k t724 t725 t726 t727 bt736.1 bt736.2 bt740.1 bt740.2 true)))))) = some r := H
  have A3 := Aside0.mk A30
  clear A30
  replace H := Option.bind_eq_some_iff.mp H
  obtain ⟨⟨t736, t737⟩, A40, H⟩ := H
  replace H : ((spec_SwapNeeds.f k t724 t725 t726 t727).bind fun bt740 => (if (t737 != bt740.2) = true then (laws_FnSwapLess.j0 k t724 t725 t726 t727 t736 t737 bt740.1 bt740.2 true) else ((laws_sameInts.f k t736 bt740.1).bind fun t744 => (if t744 = true then (laws_FnSwapLess.j0 k t724 t725 t726 t727 t736 t737 bt740.1 bt740.2 (!t737)) else (laws_FnSwapLess.j0 k t724 t725 t726 t727 t736 t737 bt740.1 bt740.2 true))))) = some r := H
  have A4 := Aside0.mk A40
  clear A40
  replace H := Option.bind_eq_some_iff.mp H
  obtain ⟨⟨t740, t741⟩, A50, H⟩ := H
  replace H : (if (t737 != t741) = true then (laws_FnSwapLess.j0 k t724 t725 t726 t727 t736 t737 t740 t741 true) else ((laws_sameInts.f k t736 t740).bind fun t744 => (if t744 = true then (laws_FnSwapLess.j0 k t724 t725 t726 t727 t736 t737 t740 t741 (!t737)) else (laws_FnSwapLess.j0 k t724 t725 t726 t727 t736 t737 t740 t741 true)))) = some r := H
  have A5 := Aside0.mk A50
  clear A50
  have HC6 := Aside0.mk H
  clear H
  go_enter Try.func13, Try.ntmps13
  go_upto_region 6 with (first | ((with_reducible refine gate_callee (f := 40) rfl ?_); refine goesL_ (some 20) rfl rfl Try.func40 pL rfl #[.slice A0 l0.length c0] rfl pM ?_; (with_reducible refine (spec_DrawSwapNeeds.calls k _ _ l0 t724 t725 t726 t727 _ ?side1 ?side2 A3.out).mono ?_); (case side1 => exact pS (HR0.out)); (case side2 => exact HC0.out); rintro e w7 ⟨v728, v730, v732, v734, rfl, ho0, ho1, ho2, ho3, hb⟩; refine ⟨_, rfl, ?_⟩; have n0_ := Aside0.mk (Kd.R_lower ho0 (below_size pB)); have n1_ := Aside0.mk (Kd.R_lower ho1 (below_size pB)); have n2_ := Aside0.mk (Kd.R_lower ho2 (below_size pB)); have n3_ := Aside0.mk (Kd.R_lower ho3 (below_size pB)); have n4_ := Aside0.mk (below_step pB hb); clear HB; have HO729 := n0_; have HO731 := n1_; have HO733 := n2_; have HO735 := n3_; have HB := n4_; clear n0_ n1_ n2_ n3_ n4_; (try clear hb); (try clear hb2); (try clear hk); (try clear hi); (try clear ho0); (try clear ho1); (try clear ho2); (try clear ho3); obtain ⟨Ao8, co8, eo8⟩ := Kd.R_slice HO729.out; subst eo8; obtain ⟨Ao9, co9, eo9⟩ := Kd.R_slice HO731.out; subst eo9; obtain ⟨Ao10, co10, eo10⟩ := Kd.R_slice HO733.out; subst eo10; obtain ⟨Ao11, co11, eo11⟩ := Kd.R_slice HO735.out; subst eo11) | ((with_reducible refine gate_callee (f := 41) rfl ?_); refine goesL_ (some 30) rfl rfl Try.func41 pL rfl #[.slice Ao8 t724.length co8, .slice Ao9 t725.length co9, .slice Ao10 t726.length co10, .slice Ao11 t727.length co11] rfl pM ?_; (with_reducible refine (impl_SwapNeeds.calls k _ _ t724 _ _ t725 _ _ t726 _ _ t727 t736 t737 _ ?side1 ?side2 ?side3 ?side4 ?side5 ?side6 ?side7 ?side8 A4.out).mono ?_); (case side1 => exact pS ((Kd.R_reads' HO729.out).2.2)); (case side2 => exact (Kd.R_reads' HO729.out).2.1); (case side3 => exact pS ((Kd.R_reads' HO731.out).2.2)); (case side4 => exact (Kd.R_reads' HO731.out).2.1); (case side5 => exact pS ((Kd.R_reads' HO733.out).2.2)); (case side6 => exact (Kd.R_reads' HO733.out).2.1); (case side7 => exact pS ((Kd.R_reads' HO735.out).2.2)); (case side8 => exact (Kd.R_reads' HO735.out).2.1); rintro e w12 ⟨v738, rfl, ho0, hb⟩; refine ⟨_, rfl, ?_⟩; have n0_ := Aside0.mk (Kd.R_below (pR HO729) hb); have n1_ := Aside0.mk (Kd.R_below (pR HO731) hb); have n2_ := Aside0.mk (Kd.R_elder' (pR HO733) (Kd.R_base ho0) hb); have n3_ := Aside0.mk (Kd.R_elder' (pR HO735) (Kd.R_base ho0) hb); have n4_ := Aside0.mk (Kd.R_lower (Kd.R_new' (Kd.R_new' ho0 (Kd.R_lt (pR HO733))) (Kd.R_lt (pR HO735))) (below_size pB)); have n5_ := Aside0.mk (below_step pB hb); clear HO729; clear HO731; clear HO733; clear HO735; clear HB; have HO729 := n0_; have HO731 := n1_; have HO733 := n2_; have HO735 := n3_; have HO739 := n4_; have HB := n5_; clear n0_ n1_ n2_ n3_ n4_ n5_; (try clear hb); (try clear hb2); (try clear hk); (try clear hi); (try clear ho0)) | ((with_reducible refine gate_callee (f := 42) rfl ?_); refine goesL_ (some 38) rfl rfl Try.func42 pL rfl #[.slice Ao8 t724.length co8, .slice Ao9 t725.length co9, .slice Ao10 t726.length co10, .slice Ao11 t727.length co11] rfl pM ?_; (with_reducible refine (spec_SwapNeeds.calls k _ _ t724 _ _ t725 _ _ t726 _ _ t727 t740 t741 _ ?side1 ?side2 ?side3 ?side4 ?side5 ?side6 ?side7 ?side8 A5.out).mono ?_); (case side1 => exact pS ((Kd.R_reads' HO729.out).2.2)); (case side2 => exact (Kd.R_reads' HO729.out).2.1); (case side3 => exact pS ((Kd.R_reads' HO731.out).2.2)); (case side4 => exact (Kd.R_reads' HO731.out).2.1); (case side5 => exact pS ((Kd.R_reads' HO733.out).2.2)); (case side6 => exact (Kd.R_reads' HO733.out).2.1); (case side7 => exact pS ((Kd.R_reads' HO735.out).2.2)); (case side8 => exact (Kd.R_reads' HO735.out).2.1); rintro e w13 ⟨v742, rfl, ho0, hb⟩; refine ⟨_, rfl, ?_⟩; have n0_ := Aside0.mk (Kd.R_below (pR HO729) hb); have n1_ := Aside0.mk (Kd.R_below (pR HO731) hb); have n2_ := Aside0.mk (Kd.R_elder' (pR HO733) (Kd.R_base ho0) hb); have n3_ := Aside0.mk (Kd.R_elder' (pR HO735) (Kd.R_base ho0) hb); have n4_ := Aside0.mk (Kd.R_elder' (pR HO739) (Kd.R_base ho0) hb); have n5_ := Aside0.mk (Kd.R_lower (Kd.R_new' (Kd.R_new' (Kd.R_new' ho0 (Kd.R_lt (pR HO733))) (Kd.R_lt (pR HO735))) (Kd.R_lt (pR HO739))) (below_size pB)); have n6_ := Aside0.mk (below_step pB hb); clear HO729; clear HO731; clear HO733; clear HO735; clear HO739; clear HB; have HO729 := n0_; have HO731 := n1_; have HO733 := n2_; have HO735 := n3_; have HO739 := n4_; have HO743 := n5_; have HB := n6_; clear n0_ n1_ n2_ n3_ n4_ n5_ n6_; (try clear hb); (try clear hb2); (try clear hk); (try clear hi); (try clear ho0)))
  (try simp only [Act.put, List.setIfInBounds_toArray, List.set_cons_zero, List.set_cons_succ])
  go_cut [53] (fun v53 wc => ∃ (kq : Nat) (x53_5 : Bool), v53 = .bool x53_5 ∧ Aside0 (laws_FnSwapLess.j0 kq t724 t725 t726 t727 t736 t737 t740 t741 x53_5 = some r) ∧ Aside0 (kq ≤ k) ∧ Aside0 (Kd.R k41 41 wc w.heap.size (fun _ => True) (.slice Ao8 t724.length co8) t724) ∧ Aside0 (Kd.R k62 62 wc w.heap.size (fun _ => True) (.slice Ao9 t725.length co9) t725) ∧ Aside0 (Kd.R (Kd.int .i64) 3 wc w.heap.size (fun k_ => some k_ ≠ ((.slice Ao11 t727.length co11) : Value).ownBlock ∧ some k_ ≠ (v738 : Value).ownBlock ∧ some k_ ≠ (v742 : Value).ownBlock) (.slice Ao10 t726.length co10) t726) ∧ Aside0 (Kd.R (Kd.int .i64) 3 wc w.heap.size (fun k_ => some k_ ≠ ((.slice Ao10 t726.length co10) : Value).ownBlock ∧ some k_ ≠ (v738 : Value).ownBlock ∧ some k_ ≠ (v742 : Value).ownBlock) (.slice Ao11 t727.length co11) t727) ∧ Aside0 (Kd.R (Kd.int .i64) 3 wc w.heap.size (fun k_ => some k_ ≠ ((.slice Ao10 t726.length co10) : Value).ownBlock ∧ some k_ ≠ ((.slice Ao11 t727.length co11) : Value).ownBlock ∧ some k_ ≠ (v742 : Value).ownBlock) v738 t736) ∧ Aside0 (Kd.R (Kd.int .i64) 3 wc w.heap.size (fun k_ => some k_ ≠ ((.slice Ao10 t726.length co10) : Value).ownBlock ∧ some k_ ≠ ((.slice Ao11 t727.length co11) : Value).ownBlock ∧ some k_ ≠ (v738 : Value).ownBlock) v742 t740) ∧ Aside0 (Below w.heap.size w wc))
  case first =>
   have H := HC6.out
   clear HC6
   by_cases c14 : (t737 != t741) = true
   ·rw [if_pos c14] at H
    have c14b0 : (t737 != t741) = true := c14
    (try (have c14b1 : decide (t737 = t741) = false := by simpa using c14))
    (try (have c14b2 : (t737 == t741) = false := by simpa using c14))
    (try (have c14b3 : ¬ (t737 = t741) := by simpa using c14))
    clear c14
    (first | rw [c14b0] | (simp only [i64_w, i32_w]; rw [c14b0]) | skip)
    have H' := Aside0.mk H
    clear H
    go_wp2
    go_meet
    case rel => exact ⟨_, (true), pF, H', ⟨by first | omega | exact Nat.le_refl _⟩, ⟨pR HO729⟩, ⟨pR HO731⟩, ⟨by (with_reducible repeat (first | apply Kd.R_alloc | apply Kd.R_drewN | apply Kd.R_drew)); exact Kd.R_mono HO733.out (fun _ hk => ⟨hk.1.1, ⟨hk.1.2, hk.2⟩⟩)⟩, ⟨by (with_reducible repeat (first | apply Kd.R_alloc | apply Kd.R_drewN | apply Kd.R_drew)); exact Kd.R_mono HO735.out (fun _ hk => ⟨hk.1.1, ⟨hk.1.2, hk.2⟩⟩)⟩, ⟨by (with_reducible repeat (first | apply Kd.R_alloc | apply Kd.R_drewN | apply Kd.R_drew)); exact Kd.R_mono HO739.out (fun _ hk => ⟨hk.1.1.2, ⟨hk.1.2, hk.2⟩⟩)⟩, ⟨by (with_reducible repeat (first | apply Kd.R_alloc | apply Kd.R_drewN | apply Kd.R_drew)); exact Kd.R_mono HO743.out (fun _ hk => ⟨hk.1.1.2, ⟨hk.1.2, hk.2⟩⟩)⟩, ⟨pB⟩⟩
   ·rw [if_neg c14] at H
    have c14b0 : (t737 != t741) = false := by simpa using c14
    (try (have c14b1 : decide (t737 = t741) = true := by simpa using c14))
    (try (have c14b2 : (t737 == t741) = true := by simpa using c14))
    clear c14
    (first | rw [c14b0] | (simp only [i64_w, i32_w]; rw [c14b0]) | skip)
    replace H := Option.bind_eq_some_iff.mp H
    obtain ⟨t744, A150, H⟩ := H
    replace H : (if t744 = true then (laws_FnSwapLess.j0 k t724 t725 t726 t727 t736 t737 t740 t741 (!t737)) else (laws_FnSwapLess.j0 k t724 t725 t726 t727 t736 t737 t740 t741 true)) = some r := H
    have A15 := Aside0.mk A150
    clear A150
    by_cases c16 : t744 = true
    ·subst c16
     have H1 : (laws_FnSwapLess.j0 k t724 t725 t726 t727 t736 t737 t740 t741 (!t737)) = some r := by rw [if_pos rfl] at H; exact H
     clear H
     have H := H1
     clear H1
     have H' := Aside0.mk H
     clear H
     obtain ⟨Ao17, co17, eo17⟩ := Kd.R_slice HO739.out
     subst eo17
     obtain ⟨Ao18, co18, eo18⟩ := Kd.R_slice HO743.out
     subst eo18
     go_wp2_with (first | (go_at_call 34; (with_reducible refine (laws_sameInts.calls k _ _ t736 _ _ t740 true _ ?side1 ?side2 ?side3 ?side4 A15.out).mono ?_); (case side1 => exact pS ((Kd.R_reads' HO739.out).2.2)); (case side2 => exact (Kd.R_reads' HO739.out).2.1); (case side3 => exact pS ((Kd.R_reads' HO743.out).2.2)); (case side4 => exact (Kd.R_reads' HO743.out).2.1); rintro e w' ⟨rfl, ⟨nd, rfl⟩⟩))
     go_meet
     case rel => exact ⟨_, (!t737), pF, H', ⟨by first | omega | exact Nat.le_refl _⟩, ⟨pR HO729⟩, ⟨pR HO731⟩, ⟨by (with_reducible repeat (first | apply Kd.R_alloc | apply Kd.R_drewN | apply Kd.R_drew)); exact Kd.R_mono HO733.out (fun _ hk => ⟨hk.1.1, ⟨hk.1.2, hk.2⟩⟩)⟩, ⟨by (with_reducible repeat (first | apply Kd.R_alloc | apply Kd.R_drewN | apply Kd.R_drew)); exact Kd.R_mono HO735.out (fun _ hk => ⟨hk.1.1, ⟨hk.1.2, hk.2⟩⟩)⟩, ⟨by (with_reducible repeat (first | apply Kd.R_alloc | apply Kd.R_drewN | apply Kd.R_drew)); exact Kd.R_mono HO739.out (fun _ hk => ⟨hk.1.1.2, ⟨hk.1.2, hk.2⟩⟩)⟩, ⟨by (with_reducible repeat (first | apply Kd.R_alloc | apply Kd.R_drewN | apply Kd.R_drew)); exact Kd.R_mono HO743.out (fun _ hk => ⟨hk.1.1.2, ⟨hk.1.2, hk.2⟩⟩)⟩, ⟨pB⟩⟩
    ·replace c16 := Bool.eq_false_iff.mpr c16
     subst c16
     have H1 : (laws_FnSwapLess.j0 k t724 t725 t726 t727 t736 t737 t740 t741 true) = some r := by rw [if_neg (show ¬ (false = true) by decide)] at H; exact H
     clear H
     have H := H1
     clear H1
     have H' := Aside0.mk H
     clear H
     obtain ⟨Ao19, co19, eo19⟩ := Kd.R_slice HO739.out
     subst eo19
     obtain ⟨Ao20, co20, eo20⟩ := Kd.R_slice HO743.out
     subst eo20
     go_wp2_with (first | (go_at_call 34; (with_reducible refine (laws_sameInts.calls k _ _ t736 _ _ t740 false _ ?side1 ?side2 ?side3 ?side4 A15.out).mono ?_); (case side1 => exact pS ((Kd.R_reads' HO739.out).2.2)); (case side2 => exact (Kd.R_reads' HO739.out).2.1); (case side3 => exact pS ((Kd.R_reads' HO743.out).2.2)); (case side4 => exact (Kd.R_reads' HO743.out).2.1); rintro e w' ⟨rfl, ⟨nd, rfl⟩⟩))
     go_meet
     case rel => exact ⟨_, (true), pF, H', ⟨by first | omega | exact Nat.le_refl _⟩, ⟨pR HO729⟩, ⟨pR HO731⟩, ⟨by (with_reducible repeat (first | apply Kd.R_alloc | apply Kd.R_drewN | apply Kd.R_drew)); exact Kd.R_mono HO733.out (fun _ hk => ⟨hk.1.1, ⟨hk.1.2, hk.2⟩⟩)⟩, ⟨by (with_reducible repeat (first | apply Kd.R_alloc | apply Kd.R_drewN | apply Kd.R_drew)); exact Kd.R_mono HO735.out (fun _ hk => ⟨hk.1.1, ⟨hk.1.2, hk.2⟩⟩)⟩, ⟨by (with_reducible repeat (first | apply Kd.R_alloc | apply Kd.R_drewN | apply Kd.R_drew)); exact Kd.R_mono HO739.out (fun _ hk => ⟨hk.1.1.2, ⟨hk.1.2, hk.2⟩⟩)⟩, ⟨by (with_reducible repeat (first | apply Kd.R_alloc | apply Kd.R_drewN | apply Kd.R_drew)); exact Kd.R_mono HO743.out (fun _ hk => ⟨hk.1.1.2, ⟨hk.1.2, hk.2⟩⟩)⟩, ⟨pB⟩⟩
  case rest =>
   clear HC6
   try clear c1
   try clear c2
   try clear c2b0
   try clear c2b1
   try clear p2
   try clear c4
   try clear c13
   try clear c14
   try clear c14b0
   try clear c14b1
   try clear c14b2
   try clear c16
   obtain ⟨kq, x53_5, rfl, HA, HJ5, HO_3, HO_4, HO_5, HO_6, HO_7, HO_9, HB⟩ := hcut
   cases kq with
   | zero => exact absurd HA.out (by simp [laws_FnSwapLess.j0])
   | succ kj5 =>
    have H := HA.out
    clear HA
    simp only [laws_FnSwapLess.j0] at H
    by_cases c21 : x53_5 = true
    ·subst c21
     have H1 : (if (t737 == t741) = true then ((laws_sameInts.f kj5 t736 t740).bind fun t745 => (some t745)) else (some false)) = some r := by rw [if_pos rfl] at H; exact H
     clear H
     have H := H1
     clear H1
     by_cases c22 : (t737 == t741) = true
     ·rw [if_pos c22] at H
      have c22b0 : (t737 == t741) = true := c22
      (try (have c22b1 : decide (t737 = t741) = true := by simpa using c22))
      (try (have c22b2 : (t737 == t741) = true := by simpa using c22))
      clear c22
      replace H := Option.bind_eq_some_iff.mp H
      obtain ⟨t745, A230, H⟩ := H
      replace H : (some t745) = some r := H
      have A23 := Aside0.mk A230
      clear A230
      obtain rfl := Option.some.inj H
      obtain ⟨Ao24, co24, eo24⟩ := Kd.R_slice HO_7.out
      subst eo24
      obtain ⟨Ao25, co25, eo25⟩ := Kd.R_slice HO_9.out
      subst eo25
      go_wp2_with (first | (go_at_call 34; (with_reducible refine (laws_sameInts.calls kj5 _ _ t736 _ _ t740 t745 _ ?side1 ?side2 ?side3 ?side4 A23.out).mono ?_); (case side1 => exact pS ((Kd.R_reads' HO_7.out).2.2)); (case side2 => exact (Kd.R_reads' HO_7.out).2.1); (case side3 => exact pS ((Kd.R_reads' HO_9.out).2.2)); (case side4 => exact (Kd.R_reads' HO_9.out).2.1); rintro e w' ⟨rfl, ⟨nd, rfl⟩⟩))
      go_ret
      exact ⟨pE, pB⟩
     ·rw [if_neg c22] at H
      have c22b0 : (t737 == t741) = false := by simpa using c22
      (try (have c22b1 : decide (t737 = t741) = false := by simpa using c22))
      (try (have c22b2 : (t737 == t741) = false := by simpa using c22))
      (try (have c22b3 : ¬ (t737 = t741) := by simpa using c22))
      clear c22
      obtain rfl := Option.some.inj H
      go_wp2
      go_ret
      exact ⟨pE, pB⟩
    ·replace c21 := Bool.eq_false_iff.mpr c21
     subst c21
     have H1 : (laws_FnSwapLess.l0 kj5 t724 t725 t726 t727 0) = some r := by rw [if_neg (show ¬ (false = true) by decide)] at H; exact H
     clear H
     have H := H1
     clear H1
     have H' := Aside0.mk H
     clear H
     go_wp2
     go_loopg [11] kj5 (fun kq v11 w' => ∃ (x11_2 : Int), v11 = .int .i64 x11_2 ∧ Aside0 (laws_FnSwapLess.l0 kq t724 t725 t726 t727 x11_2 = some r) ∧ Aside0 (kq ≤ kj5) ∧ Aside0 (Kd.R k41 41 w' w.heap.size (fun _ => True) (.slice Ao8 t724.length co8) t724) ∧ Aside0 (Kd.R k62 62 w' w.heap.size (fun _ => True) (.slice Ao9 t725.length co9) t725) ∧ Aside0 (Kd.R (Kd.int .i64) 3 w' w.heap.size (fun k_ => some k_ ≠ ((.slice Ao11 t727.length co11) : Value).ownBlock) (.slice Ao10 t726.length co10) t726) ∧ Aside0 (Kd.R (Kd.int .i64) 3 w' w.heap.size (fun k_ => some k_ ≠ ((.slice Ao10 t726.length co10) : Value).ownBlock) (.slice Ao11 t727.length co11) t727) ∧ Aside0 (Below w.heap.size w w'))
     case atStart => exact ⟨(0), pF, H', ⟨Nat.le_refl _⟩, ⟨pR HO_3⟩, ⟨pR HO_4⟩, ⟨by (with_reducible repeat (first | apply Kd.R_alloc | apply Kd.R_drewN | apply Kd.R_drew)); exact Kd.R_mono HO_5.out (fun _ hk => hk.1)⟩, ⟨by (with_reducible repeat (first | apply Kd.R_alloc | apply Kd.R_drewN | apply Kd.R_drew)); exact Kd.R_mono HO_6.out (fun _ hk => hk.1)⟩, ⟨pB⟩⟩
     case round =>
      clear H'
      try clear c1
      try clear c2
      try clear c2b0
      try clear c2b1
      try clear p2
      try clear c4
      try clear c13
      try clear c14
      try clear c14b0
      try clear c14b1
      try clear c14b2
      try clear c16
      try clear c21
      try clear c22
      try clear c22b0
      try clear c22b1
      try clear c22b2
      try clear p2
      obtain ⟨x11_2, rfl, HA, HK2, HO_3, HO_4, HO_5, HO_6, HB⟩ := hrel
      cases gk with
      | zero => exact absurd HA.out (by simp [laws_FnSwapLess.l0])
      | succ k2 =>
       have H := HA.out
       clear HA
       simp only [laws_FnSwapLess.l0] at H
       by_cases c26 : x11_2 < (t725.length : Int)
       ·rw [if_pos c26] at H
        have c26b0 : decide (x11_2 < (t725.length : Int)) = true := decide_eq_true c26
        clear c26
        have HC27 := Aside0.mk H
        clear H
        go_upto_region 11 with (fail)
        go_cut [81] (fun v81 wc => ∃ (kq : Nat) (x81_26 : Bool), v81 = .bool x81_26 ∧ Aside0 (laws_FnSwapLess.j2 kq t724 t725 t726 t727 x11_2 x81_26 = some r) ∧ Aside0 (kq ≤ k2) ∧ Aside0 (Kd.R k41 41 wc w.heap.size (fun _ => True) (.slice Ao8 t724.length co8) t724) ∧ Aside0 (Kd.R k62 62 wc w.heap.size (fun _ => True) (.slice Ao9 t725.length co9) t725) ∧ Aside0 (Kd.R (Kd.int .i64) 3 wc w.heap.size (fun k_ => some k_ ≠ ((.slice Ao11 t727.length co11) : Value).ownBlock) (.slice Ao10 t726.length co10) t726) ∧ Aside0 (Kd.R (Kd.int .i64) 3 wc w.heap.size (fun k_ => some k_ ≠ ((.slice Ao10 t726.length co10) : Value).ownBlock) (.slice Ao11 t727.length co11) t727) ∧ Aside0 (Below w.heap.size w wc))
        case first =>
         have H := HC27.out
         clear HC27
         by_cases c28 : 0 ≤ x11_2
         ·rw [if_pos c28] at H
          have c28b0 : decide (0 ≤ x11_2) = true := decide_eq_true c28
          clear c28
          (first | rw [c28b0] | (simp only [i64_w, i32_w]; rw [c28b0]) | skip)
          replace H := Option.bind_eq_some_iff.mp H
          obtain ⟨t747, A290, H⟩ := H
          replace H : (if t747 = true then (if x11_2 < (t726.length : Int) then (laws_FnSwapLess.j2 k2 t724 t725 t726 t727 x11_2 (decide ((rd t726 x11_2) > 0))) else (none)) else (laws_FnSwapLess.j2 k2 t724 t725 t726 t727 x11_2 false)) = some r := H
          have A29 := Aside0.mk A290
          clear A290
          by_cases c30 : t747 = true
          ·subst c30
           have H1 : (if x11_2 < (t726.length : Int) then (laws_FnSwapLess.j2 k2 t724 t725 t726 t727 x11_2 (decide ((rd t726 x11_2) > 0))) else (none)) = some r := by rw [if_pos rfl] at H; exact H
           clear H
           have H := H1
           clear H1
           by_cases c31 : x11_2 < (t726.length : Int)
           ·rw [if_pos c31] at H
            have c31b0 : decide (x11_2 < (t726.length : Int)) = true := decide_eq_true c31
            clear c31
            have H' := Aside0.mk H
            clear H
            have p746 : 0 ≤ (x11_2 : Int) := of_decide_eq_true pA
            have q746 : x11_2 < (t725.length : Int) := of_decide_eq_true pA
            obtain ⟨ad746, e746, hx746_0, hx746_1, hx746_2, hx746_3, hx746_4, hx746_5⟩ := at_T62 (Kd.R_reads' HO_4.out).2.2 x11_2 p746 q746
            cases e746
            replace p746 := eq_true p746
            replace q746 := eq_true q746
            go_wp2_with (first | ((with_reducible refine gate_callee (f := 35) rfl ?_); refine goesL_ (some 74) rfl rfl Try.func35 pL rfl #[.slice Ao11 t727.length co11, .int .i64 ((rd_T62 t725 x11_2).f0)] rfl pM ?_; (with_reducible refine (laws_hasInt.calls k2 _ _ t727 ((rd_T62 t725 x11_2).f0) true _ ?side1 ?side2 A29.out).mono ?_); (case side1 => exact pS ((Kd.R_reads' HO_6.out).2.2)); (case side2 => exact (Kd.R_reads' HO_6.out).2.1); rintro e w' ⟨rfl, ⟨nd, rfl⟩⟩; refine ⟨_, rfl, ?_⟩; have p748 : 0 ≤ (x11_2 : Int) := of_decide_eq_true pA; have q748 : x11_2 < (t726.length : Int) := of_decide_eq_true pA; obtain ⟨ad748, e748, hx748_0⟩ := Kd.at_int (Kd.R_reads' HO_5.out).2.2 x11_2 p748 q748; cases e748; replace p748 := eq_true p748; replace q748 := eq_true q748))
            go_meet
            case rel => exact ⟨_, (decide ((rd t726 x11_2) > 0)), pF, H', ⟨by have := HJ5.out; have := HK2.out; first | omega | exact Nat.le_refl _⟩, ⟨pR HO_3⟩, ⟨pR HO_4⟩, ⟨pR HO_5⟩, ⟨pR HO_6⟩, ⟨pB⟩⟩
           ·rw [if_neg c31] at H
            exact absurd H (by simp)
          ·replace c30 := Bool.eq_false_iff.mpr c30
           subst c30
           have H1 : (laws_FnSwapLess.j2 k2 t724 t725 t726 t727 x11_2 false) = some r := by rw [if_neg (show ¬ (false = true) by decide)] at H; exact H
           clear H
           have H := H1
           clear H1
           have H' := Aside0.mk H
           clear H
           have p746 : 0 ≤ (x11_2 : Int) := of_decide_eq_true pA
           have q746 : x11_2 < (t725.length : Int) := of_decide_eq_true pA
           obtain ⟨ad746, e746, hx746_0, hx746_1, hx746_2, hx746_3, hx746_4, hx746_5⟩ := at_T62 (Kd.R_reads' HO_4.out).2.2 x11_2 p746 q746
           cases e746
           replace p746 := eq_true p746
           replace q746 := eq_true q746
           go_wp2_with (first | ((with_reducible refine gate_callee (f := 35) rfl ?_); refine goesL_ (some 74) rfl rfl Try.func35 pL rfl #[.slice Ao11 t727.length co11, .int .i64 ((rd_T62 t725 x11_2).f0)] rfl pM ?_; (with_reducible refine (laws_hasInt.calls k2 _ _ t727 ((rd_T62 t725 x11_2).f0) false _ ?side1 ?side2 A29.out).mono ?_); (case side1 => exact pS ((Kd.R_reads' HO_6.out).2.2)); (case side2 => exact (Kd.R_reads' HO_6.out).2.1); rintro e w' ⟨rfl, ⟨nd, rfl⟩⟩; refine ⟨_, rfl, ?_⟩))
           go_meet
           case rel => exact ⟨_, (false), pF, H', ⟨by have := HJ5.out; have := HK2.out; first | omega | exact Nat.le_refl _⟩, ⟨pR HO_3⟩, ⟨pR HO_4⟩, ⟨pR HO_5⟩, ⟨pR HO_6⟩, ⟨pB⟩⟩
         ·rw [if_neg c28] at H
          exact absurd H (by simp)
        case rest =>
         clear HC27
         try clear c1
         try clear c2
         try clear c2b0
         try clear c2b1
         try clear p2
         try clear c3
         try clear c4
         try clear p7
         try clear q7
         try clear hx7
         try clear c13
         try clear c14
         try clear c14b0
         try clear c14b1
         try clear c14b2
         try clear c16
         try clear c21
         try clear c22
         try clear c22b0
         try clear c22b1
         try clear c22b2
         try clear c26
         try clear c26b0
         try clear c28
         try clear c28b0
         try clear c30
         try clear c31
         try clear c31b0
         try clear hx746_0
         try clear hx746_1
         try clear hx746_2
         try clear hx746_3
         try clear hx746_4
         try clear hx746_5
         try clear hx748_0
         try clear p2
         try clear p746
         try clear p748
         try clear q746
         try clear q748
         obtain ⟨kq, x81_26, rfl, HA, HJ26, HO_3, HO_4, HO_5, HO_6, HB⟩ := hcut
         cases kq with
         | zero => exact absurd HA.out (by simp [laws_FnSwapLess.j2])
         | succ kj26 =>
          have H := HA.out
          clear HA
          simp only [laws_FnSwapLess.j2] at H
          by_cases c32 : x81_26 = true
          ·subst c32
           have H1 : (if 0 ≤ x11_2 then (if x11_2 < (t725.length : Int) then ((impl_SwapsFor.f kj26 t724 t725 ((rd_T62 t725 x11_2).f0)).bind fun t750 => (laws_FnSwapLess.l1 kj26 t724 t725 t726 t727 x11_2 t750 false 0)) else (none)) else (none)) = some r := by rw [if_pos rfl] at H; exact H
           clear H
           have H := H1
           clear H1
           by_cases c33 : 0 ≤ x11_2
           ·rw [if_pos c33] at H
            have c33b0 : decide (0 ≤ x11_2) = true := decide_eq_true c33
            clear c33
            by_cases c34 : x11_2 < (t725.length : Int)
            ·rw [if_pos c34] at H
             have c34b0 : decide (x11_2 < (t725.length : Int)) = true := decide_eq_true c34
             clear c34
             replace H := Option.bind_eq_some_iff.mp H
             obtain ⟨t750, A350, H⟩ := H
             replace H : (laws_FnSwapLess.l1 kj26 t724 t725 t726 t727 x11_2 t750 false 0) = some r := H
             have A35 := Aside0.mk A350
             clear A350
             have H' := Aside0.mk H
             clear H
             have p749 : 0 ≤ (x11_2 : Int) := of_decide_eq_true pA
             have q749 : x11_2 < (t725.length : Int) := of_decide_eq_true pA
             obtain ⟨ad749, e749, hx749_0, hx749_1, hx749_2, hx749_3, hx749_4, hx749_5⟩ := at_T62 (Kd.R_reads' HO_4.out).2.2 x11_2 p749 q749
             cases e749
             replace p749 := eq_true p749
             replace q749 := eq_true q749
             go_wp2_with (first | ((with_reducible refine gate_callee (f := 32) rfl ?_); refine goesL_ (some 89) rfl rfl Try.func32 pL rfl #[.slice Ao8 t724.length co8, .slice (some ad749) t725.length co9, .int .i64 ((rd_T62 t725 x11_2).f0)] rfl pM ?_; (with_reducible refine (impl_SwapsFor.calls kj26 _ _ t724 _ _ t725 ((rd_T62 t725 x11_2).f0) t750 _ ?side1 ?side2 ?side3 ?side4 A35.out).mono ?_); (case side1 => exact pS ((Kd.R_reads' HO_3.out).2.2)); (case side2 => exact (Kd.R_reads' HO_3.out).2.1); (case side3 => exact pS ((Kd.R_reads' HO_4.out).2.2)); (case side4 => exact (Kd.R_reads' HO_4.out).2.1); rintro e w36 ⟨v751, rfl, ho0, hb⟩; refine ⟨_, rfl, ?_⟩; have n0_ := Aside0.mk (Kd.R_below (pR HO_3) hb); have n1_ := Aside0.mk (Kd.R_below (pR HO_4) hb); have n2_ := Aside0.mk (Kd.R_elder' (pR HO_5) (Kd.R_base ho0) hb); have n3_ := Aside0.mk (Kd.R_elder' (pR HO_6) (Kd.R_base ho0) hb); have n4_ := Aside0.mk (Kd.R_lower (Kd.R_new' (Kd.R_new' ho0 (Kd.R_lt (pR HO_5))) (Kd.R_lt (pR HO_6))) (below_size pB)); have n5_ := Aside0.mk (below_step pB hb); clear HO_3; clear HO_4; clear HO_5; clear HO_6; clear HB; have HO_3 := n0_; have HO_4 := n1_; have HO_5 := n2_; have HO_6 := n3_; have HO752 := n4_; have HB := n5_; clear n0_ n1_ n2_ n3_ n4_ n5_; (try clear hb); (try clear hb2); (try clear hk); (try clear hi); (try clear ho0)))
             go_loopg [13, 14] kj26 (fun kq v13 v14 w' => ∃ (x13_4 : Bool) (x14_4 : Int), v13 = .bool x13_4 ∧ v14 = .int .i64 x14_4 ∧ Aside0 (laws_FnSwapLess.l1 kq t724 t725 t726 t727 x11_2 t750 x13_4 x14_4 = some r) ∧ Aside0 (kq ≤ kj26) ∧ Aside0 (Kd.R k41 41 w' w.heap.size (fun _ => True) (.slice Ao8 t724.length co8) t724) ∧ Aside0 (Kd.R k62 62 w' w.heap.size (fun _ => True) (.slice (some ad749) t725.length co9) t725) ∧ Aside0 (Kd.R (Kd.int .i64) 3 w' w.heap.size (fun k_ => some k_ ≠ ((.slice Ao11 t727.length co11) : Value).ownBlock ∧ some k_ ≠ (v751 : Value).ownBlock) (.slice Ao10 t726.length co10) t726) ∧ Aside0 (Kd.R (Kd.int .i64) 3 w' w.heap.size (fun k_ => some k_ ≠ ((.slice Ao10 t726.length co10) : Value).ownBlock ∧ some k_ ≠ (v751 : Value).ownBlock) (.slice Ao11 t727.length co11) t727) ∧ Aside0 (Kd.R (Kd.int .i64) 3 w' w.heap.size (fun k_ => some k_ ≠ ((.slice Ao10 t726.length co10) : Value).ownBlock ∧ some k_ ≠ ((.slice Ao11 t727.length co11) : Value).ownBlock) v751 t750) ∧ Aside0 (Below w.heap.size w w'))
             case atStart => exact ⟨(false), (0), pF, pF, H', ⟨Nat.le_refl _⟩, ⟨pR HO_3⟩, ⟨pR HO_4⟩, ⟨pR HO_5⟩, ⟨pR HO_6⟩, ⟨by (with_reducible repeat (first | apply Kd.R_alloc | apply Kd.R_drewN | apply Kd.R_drew)); exact Kd.R_mono HO752.out (fun _ hk => ⟨hk.1.2, hk.2⟩)⟩, ⟨pB⟩⟩
             case round =>
              clear H'
              try clear c1
              try clear c2
              try clear c2b0
              try clear c2b1
              try clear p2
              try clear c3
              try clear c4
              try clear p7
              try clear q7
              try clear hx7
              try clear c13
              try clear c14
              try clear c14b0
              try clear c14b1
              try clear c14b2
              try clear c16
              try clear c21
              try clear c22
              try clear c22b0
              try clear c22b1
              try clear c22b2
              try clear c26
              try clear c26b0
              try clear c28
              try clear c28b0
              try clear c30
              try clear c31
              try clear c31b0
              try clear c32
              try clear c33
              try clear c33b0
              try clear c34
              try clear c34b0
              try clear c35
              try clear hx746_0
              try clear hx746_1
              try clear hx746_2
              try clear hx746_3
              try clear hx746_4
              try clear hx746_5
              try clear hx748_0
              try clear hx749_0
              try clear hx749_1
              try clear hx749_2
              try clear hx749_3
              try clear hx749_4
              try clear hx749_5
              try clear p2
              try clear p7
              try clear p746
              try clear p748
              try clear p749
              try clear q7
              try clear q746
              try clear q748
              try clear q749
              obtain ⟨x13_4, x14_4, rfl, rfl, HA, HK4, HO_3, HO_4, HO_5, HO_6, HO_12, HB⟩ := hrel
              cases gk with
              | zero => exact absurd HA.out (by simp [laws_FnSwapLess.l1])
              | succ k4 =>
               have H := HA.out
               clear HA
               simp only [laws_FnSwapLess.l1] at H
               by_cases c37 : x14_4 < (t750.length : Int)
               ·rw [if_pos c37] at H
                have c37b0 : decide (x14_4 < (t750.length : Int)) = true := decide_eq_true c37
                clear c37
                by_cases c38 : x13_4 = true
                ·subst c38
                 have H1 : (laws_FnSwapLess.l1 k4 t724 t725 t726 t727 x11_2 t750 true (wrap64 (x14_4 + 1))) = some r := by rw [if_pos rfl] at H; exact H
                 clear H
                 have H := H1
                 clear H1
                 have H' := Aside0.mk H
                 clear H
                 obtain ⟨Ao39, co39, eo39⟩ := Kd.R_slice HO_12.out
                 subst eo39
                 go_wp2
                 go_roundg k4
                 case measure => have := HJ5.out; have := HK2.out; have := HJ26.out; have := HK4.out; omega
                 case rel => exact ⟨(true), (wrap64 (x14_4 + 1)), pF, pF, H', ⟨by have := HJ5.out; have := HK2.out; have := HJ26.out; have := HK4.out; omega⟩, ⟨pR HO_3⟩, ⟨pR HO_4⟩, ⟨pR HO_5⟩, ⟨pR HO_6⟩, ⟨pR HO_12⟩, ⟨pB⟩⟩
                ·replace c38 := Bool.eq_false_iff.mpr c38
                 subst c38
                 have H1 : (if 0 ≤ x14_4 then (if 0 ≤ (rd t750 x14_4) then (if (rd t750 x14_4) < (t724.length : Int) then ((laws_hasInt.f k4 t727 ((rd_T41 t724 (rd t750 x14_4)).f1)).bind fun t755 => (laws_FnSwapLess.l1 k4 t724 t725 t726 t727 x11_2 t750 (!t755) (wrap64 (x14_4 + 1)))) else (none)) else (none)) else (none)) = some r := by rw [if_neg (show ¬ (false = true) by decide)] at H; exact H
                 clear H
                 have H := H1
                 clear H1
                 by_cases c40 : 0 ≤ x14_4
                 ·rw [if_pos c40] at H
                  have c40b0 : decide (0 ≤ x14_4) = true := decide_eq_true c40
                  clear c40
                  by_cases c41 : 0 ≤ (rd t750 x14_4)
                  ·rw [if_pos c41] at H
                   have c41b0 : decide (0 ≤ (rd t750 x14_4)) = true := decide_eq_true c41
                   clear c41
                   by_cases c42 : (rd t750 x14_4) < (t724.length : Int)
                   ·rw [if_pos c42] at H
                    have c42b0 : decide ((rd t750 x14_4) < (t724.length : Int)) = true := decide_eq_true c42
                    clear c42
                    replace H := Option.bind_eq_some_iff.mp H
                    obtain ⟨t755, A430, H⟩ := H
                    replace H : (laws_FnSwapLess.l1 k4 t724 t725 t726 t727 x11_2 t750 (!t755) (wrap64 (x14_4 + 1))) = some r := H
                    have A43 := Aside0.mk A430
                    clear A430
                    have H' := Aside0.mk H
                    clear H
                    obtain ⟨Ao44, co44, eo44⟩ := Kd.R_slice HO_12.out
                    subst eo44
                    have p753 : 0 ≤ (x14_4 : Int) := of_decide_eq_true pA
                    have q753 : x14_4 < (t750.length : Int) := of_decide_eq_true pA
                    obtain ⟨ad753, e753, hx753_0⟩ := Kd.at_int (Kd.R_reads' HO_12.out).2.2 x14_4 p753 q753
                    cases e753
                    replace p753 := eq_true p753
                    replace q753 := eq_true q753
                    have p754 : 0 ≤ ((rd t750 x14_4) : Int) := of_decide_eq_true pA
                    have q754 : (rd t750 x14_4) < (t724.length : Int) := of_decide_eq_true pA
                    obtain ⟨ad754, e754, hx754_0, hx754_1, hx754_2, hx754_3⟩ := at_T41 (Kd.R_reads' HO_3.out).2.2 (rd t750 x14_4) p754 q754
                    cases e754
                    replace p754 := eq_true p754
                    replace q754 := eq_true q754
                    go_wp2_with (first | (go_at_call 35; (with_reducible refine (laws_hasInt.calls k4 _ _ t727 ((rd_T41 t724 (rd t750 x14_4)).f1) t755 _ ?side1 ?side2 A43.out).mono ?_); (case side1 => exact pS ((Kd.R_reads' HO_6.out).2.2)); (case side2 => exact (Kd.R_reads' HO_6.out).2.1); rintro e w' ⟨rfl, ⟨nd, rfl⟩⟩))
                    go_roundg k4
                    case measure => have := HJ5.out; have := HK2.out; have := HJ26.out; have := HK4.out; omega
                    case rel => exact ⟨(!t755), (wrap64 (x14_4 + 1)), pF, pF, H', ⟨by have := HJ5.out; have := HK2.out; have := HJ26.out; have := HK4.out; omega⟩, ⟨pR HO_3⟩, ⟨pR HO_4⟩, ⟨pR HO_5⟩, ⟨pR HO_6⟩, ⟨pR HO_12⟩, ⟨pB⟩⟩
                   ·rw [if_neg c42] at H
                    exact absurd H (by simp)
                  ·rw [if_neg c41] at H
                   exact absurd H (by simp)
                 ·rw [if_neg c40] at H
                  exact absurd H (by simp)
               ·rw [if_neg c37] at H
                have c37b0 : decide (x14_4 < (t750.length : Int)) = false := decide_eq_false c37
                clear c37
                by_cases c45 : x13_4 = true
                ·subst c45
                 have H1 : (laws_FnSwapLess.l0 k4 t724 t725 t726 t727 (wrap64 (x11_2 + 1))) = some r := by rw [if_pos rfl] at H; exact H
                 clear H
                 have H := H1
                 clear H1
                 have H' := Aside0.mk H
                 clear H
                 obtain ⟨Ao46, co46, eo46⟩ := Kd.R_slice HO_12.out
                 subst eo46
                 go_wp2
                 go_roundg k4
                 case measure => have := HJ5.out; have := HK2.out; have := HJ26.out; have := HK4.out; omega
                 case rel => exact ⟨(wrap64 (x11_2 + 1)), pF, H', ⟨by have := HJ5.out; have := HK2.out; have := HJ26.out; have := HK4.out; omega⟩, ⟨pR HO_3⟩, ⟨pR HO_4⟩, ⟨by (with_reducible repeat (first | apply Kd.R_alloc | apply Kd.R_drewN | apply Kd.R_drew)); exact Kd.R_mono HO_5.out (fun _ hk => hk.1)⟩, ⟨by (with_reducible repeat (first | apply Kd.R_alloc | apply Kd.R_drewN | apply Kd.R_drew)); exact Kd.R_mono HO_6.out (fun _ hk => hk.1)⟩, ⟨pB⟩⟩
                ·replace c45 := Bool.eq_false_iff.mpr c45
                 subst c45
                 have H1 : (some false) = some r := by rw [if_neg (show ¬ (false = true) by decide)] at H; exact H
                 clear H
                 have H := H1
                 clear H1
                 obtain rfl := Option.some.inj H
                 obtain ⟨Ao47, co47, eo47⟩ := Kd.R_slice HO_12.out
                 subst eo47
                 go_wp2
                 go_ret
                 exact ⟨pE, pB⟩
            ·rw [if_neg c34] at H
             exact absurd H (by simp)
           ·rw [if_neg c33] at H
            exact absurd H (by simp)
          ·replace c32 := Bool.eq_false_iff.mpr c32
           subst c32
           have H1 : (laws_FnSwapLess.l0 kj26 t724 t725 t726 t727 (wrap64 (x11_2 + 1))) = some r := by rw [if_neg (show ¬ (false = true) by decide)] at H; exact H
           clear H
           have H := H1
           clear H1
           have H' := Aside0.mk H
           clear H
           go_wp2
           go_roundg kj26
           case measure => have := HJ5.out; have := HK2.out; have := HJ26.out; omega
           case rel => exact ⟨(wrap64 (x11_2 + 1)), pF, H', ⟨by have := HJ5.out; have := HK2.out; have := HJ26.out; omega⟩, ⟨pR HO_3⟩, ⟨pR HO_4⟩, ⟨pR HO_5⟩, ⟨pR HO_6⟩, ⟨pB⟩⟩
       ·rw [if_neg c26] at H
        have c26b0 : decide (x11_2 < (t725.length : Int)) = false := decide_eq_false c26
        clear c26
        obtain rfl := Option.some.inj H
        go_wp2
        go_ret
        exact ⟨pE, pB⟩

/-- THE ONE PURE STATEMENT of laws_FnSwapLess: yours. -/
def laws_FnSwapLess.Pure : Prop := ∀ (l0 : List Int), l0.length ≤ maxLen → l0.length * 1 ≤ 140737488351232 → (∀ x ∈ l0, (Lit.int .u8 x).wf = true) → ∃ k, laws_FnSwapLess.f k l0 = some true
theorem laws_FnSwapLess.walk (P : laws_FnSwapLess.Pure) (a0 : Option Addr) (len0 cap0 : Nat) (z0 : List Int) (w : World) (w0 : (a0 = none ∧ len0 = 0 ∧ cap0 = 0 ∧ z0 = []) ∨ ∃ x, a0 = some x ∧ len0 ≤ cap0 ∧ cap0 ≤ maxLen ∧ z0.length = cap0 ∧ (∀ i, i < z0.length → w.cell? (x.add i) = some (.int .u8 (z0.getD i 0))) ∧ ∀ n ∈ z0, (Lit.int .u8 n).wf = true) (y0 : len0 * 1 ≤ 140737488351232) :
  Calls Try.prog 13 #[.slice a0 len0 cap0] w fun e w' => e = .returned (.bool true) ∧ Below w.heap.size w w' := by
 obtain ⟨l0, rfl, hr0, hm0, hw0, hc0⟩ := ReadsInt.ofRowC w0
 obtain ⟨k, h⟩ := P l0 hm0 y0 hw0
 refine (laws_FnSwapLess.calls k _ _ l0 true w (Kd.C_of_reads (d := (0 : Int)) (h1 := fun _ => rfl) hr0) hc0 h).mono ?_
 rintro e w' ⟨rfl, hd⟩
 exact ⟨rfl, hd⟩

end Go.Proofs.Ytglddjbcaknnaaa.Q
