-- Written by the kit's print.py for all laws of the seat at once (one namespace), by a program of this session.
import Derived.Test.YtglddjbcaknnaaaQx0
import Derived.Test.YtglddjbcaknnaaaQx21
import Derived.Test.YtglddjbcaknnaaaQx22
import Derived.Test.YtglddjbcaknnaaaQx25
import Derived.Test.YtglddjbcaknnaaaQx26
import Derived.Test.YtglddjbcaknnaaaQx27
namespace Go.Proofs.Ytglddjbcaknnaaa.Q
open Go.RowKit Go.Proofs.YtglddjbcaknnaaaW.PrintWords Go.Proofs.YtglddjbcaknnaaaW.PrintLast Go.Proofs.YtglddjbcaknnaaaW.PrintMore
attribute [local go_sem] max2_int min2_int max_two min_two max_three min_three max_four min_four   -- for this text's walks alone
set_option linter.unusedVariables false
set_option linter.unusedSimpArgs false

/-! ### laws_FnSwapNeeds: function 11 -/
mutual
def laws_FnSwapNeeds.j0 : Nat → List (S62) → List Int → List Int → List Int → Bool → List Int → Bool → Bool → Option (Bool)
 | 0, _, _, _, _, _, _, _, _ => none
 | k + 1, x4, x5, x6, x7, x8, x9, x10, x50 => if x50 = true then (if (x8 == x10) = true then ((laws_sameInts.f k x7 x9).bind fun t672 => (some t672)) else (some false)) else (laws_FnSwapNeeds.l0 k x4 x5 x6 x7 0)
def laws_FnSwapNeeds.l0 : Nat → List (S62) → List Int → List Int → List Int → Int → Option (Bool)
 | 0, _, _, _, _, _ => none
 | k + 1, x4, x5, x6, x7, x11 => if x11 < (x7.length : Int) then (if 0 ≤ x11 then (if x11 < (x4.length : Int) then ((laws_hasInt.f k x6 ((rd_T62 x4 x11).f0)).bind fun t674 => (if t674 = true then (if (rd x7 x11) > 0 then (some false) else ((laws_hasInt.f k x6 ((rd_T62 x4 x11).f0)).bind fun t677 => (if t677 = true then (laws_FnSwapNeeds.l0 k x4 x5 x6 x7 (wrap64 (x11 + 1))) else (if x11 < (x5.length : Int) then (if (rd x7 x11) < (rd x5 x11) then (some false) else (laws_FnSwapNeeds.l0 k x4 x5 x6 x7 (wrap64 (x11 + 1)))) else (none))))) else ((laws_hasInt.f k x6 ((rd_T62 x4 x11).f0)).bind fun t681 => (if t681 = true then (laws_FnSwapNeeds.l0 k x4 x5 x6 x7 (wrap64 (x11 + 1))) else (if x11 < (x5.length : Int) then (if (rd x7 x11) < (rd x5 x11) then (some false) else (laws_FnSwapNeeds.l0 k x4 x5 x6 x7 (wrap64 (x11 + 1)))) else (none)))))) else (none)) else (none)) else (some ((x7.length : Int) == (x5.length : Int)))
end
def laws_FnSwapNeeds.f (k : Nat) (l0 : List Int) : Option (Bool) := if (l0.length : Int) > 1048576 then (some true) else ((spec_DrawSwapNeeds.f k l0).bind fun bt651 => ((impl_SwapNeeds.f k bt651.1 bt651.2.1 bt651.2.2.1 bt651.2.2.2).bind fun bt663 => ((spec_SwapNeeds.f k bt651.1 bt651.2.1 bt651.2.2.1 bt651.2.2.2).bind fun bt667 => (if (bt663.2 != bt667.2) = true then (laws_FnSwapNeeds.j0 k bt651.2.1 bt651.2.2.1 bt651.2.2.2 bt663.1 bt663.2 bt667.1 bt667.2 true) else ((laws_sameInts.f k bt663.1 bt667.1).bind fun t671 => (if t671 = true then (laws_FnSwapNeeds.j0 k bt651.2.1 bt651.2.2.1 bt651.2.2.2 bt663.1 bt663.2 bt667.1 bt667.2 (!bt663.2)) else (laws_FnSwapNeeds.j0 k bt651.2.1 bt651.2.2.1 bt651.2.2.2 bt663.1 bt663.2 bt667.1 bt667.2 true)))))))
theorem laws_FnSwapNeeds.mono_l : ∀ k, (∀ y0 y1 y2 y3 y4 y5 y6 y7, LeO (laws_FnSwapNeeds.j0 k y0 y1 y2 y3 y4 y5 y6 y7) (laws_FnSwapNeeds.j0 (k + 1) y0 y1 y2 y3 y4 y5 y6 y7)) ∧ (∀ y0 y1 y2 y3 y4, LeO (laws_FnSwapNeeds.l0 k y0 y1 y2 y3 y4) (laws_FnSwapNeeds.l0 (k + 1) y0 y1 y2 y3 y4))
 | 0 => ⟨fun _ _ _ _ _ _ _ _ r h => by simp [laws_FnSwapNeeds.j0] at h, fun _ _ _ _ _ r h => by simp [laws_FnSwapNeeds.l0] at h⟩
 | k + 1 => by
  obtain ⟨ih0, ih1⟩ := laws_FnSwapNeeds.mono_l k
  refine ⟨?_, ?_⟩
  ·intro y0 y1 y2 y3 y4 y5 y6 y7
   unfold laws_FnSwapNeeds.j0
   repeat' first
   | (with_reducible exact ih0 _ _ _ _ _ _ _ _)
   | (with_reducible exact ih1 _ _ _ _ _)
   | (with_reducible exact impl_SwapNeeds.mono _ _ _ _ _)
   | (with_reducible exact laws_hasInt.mono _ _ _)
   | (with_reducible exact laws_sameInts.mono _ _ _)
   | (with_reducible exact spec_DrawSwapNeeds.mono _ _)
   | (with_reducible exact spec_SwapNeeds.mono _ _ _ _ _)
   | (with_reducible exact LeO.refl _)
   | (with_reducible exact LeO.none _)
   | (with_reducible refine LeO.ite ?_ ?_)
   | (with_reducible refine LeO.bind ?_ (fun _ => ?_))
   | exact ih0 _ _ _ _ _ _ _ _
   | exact ih1 _ _ _ _ _
   | exact impl_SwapNeeds.mono _ _ _ _ _
   | exact laws_hasInt.mono _ _ _
   | exact laws_sameInts.mono _ _ _
   | exact spec_DrawSwapNeeds.mono _ _
   | exact spec_SwapNeeds.mono _ _ _ _ _
   | exact LeO.none _
   | refine LeO.ite ?_ ?_
   | refine LeO.bind ?_ (fun _ => ?_)
  ·intro y0 y1 y2 y3 y4
   unfold laws_FnSwapNeeds.l0
   repeat' first
   | (with_reducible exact ih0 _ _ _ _ _ _ _ _)
   | (with_reducible exact ih1 _ _ _ _ _)
   | (with_reducible exact impl_SwapNeeds.mono _ _ _ _ _)
   | (with_reducible exact laws_hasInt.mono _ _ _)
   | (with_reducible exact laws_sameInts.mono _ _ _)
   | (with_reducible exact spec_DrawSwapNeeds.mono _ _)
   | (with_reducible exact spec_SwapNeeds.mono _ _ _ _ _)
   | (with_reducible exact LeO.refl _)
   | (with_reducible exact LeO.none _)
   | (with_reducible refine LeO.ite ?_ ?_)
   | (with_reducible refine LeO.bind ?_ (fun _ => ?_))
   | exact ih0 _ _ _ _ _ _ _ _
   | exact ih1 _ _ _ _ _
   | exact impl_SwapNeeds.mono _ _ _ _ _
   | exact laws_hasInt.mono _ _ _
   | exact laws_sameInts.mono _ _ _
   | exact spec_DrawSwapNeeds.mono _ _
   | exact spec_SwapNeeds.mono _ _ _ _ _
   | exact LeO.none _
   | refine LeO.ite ?_ ?_
   | refine LeO.bind ?_ (fun _ => ?_)
theorem laws_FnSwapNeeds.mono : ∀ a0 k, LeO (laws_FnSwapNeeds.f k a0) (laws_FnSwapNeeds.f (k + 1) a0) := by
 intro a0 k
 obtain ⟨ih0, ih1⟩ := laws_FnSwapNeeds.mono_l k
 unfold laws_FnSwapNeeds.f
 repeat' first
   | (with_reducible exact ih0 _ _ _ _ _ _ _ _)
   | (with_reducible exact ih1 _ _ _ _ _)
   | (with_reducible exact impl_SwapNeeds.mono _ _ _ _ _)
   | (with_reducible exact laws_hasInt.mono _ _ _)
   | (with_reducible exact laws_sameInts.mono _ _ _)
   | (with_reducible exact spec_DrawSwapNeeds.mono _ _)
   | (with_reducible exact spec_SwapNeeds.mono _ _ _ _ _)
   | (with_reducible exact LeO.refl _)
   | (with_reducible exact LeO.none _)
   | (with_reducible refine LeO.ite ?_ ?_)
   | (with_reducible refine LeO.bind ?_ (fun _ => ?_))
   | exact ih0 _ _ _ _ _ _ _ _
   | exact ih1 _ _ _ _ _
   | exact impl_SwapNeeds.mono _ _ _ _ _
   | exact laws_hasInt.mono _ _ _
   | exact laws_sameInts.mono _ _ _
   | exact spec_DrawSwapNeeds.mono _ _
   | exact spec_SwapNeeds.mono _ _ _ _ _
   | exact LeO.none _
   | refine LeO.ite ?_ ?_
   | refine LeO.bind ?_ (fun _ => ?_)
def laws_FnSwapNeeds.T11 : Bool × List (List Nat × List Nat) := (true, [([], []), ([], []), ([], []), ([1, 2], [1, 2]), ([3], [3]), ([4], [4]), ([0, 5], [0, 5]), ([6, 6], [6]), ([7], [7]), ([7], [7]), ([8, 9, 7], [7, 8, 9]), ([10, 7], [7, 10]), ([11, 7], [7, 11]), ([7, 12], [7, 12]), ([13, 7], [13]), ([14], [14]), ([14], [14]), ([14], [14]), ([16, 17, 14], [14, 16, 17]), ([18, 14], [14, 18]), ([19, 14], [14, 19]), ([15, 20, 14, 14], [14, 15, 20]), ([21, 14], [14, 21]), ([22, 21, 14], [14, 22]), ([23], [23]), ([23], [23]), ([24, 25, 23], [23, 24, 25]), ([26, 23], [23, 26]), ([23], [23]), ([23], [23]), ([28, 29, 23], [23, 28, 29]), ([30, 23], [23, 30]), ([27, 31, 23], [23, 27, 31]), ([23, 32, 14], [14, 23, 32]), ([14, 33], [14, 33])])
def laws_FnSwapNeeds.B11 : List Nat := [0, 0, 0, 6, 14, 30, 63, 127, 255, 255, 1023, 2047, 4095, 8191, 16383, 32767, 32767, 32767, 229375, 491519, 1015807, 2097151, 4194303, 8388607, 16777215, 16777215, 67108863, 134217727, 16777215, 16777215, 822083583, 1895825407, 4294967295, 8589934591, 17179869183]
theorem laws_FnSwapNeeds.tab11 : rtab .any (opsOf Try.f11 11) = laws_FnSwapNeeds.T11 := by kernel_rfl
theorem laws_FnSwapNeeds.bits11 : waitsOk laws_FnSwapNeeds.T11.2 laws_FnSwapNeeds.B11 = true := by kernel_rfl
set_option maxHeartbeats 8000000 in
set_option maxRecDepth 100000 in
theorem laws_FnSwapNeeds.calls (k : Nat) (A0 : Option Addr) (c0 : Nat) (l0 : List Int) (r : Bool) (w : World) (hr0 : Kd.C (Kd.int .u8) w A0 l0.length l0) (hc0 : l0.length ≤ c0) (h : laws_FnSwapNeeds.f k l0 = some r) :
  Calls Try.prog 11 #[.slice A0 l0.length c0] w fun e w' => e = .returned (.bool r) ∧ Below w.heap.size w w' := by
 have HR0 := Aside0.mk hr0
 have HC0 := Aside0.mk hc0
 clear hr0 hc0
 have HB := Aside0.mk (Below.refl w.heap.size w)
 have H : (if (l0.length : Int) > 1048576 then (some true) else ((spec_DrawSwapNeeds.f k l0).bind fun bt651 => ((impl_SwapNeeds.f k bt651.1 bt651.2.1 bt651.2.2.1 bt651.2.2.2).bind fun bt663 => ((spec_SwapNeeds.f k bt651.1 bt651.2.1 bt651.2.2.1 bt651.2.2.2).bind fun bt667 => (if (bt663.2 != bt667.2) = true then (laws_FnSwapNeeds.j0 k bt651.2.1 bt651.2.2.1 bt651.2.2.2 bt663.1 bt663.2 bt667.1 bt667.2 true) else ((laws_sameInts.f k bt663.1 bt667.1).bind fun t671 => (if t671 = true then (laws_FnSwapNeeds.j0 k bt651.2.1 bt651.2.2.1 bt651.2.2.2 bt663.1 bt663.2 bt667.1 bt667.2 (!bt663.2)) else (laws_FnSwapNeeds.j0 k bt651.2.1 bt651.2.2.1 bt651.2.2.2 bt663.1 bt663.2 bt667.1 bt667.2 true)))))))) = some r := h
 clear h
 by_cases c2 : (l0.length : Int) > 1048576
 ·rw [if_pos c2] at H
  have c2b0 : decide (1048576 < (l0.length : Int)) = true := decide_eq_true c2
  have c2b1 : decide (1048576 < l0.length) = true := decide_eq_true (by omega)
  clear c2
  obtain rfl := Option.some.inj H
  go_enter Try.func11, Try.ntmps11
  go_wp2
  go_ret
  exact ⟨pE, pB⟩
 ·rw [if_neg c2] at H
  have c2b0 : decide (1048576 < (l0.length : Int)) = false := decide_eq_false c2
  have c2b1 : decide (1048576 < l0.length) = false := decide_eq_false (by omega)
  clear c2
  replace H := Option.bind_eq_some_iff.mp H
  obtain ⟨⟨t651, t652, t653, t654⟩, A30, H⟩ := H
  replace H : ((impl_SwapNeeds.f k t651 t652 t653 t654).bind fun bt663 => ((spec_SwapNeeds.f k t651 t652 t653 t654).bind fun bt667 => (if (bt663.2 != bt667.2) = true then (laws_FnSwapNeeds.j0 k t652 t653 t654 bt663.1 bt663.2 bt667.1 bt667.2 true) else ((laws_sameInts.f k bt663.1 bt667.1).bind fun t671 => (if t671 = true then (laws_FnSwapNeeds.j0 k t652 t653 t654 bt663.1 bt663.2 bt667.1 bt667.2 (!bt663.2)) else (laws_FnSwapNeeds.j0 k t652 t653 t654 bt663.1 bt663.2 bt667.1 bt667.2 true)))))) = some r := H
  have A3 := Aside0.mk A30
  clear A30
  replace H := Option.bind_eq_some_iff.mp H
  obtain ⟨⟨t663, t664⟩, A40, H⟩ := H
  replace H : ((spec_SwapNeeds.f k t651 t652 t653 t654).bind fun bt667 => (if (t664 != bt667.2) = true then (laws_FnSwapNeeds.j0 k t652 t653 t654 t663 t664 bt667.1 bt667.2 true) else ((laws_sameInts.f k t663 bt667.1).bind fun t671 => (if t671 = true then (laws_FnSwapNeeds.j0 k t652 t653 t654 t663 t664 bt667.1 bt667.2 (!t664)) else (laws_FnSwapNeeds.j0 k t652 t653 t654 t663 t664 bt667.1 bt667.2 true))))) = some r := H
  have A4 := Aside0.mk A40
  clear A40
  replace H := Option.bind_eq_some_iff.mp H
  obtain ⟨⟨t667, t668⟩, A50, H⟩ := H
  replace H : (if (t664 != t668) = true then (laws_FnSwapNeeds.j0 k t652 t653 t654 t663 t664 t667 t668 true) else ((laws_sameInts.f k t663 t667).bind fun t671 => (if t671 = true then (laws_FnSwapNeeds.j0 k t652 t653 t654 t663 t664 t667 t668 (!t664)) else (laws_FnSwapNeeds.j0 k t652 t653 t654 t663 t664 t667 t668 true)))) = some r := H
  have A5 := Aside0.mk A50
  clear A50
  have HC6 := Aside0.mk H
  clear H
  go_enter Try.func11, Try.ntmps11
  go_upto_region 6 with (first | ((with_reducible refine gate_callee (f := 40) rfl ?_); refine goesL_ (some 17) rfl rfl Try.func40 pL rfl #[.slice A0 l0.length c0] rfl pM ?_; (with_reducible refine (spec_DrawSwapNeeds.calls k _ _ l0 t651 t652 t653 t654 _ ?side1 ?side2 A3.out).mono ?_); (case side1 => exact pS (HR0.out)); (case side2 => exact HC0.out); rintro e w7 ⟨v655, v657, v659, v661, rfl, ho0, ho1, ho2, ho3, hb⟩; refine ⟨_, rfl, ?_⟩; have n0_ := Aside0.mk (Kd.R_lower ho0 (below_size pB)); have n1_ := Aside0.mk (Kd.R_lower ho1 (below_size pB)); have n2_ := Aside0.mk (Kd.R_lower ho2 (below_size pB)); have n3_ := Aside0.mk (Kd.R_lower ho3 (below_size pB)); have n4_ := Aside0.mk (below_step pB hb); clear HB; have HO656 := n0_; have HO658 := n1_; have HO660 := n2_; have HO662 := n3_; have HB := n4_; clear n0_ n1_ n2_ n3_ n4_; (try clear hb); (try clear hb2); (try clear hk); (try clear hi); (try clear ho0); (try clear ho1); (try clear ho2); (try clear ho3); obtain ⟨Ao8, co8, eo8⟩ := Kd.R_slice HO656.out; subst eo8; obtain ⟨Ao9, co9, eo9⟩ := Kd.R_slice HO658.out; subst eo9; obtain ⟨Ao10, co10, eo10⟩ := Kd.R_slice HO660.out; subst eo10; obtain ⟨Ao11, co11, eo11⟩ := Kd.R_slice HO662.out; subst eo11) | ((with_reducible refine gate_callee (f := 41) rfl ?_); refine goesL_ (some 27) rfl rfl Try.func41 pL rfl #[.slice Ao8 t651.length co8, .slice Ao9 t652.length co9, .slice Ao10 t653.length co10, .slice Ao11 t654.length co11] rfl pM ?_; (with_reducible refine (impl_SwapNeeds.calls k _ _ t651 _ _ t652 _ _ t653 _ _ t654 t663 t664 _ ?side1 ?side2 ?side3 ?side4 ?side5 ?side6 ?side7 ?side8 A4.out).mono ?_); (case side1 => exact pS ((Kd.R_reads' HO656.out).2.2)); (case side2 => exact (Kd.R_reads' HO656.out).2.1); (case side3 => exact pS ((Kd.R_reads' HO658.out).2.2)); (case side4 => exact (Kd.R_reads' HO658.out).2.1); (case side5 => exact pS ((Kd.R_reads' HO660.out).2.2)); (case side6 => exact (Kd.R_reads' HO660.out).2.1); (case side7 => exact pS ((Kd.R_reads' HO662.out).2.2)); (case side8 => exact (Kd.R_reads' HO662.out).2.1); rintro e w12 ⟨v665, rfl, ho0, hb⟩; refine ⟨_, rfl, ?_⟩; have n0_ := Aside0.mk (Kd.R_below (pR HO656) hb); have n1_ := Aside0.mk (Kd.R_below (pR HO658) hb); have n2_ := Aside0.mk (Kd.R_elder' (pR HO660) (Kd.R_base ho0) hb); have n3_ := Aside0.mk (Kd.R_elder' (pR HO662) (Kd.R_base ho0) hb); have n4_ := Aside0.mk (Kd.R_lower (Kd.R_new' (Kd.R_new' ho0 (Kd.R_lt (pR HO660))) (Kd.R_lt (pR HO662))) (below_size pB)); have n5_ := Aside0.mk (below_step pB hb); clear HO656; clear HO658; clear HO660; clear HO662; clear HB; have HO656 := n0_; have HO658 := n1_; have HO660 := n2_; have HO662 := n3_; have HO666 := n4_; have HB := n5_; clear n0_ n1_ n2_ n3_ n4_ n5_; (try clear hb); (try clear hb2); (try clear hk); (try clear hi); (try clear ho0)) | ((with_reducible refine gate_callee (f := 42) rfl ?_); refine goesL_ (some 35) rfl rfl Try.func42 pL rfl #[.slice Ao8 t651.length co8, .slice Ao9 t652.length co9, .slice Ao10 t653.length co10, .slice Ao11 t654.length co11] rfl pM ?_; (with_reducible refine (spec_SwapNeeds.calls k _ _ t651 _ _ t652 _ _ t653 _ _ t654 t667 t668 _ ?side1 ?side2 ?side3 ?side4 ?side5 ?side6 ?side7 ?side8 A5.out).mono ?_); (case side1 => exact pS ((Kd.R_reads' HO656.out).2.2)); (case side2 => exact (Kd.R_reads' HO656.out).2.1); (case side3 => exact pS ((Kd.R_reads' HO658.out).2.2)); (case side4 => exact (Kd.R_reads' HO658.out).2.1); (case side5 => exact pS ((Kd.R_reads' HO660.out).2.2)); (case side6 => exact (Kd.R_reads' HO660.out).2.1); (case side7 => exact pS ((Kd.R_reads' HO662.out).2.2)); (case side8 => exact (Kd.R_reads' HO662.out).2.1); rintro e w13 ⟨v669, rfl, ho0, hb⟩; refine ⟨_, rfl, ?_⟩; have n0_ := Aside0.mk (Kd.R_below (pR HO656) hb); have n1_ := Aside0.mk (Kd.R_below (pR HO658) hb); have n2_ := Aside0.mk (Kd.R_elder' (pR HO660) (Kd.R_base ho0) hb); have n3_ := Aside0.mk (Kd.R_elder' (pR HO662) (Kd.R_base ho0) hb); have n4_ := Aside0.mk (Kd.R_elder' (pR HO666) (Kd.R_base ho0) hb); have n5_ := Aside0.mk (Kd.R_lower (Kd.R_new' (Kd.R_new' (Kd.R_new' ho0 (Kd.R_lt (pR HO660))) (Kd.R_lt (pR HO662))) (Kd.R_lt (pR HO666))) (below_size pB)); have n6_ := Aside0.mk (below_step pB hb); clear HO656; clear HO658; clear HO660; clear HO662; clear HO666; clear HB; have HO656 := n0_; have HO658 := n1_; have HO660 := n2_; have HO662 := n3_; have HO666 := n4_; have HO670 := n5_; have HB := n6_; clear n0_ n1_ n2_ n3_ n4_ n5_ n6_; (try clear hb); (try clear hb2); (try clear hk); (try clear hi); (try clear ho0)))
  (try simp only [Act.put, List.setIfInBounds_toArray, List.set_cons_zero, List.set_cons_succ])
  go_cut [50] (fun v50 wc => ∃ (kq : Nat) (x50_5 : Bool), v50 = .bool x50_5 ∧ Aside0 (laws_FnSwapNeeds.j0 kq t652 t653 t654 t663 t664 t667 t668 x50_5 = some r) ∧ Aside0 (kq ≤ k) ∧ Aside0 (Kd.R k62 62 wc w.heap.size (fun _ => True) (.slice Ao9 t652.length co9) t652) ∧ Aside0 (Kd.R (Kd.int .i64) 3 wc w.heap.size (fun k_ => some k_ ≠ ((.slice Ao11 t654.length co11) : Value).ownBlock ∧ some k_ ≠ (v665 : Value).ownBlock ∧ some k_ ≠ (v669 : Value).ownBlock) (.slice Ao10 t653.length co10) t653) ∧ Aside0 (Kd.R (Kd.int .i64) 3 wc w.heap.size (fun k_ => some k_ ≠ ((.slice Ao10 t653.length co10) : Value).ownBlock ∧ some k_ ≠ (v665 : Value).ownBlock ∧ some k_ ≠ (v669 : Value).ownBlock) (.slice Ao11 t654.length co11) t654) ∧ Aside0 (Kd.R (Kd.int .i64) 3 wc w.heap.size (fun k_ => some k_ ≠ ((.slice Ao10 t653.length co10) : Value).ownBlock ∧ some k_ ≠ ((.slice Ao11 t654.length co11) : Value).ownBlock ∧ some k_ ≠ (v669 : Value).ownBlock) v665 t663) ∧ Aside0 (Kd.R (Kd.int .i64) 3 wc w.heap.size (fun k_ => some k_ ≠ ((.slice Ao10 t653.length co10) : Value).ownBlock ∧ some k_ ≠ ((.slice Ao11 t654.length co11) : Value).ownBlock ∧ some k_ ≠ (v665 : Value).ownBlock) v669 t667) ∧ Aside0 (Below w.heap.size w wc))
  case first =>
   have H := HC6.out
   clear HC6
   by_cases c14 : (t664 != t668) = true
   ·rw [if_pos c14] at H
    have c14b0 : (t664 != t668) = true := c14
    (try (have c14b1 : decide (t664 = t668) = false := by simpa using c14))
    (try (have c14b2 : (t664 == t668) = false := by simpa using c14))
    (try (have c14b3 : ¬ (t664 = t668) := by simpa using c14))
    clear c14
    (first | rw [c14b0] | (simp only [i64_w, i32_w]; rw [c14b0]) | skip)
    have H' := Aside0.mk H
    clear H
    go_wp2
    go_meet
    case rel => exact ⟨_, (true), pF, H', ⟨by first | omega | exact Nat.le_refl _⟩, ⟨pR HO658⟩, ⟨by (with_reducible repeat (first | apply Kd.R_alloc | apply Kd.R_drewN | apply Kd.R_drew)); exact Kd.R_mono HO660.out (fun _ hk => ⟨hk.1.1, ⟨hk.1.2, hk.2⟩⟩)⟩, ⟨by (with_reducible repeat (first | apply Kd.R_alloc | apply Kd.R_drewN | apply Kd.R_drew)); exact Kd.R_mono HO662.out (fun _ hk => ⟨hk.1.1, ⟨hk.1.2, hk.2⟩⟩)⟩, ⟨by (with_reducible repeat (first | apply Kd.R_alloc | apply Kd.R_drewN | apply Kd.R_drew)); exact Kd.R_mono HO666.out (fun _ hk => ⟨hk.1.1.2, ⟨hk.1.2, hk.2⟩⟩)⟩, ⟨by (with_reducible repeat (first | apply Kd.R_alloc | apply Kd.R_drewN | apply Kd.R_drew)); exact Kd.R_mono HO670.out (fun _ hk => ⟨hk.1.1.2, ⟨hk.1.2, hk.2⟩⟩)⟩, ⟨pB⟩⟩
   ·rw [if_neg c14] at H
    have c14b0 : (t664 != t668) = false := by simpa using c14
    (try (have c14b1 : decide (t664 = t668) = true := by simpa using c14))
    (try (have c14b2 : (t664 == t668) = true := by simpa using c14))
    clear c14
    (first | rw [c14b0] | (simp only [i64_w, i32_w]; rw [c14b0]) | skip)
    replace H := Option.bind_eq_some_iff.mp H
    obtain ⟨t671, A150, H⟩ := H
    replace H : (if t671 = true then (laws_FnSwapNeeds.j0 k t652 t653 t654 t663 t664 t667 t668 (!t664)) else (laws_FnSwapNeeds.j0 k t652 t653 t654 t663 t664 t667 t668 true)) = some r := H
    have A15 := Aside0.mk A150
    clear A150
    by_cases c16 : t671 = true
    ·subst c16
     have H1 : (laws_FnSwapNeeds.j0 k t652 t653 t654 t663 t664 t667 t668 (!t664)) = some r := by rw [if_pos rfl] at H; exact H
     clear H
     have H := H1
     clear H1
     have H' := Aside0.mk H
     clear H
     obtain ⟨Ao17, co17, eo17⟩ := Kd.R_slice HO666.out
     subst eo17
     obtain ⟨Ao18, co18, eo18⟩ := Kd.R_slice HO670.out
     subst eo18
     go_wp2_with (first | (go_at_call 34; (with_reducible refine (laws_sameInts.calls k _ _ t663 _ _ t667 true _ ?side1 ?side2 ?side3 ?side4 A15.out).mono ?_); (case side1 => exact pS ((Kd.R_reads' HO666.out).2.2)); (case side2 => exact (Kd.R_reads' HO666.out).2.1); (case side3 => exact pS ((Kd.R_reads' HO670.out).2.2)); (case side4 => exact (Kd.R_reads' HO670.out).2.1); rintro e w' ⟨rfl, ⟨nd, rfl⟩⟩))
     go_meet
     case rel => exact ⟨_, (!t664), pF, H', ⟨by first | omega | exact Nat.le_refl _⟩, ⟨pR HO658⟩, ⟨by (with_reducible repeat (first | apply Kd.R_alloc | apply Kd.R_drewN | apply Kd.R_drew)); exact Kd.R_mono HO660.out (fun _ hk => ⟨hk.1.1, ⟨hk.1.2, hk.2⟩⟩)⟩, ⟨by (with_reducible repeat (first | apply Kd.R_alloc | apply Kd.R_drewN | apply Kd.R_drew)); exact Kd.R_mono HO662.out (fun _ hk => ⟨hk.1.1, ⟨hk.1.2, hk.2⟩⟩)⟩, ⟨by (with_reducible repeat (first | apply Kd.R_alloc | apply Kd.R_drewN | apply Kd.R_drew)); exact Kd.R_mono HO666.out (fun _ hk => ⟨hk.1.1.2, ⟨hk.1.2, hk.2⟩⟩)⟩, ⟨by (with_reducible repeat (first | apply Kd.R_alloc | apply Kd.R_drewN | apply Kd.R_drew)); exact Kd.R_mono HO670.out (fun _ hk => ⟨hk.1.1.2, ⟨hk.1.2, hk.2⟩⟩)⟩, ⟨pB⟩⟩
    ·replace c16 := Bool.eq_false_iff.mpr c16
     subst c16
     have H1 : (laws_FnSwapNeeds.j0 k t652 t653 t654 t663 t664 t667 t668 true) = some r := by rw [if_neg (show ¬ (false = true) by decide)] at H; exact H
     clear H
     have H := H1
     clear H1
     have H' := Aside0.mk H
     clear H
     obtain ⟨Ao19, co19, eo19⟩ := Kd.R_slice HO666.out
     subst eo19
     obtain ⟨Ao20, co20, eo20⟩ := Kd.R_slice HO670.out
     subst eo20
     go_wp2_with (first | (go_at_call 34; (with_reducible refine (laws_sameInts.calls k _ _ t663 _ _ t667 false _ ?side1 ?side2 ?side3 ?side4 A15.out).mono ?_); (case side1 => exact pS ((Kd.R_reads' HO666.out).2.2)); (case side2 => exact (Kd.R_reads' HO666.out).2.1); (case side3 => exact pS ((Kd.R_reads' HO670.out).2.2)); (case side4 => exact (Kd.R_reads' HO670.out).2.1); rintro e w' ⟨rfl, ⟨nd, rfl⟩⟩))
     go_meet
     case rel => exact ⟨_, (true), pF, H', ⟨by first | omega | exact Nat.le_refl _⟩, ⟨pR HO658⟩, ⟨by (with_reducible repeat (first | apply Kd.R_alloc | apply Kd.R_drewN | apply Kd.R_drew)); exact Kd.R_mono HO660.out (fun _ hk => ⟨hk.1.1, ⟨hk.1.2, hk.2⟩⟩)⟩, ⟨by (with_reducible repeat (first | apply Kd.R_alloc | apply Kd.R_drewN | apply Kd.R_drew)); exact Kd.R_mono HO662.out (fun _ hk => ⟨hk.1.1, ⟨hk.1.2, hk.2⟩⟩)⟩, ⟨by (with_reducible repeat (first | apply Kd.R_alloc | apply Kd.R_drewN | apply Kd.R_drew)); exact Kd.R_mono HO666.out (fun _ hk => ⟨hk.1.1.2, ⟨hk.1.2, hk.2⟩⟩)⟩, ⟨by (with_reducible repeat (first | apply Kd.R_alloc | apply Kd.R_drewN | apply Kd.R_drew)); exact Kd.R_mono HO670.out (fun _ hk => ⟨hk.1.1.2, ⟨hk.1.2, hk.2⟩⟩)⟩, ⟨pB⟩⟩
  case rest =>
   clear HC6
   try clear c1
   try clear c2
   try clear c2b0
   try clear c2b1
   try clear p2
   try clear c4
   try clear c11
   try clear c14
   try clear c14b0
   try clear c14b1
   try clear c14b2
   try clear c16
   obtain ⟨kq, x50_5, rfl, HA, HJ5, HO_4, HO_5, HO_6, HO_7, HO_9, HB⟩ := hcut
   cases kq with
   | zero => exact absurd HA.out (by simp [laws_FnSwapNeeds.j0])
   | succ kj5 =>
    have H := HA.out
    clear HA
    simp only [laws_FnSwapNeeds.j0] at H
    by_cases c21 : x50_5 = true
    ·subst c21
     have H1 : (if (t664 == t668) = true then ((laws_sameInts.f kj5 t663 t667).bind fun t672 => (some t672)) else (some false)) = some r := by rw [if_pos rfl] at H; exact H
     clear H
     have H := H1
     clear H1
     by_cases c22 : (t664 == t668) = true
     ·rw [if_pos c22] at H
      have c22b0 : (t664 == t668) = true := c22
      (try (have c22b1 : decide (t664 = t668) = true := by simpa using c22))
      (try (have c22b2 : (t664 == t668) = true := by simpa using c22))
      clear c22
      replace H := Option.bind_eq_some_iff.mp H
      obtain ⟨t672, A230, H⟩ := H
      replace H : (some t672) = some r := H
      have A23 := Aside0.mk A230
      clear A230
      obtain rfl := Option.some.inj H
      obtain ⟨Ao24, co24, eo24⟩ := Kd.R_slice HO_7.out
      subst eo24
      obtain ⟨Ao25, co25, eo25⟩ := Kd.R_slice HO_9.out
      subst eo25
      go_wp2_with (first | (go_at_call 34; (with_reducible refine (laws_sameInts.calls kj5 _ _ t663 _ _ t667 t672 _ ?side1 ?side2 ?side3 ?side4 A23.out).mono ?_); (case side1 => exact pS ((Kd.R_reads' HO_7.out).2.2)); (case side2 => exact (Kd.R_reads' HO_7.out).2.1); (case side3 => exact pS ((Kd.R_reads' HO_9.out).2.2)); (case side4 => exact (Kd.R_reads' HO_9.out).2.1); rintro e w' ⟨rfl, ⟨nd, rfl⟩⟩))
      go_ret
      exact ⟨pE, pB⟩
     ·rw [if_neg c22] at H
      have c22b0 : (t664 == t668) = false := by simpa using c22
      (try (have c22b1 : decide (t664 = t668) = false := by simpa using c22))
      (try (have c22b2 : (t664 == t668) = false := by simpa using c22))
      (try (have c22b3 : ¬ (t664 = t668) := by simpa using c22))
      clear c22
      obtain rfl := Option.some.inj H
      go_wp2
      go_ret
      exact ⟨pE, pB⟩
    ·replace c21 := Bool.eq_false_iff.mpr c21
     subst c21
     have H1 : (laws_FnSwapNeeds.l0 kj5 t652 t653 t654 t663 0) = some r := by rw [if_neg (show ¬ (false = true) by decide)] at H; exact H
     clear H
     have H := H1
     clear H1
     have H' := Aside0.mk H
     clear H
     go_wp2
     go_loopg [11] kj5 (fun kq v11 w' => ∃ (x11_2 : Int), v11 = .int .i64 x11_2 ∧ Aside0 (laws_FnSwapNeeds.l0 kq t652 t653 t654 t663 x11_2 = some r) ∧ Aside0 (kq ≤ kj5) ∧ Aside0 (Kd.R k62 62 w' w.heap.size (fun _ => True) (.slice Ao9 t652.length co9) t652) ∧ Aside0 (Kd.R (Kd.int .i64) 3 w' w.heap.size (fun k_ => some k_ ≠ ((.slice Ao11 t654.length co11) : Value).ownBlock ∧ some k_ ≠ (v665 : Value).ownBlock) (.slice Ao10 t653.length co10) t653) ∧ Aside0 (Kd.R (Kd.int .i64) 3 w' w.heap.size (fun k_ => some k_ ≠ ((.slice Ao10 t653.length co10) : Value).ownBlock ∧ some k_ ≠ (v665 : Value).ownBlock) (.slice Ao11 t654.length co11) t654) ∧ Aside0 (Kd.R (Kd.int .i64) 3 w' w.heap.size (fun k_ => some k_ ≠ ((.slice Ao10 t653.length co10) : Value).ownBlock ∧ some k_ ≠ ((.slice Ao11 t654.length co11) : Value).ownBlock) v665 t663) ∧ Aside0 (Below w.heap.size w w'))
     case atStart => exact ⟨(0), pF, H', ⟨Nat.le_refl _⟩, ⟨pR HO_4⟩, ⟨by (with_reducible repeat (first | apply Kd.R_alloc | apply Kd.R_drewN | apply Kd.R_drew)); exact Kd.R_mono HO_5.out (fun _ hk => ⟨hk.1, hk.2.1⟩)⟩, ⟨by (with_reducible repeat (first | apply Kd.R_alloc | apply Kd.R_drewN | apply Kd.R_drew)); exact Kd.R_mono HO_6.out (fun _ hk => ⟨hk.1, hk.2.1⟩)⟩, ⟨by (with_reducible repeat (first | apply Kd.R_alloc | apply Kd.R_drewN | apply Kd.R_drew)); exact Kd.R_mono HO_7.out (fun _ hk => ⟨hk.1, hk.2.1⟩)⟩, ⟨pB⟩⟩
     case round =>
      clear H'
      try clear c1
      try clear c2
      try clear c2b0
      try clear c2b1
      try clear p2
      try clear c4
      try clear c11
      try clear c14
      try clear c14b0
      try clear c14b1
      try clear c14b2
      try clear c16
      try clear c21
      try clear c22
      try clear c22b0
      try clear c22b1
      try clear c22b2
      try clear p2
      obtain ⟨x11_2, rfl, HA, HK2, HO_4, HO_5, HO_6, HO_7, HB⟩ := hrel
      cases gk with
      | zero => exact absurd HA.out (by simp [laws_FnSwapNeeds.l0])
      | succ k2 =>
       have H := HA.out
       clear HA
       simp only [laws_FnSwapNeeds.l0] at H
       by_cases c26 : x11_2 < (t663.length : Int)
       ·rw [if_pos c26] at H
        have c26b0 : decide (x11_2 < (t663.length : Int)) = true := decide_eq_true c26
        clear c26
        by_cases c27 : 0 ≤ x11_2
        ·rw [if_pos c27] at H
         have c27b0 : decide (0 ≤ x11_2) = true := decide_eq_true c27
         clear c27
         by_cases c28 : x11_2 < (t652.length : Int)
         ·rw [if_pos c28] at H
          have c28b0 : decide (x11_2 < (t652.length : Int)) = true := decide_eq_true c28
          clear c28
          replace H := Option.bind_eq_some_iff.mp H
          obtain ⟨t674, A290, H⟩ := H
          replace H : (if t674 = true then (if (rd t663 x11_2) > 0 then (some false) else ((laws_hasInt.f k2 t654 ((rd_T62 t652 x11_2).f0)).bind fun t677 => (if t677 = true then (laws_FnSwapNeeds.l0 k2 t652 t653 t654 t663 (wrap64 (x11_2 + 1))) else (if x11_2 < (t653.length : Int) then (if (rd t663 x11_2) < (rd t653 x11_2) then (some false) else (laws_FnSwapNeeds.l0 k2 t652 t653 t654 t663 (wrap64 (x11_2 + 1)))) else (none))))) else ((laws_hasInt.f k2 t654 ((rd_T62 t652 x11_2).f0)).bind fun t681 => (if t681 = true then (laws_FnSwapNeeds.l0 k2 t652 t653 t654 t663 (wrap64 (x11_2 + 1))) else (if x11_2 < (t653.length : Int) then (if (rd t663 x11_2) < (rd t653 x11_2) then (some false) else (laws_FnSwapNeeds.l0 k2 t652 t653 t654 t663 (wrap64 (x11_2 + 1)))) else (none))))) = some r := H
          have A29 := Aside0.mk A290
          clear A290
          by_cases c30 : t674 = true
          ·subst c30
           have H1 : (if (rd t663 x11_2) > 0 then (some false) else ((laws_hasInt.f k2 t654 ((rd_T62 t652 x11_2).f0)).bind fun t677 => (if t677 = true then (laws_FnSwapNeeds.l0 k2 t652 t653 t654 t663 (wrap64 (x11_2 + 1))) else (if x11_2 < (t653.length : Int) then (if (rd t663 x11_2) < (rd t653 x11_2) then (some false) else (laws_FnSwapNeeds.l0 k2 t652 t653 t654 t663 (wrap64 (x11_2 + 1)))) else (none))))) = some r := by rw [if_pos rfl] at H; exact H
           clear H
           have H := H1
           clear H1
           by_cases c31 : (rd t663 x11_2) > 0
           ·rw [if_pos c31] at H
            have c31b0 : decide (0 < (rd t663 x11_2)) = true := decide_eq_true c31
            clear c31
            obtain rfl := Option.some.inj H
            obtain ⟨Ao32, co32, eo32⟩ := Kd.R_slice HO_7.out
            subst eo32
            try go_wp2
            have n0_ := Aside0.mk (Kd.R_drew HO_4.out)
            have n1_ := Aside0.mk (Kd.R_drew HO_5.out)
            have n2_ := Aside0.mk (Kd.R_drew HO_6.out)
            have n3_ := Aside0.mk (Kd.R_drew HO_7.out)
            have n4_ := Aside0.mk (below_drew1 HB.out)
            clear HO_4
            clear HO_5
            clear HO_6
            clear HO_7
            clear HB
            have HO_4 := n0_
            have HO_5 := n1_
            have HO_6 := n2_
            have HO_7 := n3_
            have HB := n4_
            clear n0_ n1_ n2_ n3_ n4_
            have p673 : 0 ≤ (x11_2 : Int) := of_decide_eq_true pA
            have q673 : x11_2 < (t652.length : Int) := of_decide_eq_true pA
            obtain ⟨ad673, e673, hx673_0, hx673_1, hx673_2, hx673_3, hx673_4, hx673_5⟩ := at_T62 (Kd.R_reads' HO_4.out).2.2 x11_2 p673 q673
            cases e673
            replace p673 := eq_true p673
            replace q673 := eq_true q673
            have p675 : 0 ≤ (x11_2 : Int) := of_decide_eq_true pA
            have q675 : x11_2 < (t663.length : Int) := of_decide_eq_true pA
            obtain ⟨ad675, e675, hx675_0⟩ := Kd.at_int (Kd.R_reads' HO_7.out).2.2 x11_2 p675 q675
            cases e675
            replace p675 := eq_true p675
            replace q675 := eq_true q675
            refine start_ (n := 35) (S := fun w' => w'.cell? (ad673.add ((x11_2).toNat * 6)) = some (.int .i64 ((rd_T62 t652 x11_2).f0)) ∧ w'.cell? ⟨(ad673.add ((x11_2).toNat * 6)).block, (ad673.add ((x11_2).toNat * 6)).off + 1, none⟩ = some (.int .i64 ((rd_T62 t652 x11_2).f1)) ∧ w'.cell? ⟨(ad673.add ((x11_2).toNat * 6)).block, (ad673.add ((x11_2).toNat * 6)).off + 2, none⟩ = some (.int .i64 ((rd_T62 t652 x11_2).f2)) ∧ w'.cell? ⟨(ad673.add ((x11_2).toNat * 6)).block, (ad673.add ((x11_2).toNat * 6)).off + 3, none⟩ = some (.int .i64 ((rd_T62 t652 x11_2).f3)) ∧ w'.cell? ⟨(ad673.add ((x11_2).toNat * 6)).block, (ad673.add ((x11_2).toNat * 6)).off + 4, none⟩ = some (.int .i64 ((rd_T62 t652 x11_2).f4)) ∧ w'.cell? ⟨(ad673.add ((x11_2).toNat * 6)).block, (ad673.add ((x11_2).toNat * 6)).off + 5, none⟩ = some (.int .i64 ((rd_T62 t652 x11_2).f5)) ∧ w'.cell? (ad675.add (x11_2).toNat) = some (.int .i64 (rd t663 x11_2))) (ds := []) #[false, false, false, false, false, false, false, false, false, false, false, false, false, false, false, false, false, false, false, false, false, false, false, false, false, false, false, false, false, false, false, false, false, false, false] pL rfl rfl ⟨hx673_0, hx673_1, hx673_2, hx673_3, hx673_4, hx673_5, hx675_0⟩ (fun hHeld => ?_); refine with_tabW laws_FnSwapNeeds.tab11 laws_FnSwapNeeds.bits11 (fun HT_ HW_ => ?_)
            generalize wr.drew = w33 at HO_4 HO_5 HO_6 HO_7 HB hx673_0 hx673_1 hx673_2 hx673_3 hx673_4 hx673_5 hx675_0 hHeld ⊢
            refine pure_ (i := 0) (N := some 65) (v := ?_) (a' := ?_) #[true, false, false, false, false, false, false, false, false, false, false, false, false, false, false, false, false, false, false, false, false, false, false, false, false, false, false, false, false, false, false, false, false, false, false] rfl rfl (any_of HT_.out pL) (fun _ _ _ h => h) (Or.inl ⟨by rfl, ?_⟩) ?_ ?_
            rotate_left
            ·intro w'
             go_simp
             with_reducible rfl
            rotate_left
            ·exact pP
            refine pure_ (i := 1) (N := some 66) (v := ?_) (a' := ?_) #[true, true, false, false, false, false, false, false, false, false, false, false, false, false, false, false, false, false, false, false, false, false, false, false, false, false, false, false, false, false, false, false, false, false, false] rfl rfl (any_of HT_.out pL) (fun _ _ _ h => h) (Or.inl ⟨by rfl, ?_⟩) ?_ ?_
            rotate_left
            ·intro w'
             go_simp
             with_reducible rfl
            rotate_left
            ·exact pP
            refine pure_ (i := 2) (N := some 67) (v := ?_) (a' := ?_) #[true, true, true, false, false, false, false, false, false, false, false, false, false, false, false, false, false, false, false, false, false, false, false, false, false, false, false, false, false, false, false, false, false, false, false] rfl rfl (any_of HT_.out pL) (fun _ _ _ h => h) (Or.inl ⟨by rfl, ?_⟩) ?_ ?_
            rotate_left
            ·intro w'
             go_simp
             with_reducible rfl
            rotate_left
            ·exact pP
            refine pure_ (i := 3) (N := some 68) (v := ?_) (a' := ?_) #[true, true, true, true, false, false, false, false, false, false, false, false, false, false, false, false, false, false, false, false, false, false, false, false, false, false, false, false, false, false, false, false, false, false, false] rfl rfl (any_of HT_.out pL) (fun _ _ _ h => h) (Or.inl ⟨by rfl, ?_⟩) ?_ ?_
            rotate_left
            ·intro w'
             go_simp
             with_reducible rfl
            rotate_left
            ·exact pP
            refine pure_ (i := 4) (N := some 69) (v := ?_) (a' := ?_) #[true, true, true, true, true, false, false, false, false, false, false, false, false, false, false, false, false, false, false, false, false, false, false, false, false, false, false, false, false, false, false, false, false, false, false] rfl rfl (any_of HT_.out pL) (fun _ _ _ h => h) (Or.inl ⟨by rfl, ?_⟩) ?_ ?_
            rotate_left
            ·intro w'
             go_simp
             with_reducible rfl
            rotate_left
            ·exact pP
            refine take_ (i := 5) (N := some 70) (v := ?_) (a' := ?_) #[true, true, true, true, true, true, false, false, false, false, false, false, false, false, false, false, false, false, false, false, false, false, false, false, false, false, false, false, false, false, false, false, false, false, false] rfl rfl (take_ofW HT_.out HW_.out pL) (fun _ _ _ h => h) (Or.inl ⟨by rfl, ?_⟩) hHeld ?_ ?_
            rotate_left
            ·rintro w' ⟨s0, s1, s2, s3, s4, s5, s6⟩
             go_simp
             with_reducible rfl
            rotate_left
            ·exact pP
            refine one_ (i := 6) (N := some 71) #[true, true, true, true, true, true, true, false, false, false, false, false, false, false, false, false, false, false, false, false, false, false, false, false, false, false, false, false, false, false, false, false, false, false, false] rfl rfl (one_of HT_.out pL) (by decide) (fun K hK => ?_)
            refine goes_ Try.func35 pL rfl #[.slice Ao11 t654.length co11, .int .i64 ((rd_T62 t652 x11_2).f0)] (by rfl) rfl rfl pM ?_
            with_reducible refine (laws_hasInt.calls k2 _ _ t654 ((rd_T62 t652 x11_2).f0) true _ ?side1 ?side2 A29.out).mono ?_
            (case side1 => exact pS ((Kd.R_reads' HO_6.out).2.2))
            (case side2 => exact (Kd.R_reads' HO_6.out).2.1)
            rintro e w' ⟨rfl, ⟨nd, rfl⟩⟩
            refine ⟨_, rfl, ?_⟩
            refine hK.out _ _ ⟨hHeld.1, hHeld.2.1, hHeld.2.2.1, hHeld.2.2.2.1, hHeld.2.2.2.2.1, hHeld.2.2.2.2.2.1, hHeld.2.2.2.2.2.2⟩ (fun hHeld => ?_)
            clear hK K
            refine norm_ (a' := ?_) ?_ ?_
            rotate_left
            ·show Act.put _ (some 71) _ = _
             exact pP
            refine pure_ (i := 7) (N := some 72) (v := ?_) (a' := ?_) #[true, true, true, true, true, true, true, true, false, false, false, false, false, false, false, false, false, false, false, false, false, false, false, false, false, false, false, false, false, false, false, false, false, false, false] rfl rfl (any_of HT_.out pL) (fun _ _ _ h => h) (Or.inl ⟨by rfl, ?_⟩) ?_ ?_
            rotate_left
            ·intro w'
             go_simp
             with_reducible rfl
            rotate_left
            ·exact pP
            refine pure_ (i := 8) (N := some 73) (v := ?_) (a' := ?_) #[true, true, true, true, true, true, true, true, true, false, false, false, false, false, false, false, false, false, false, false, false, false, false, false, false, false, false, false, false, false, false, false, false, false, false] rfl rfl (any_of HT_.out pL) (fun _ _ _ h => h) (Or.inl ⟨by rfl, ?_⟩) ?_ ?_
            rotate_left
            ·intro w'
             go_simp
             with_reducible rfl
            rotate_left
            ·exact pP
            refine pure_ (i := 9) (N := some 74) (v := ?_) (a' := ?_) #[true, true, true, true, true, true, true, true, true, true, false, false, false, false, false, false, false, false, false, false, false, false, false, false, false, false, false, false, false, false, false, false, false, false, false] rfl rfl (any_of HT_.out pL) (fun _ _ _ h => h) (Or.inl ⟨by rfl, ?_⟩) ?_ ?_
            rotate_left
            ·intro w'
             go_simp
             with_reducible rfl
            rotate_left
            ·exact pP
            refine pure_ (i := 10) (N := some 75) (v := ?_) (a' := ?_) #[true, true, true, true, true, true, true, true, true, true, true, false, false, false, false, false, false, false, false, false, false, false, false, false, false, false, false, false, false, false, false, false, false, false, false] rfl rfl (any_of HT_.out pL) (fun _ _ _ h => h) (Or.inl ⟨by rfl, ?_⟩) ?_ ?_
            rotate_left
            ·intro w'
             go_simp
             with_reducible rfl
            rotate_left
            ·exact pP
            refine take_ (i := 11) (N := some 76) (v := ?_) (a' := ?_) #[true, true, true, true, true, true, true, true, true, true, true, true, false, false, false, false, false, false, false, false, false, false, false, false, false, false, false, false, false, false, false, false, false, false, false] rfl rfl (take_ofW HT_.out HW_.out pL) (fun _ _ _ h => h) (Or.inl ⟨by rfl, ?_⟩) hHeld ?_ ?_
            rotate_left
            ·rintro w' ⟨s0, s1, s2, s3, s4, s5, s6⟩
             go_simp
             with_reducible rfl
            rotate_left
            ·exact pP
            refine pure_ (i := 12) (N := some 77) (v := ?_) (a' := ?_) #[true, true, true, true, true, true, true, true, true, true, true, true, true, false, false, false, false, false, false, false, false, false, false, false, false, false, false, false, false, false, false, false, false, false, false] rfl rfl (any_of HT_.out pL) (fun _ _ _ h => h) (Or.inl ⟨by rfl, ?_⟩) ?_ ?_
            rotate_left
            ·intro w'
             go_simp
             with_reducible rfl
            rotate_left
            ·exact pP
            refine pure_ (i := 13) (N := some 78) (v := ?_) (a' := ?_) #[true, true, true, true, true, true, true, true, true, true, true, true, true, true, false, false, false, false, false, false, false, false, false, false, false, false, false, false, false, false, false, false, false, false, false] rfl rfl (any_of HT_.out pL) (fun _ _ _ h => h) (Or.inl ⟨by rfl, ?_⟩) ?_ ?_
            rotate_left
            ·intro w'
             go_simp
             with_reducible rfl
            rotate_left
            ·exact pP
            refine pure_ (i := 14) (N := some 79) (v := ?_) (a' := ?_) #[true, true, true, true, true, true, true, true, true, true, true, true, true, true, true, false, false, false, false, false, false, false, false, false, false, false, false, false, false, false, false, false, false, false, false] rfl rfl (any_of HT_.out pL) (fun _ _ _ h => h) (Or.inl ⟨by rfl, ?_⟩) ?_ ?_
            rotate_left
            ·intro w'
             go_simp
             with_reducible rfl
            rotate_left
            ·exact pP
            refine pure_ (i := 15) (N := some 80) (v := undef) (a' := ?_) #[true, true, true, true, true, true, true, true, true, true, true, true, true, true, true, true, false, false, false, false, false, false, false, false, false, false, false, false, false, false, false, false, false, false, false] rfl rfl (any_of HT_.out pL) (fun _ _ _ h => h) (Or.inr ⟨by rfl, rfl⟩) ?_ ?_
            rotate_left
            ·exact pP
            refine pure_ (i := 16) (N := some 81) (v := undef) (a' := ?_) #[true, true, true, true, true, true, true, true, true, true, true, true, true, true, true, true, true, false, false, false, false, false, false, false, false, false, false, false, false, false, false, false, false, false, false] rfl rfl (any_of HT_.out pL) (fun _ _ _ h => h) (Or.inr ⟨by rfl, rfl⟩) ?_ ?_
            rotate_left
            ·exact pP
            refine pure_ (i := 17) (N := some 82) (v := undef) (a' := ?_) #[true, true, true, true, true, true, true, true, true, true, true, true, true, true, true, true, true, true, false, false, false, false, false, false, false, false, false, false, false, false, false, false, false, false, false] rfl rfl (any_of HT_.out pL) (fun _ _ _ h => h) (Or.inr ⟨by rfl, rfl⟩) ?_ ?_
            rotate_left
            ·exact pP
            refine pure_ (i := 18) (N := some 83) (v := undef) (a' := ?_) #[true, true, true, true, true, true, true, true, true, true, true, true, true, true, true, true, true, true, true, false, false, false, false, false, false, false, false, false, false, false, false, false, false, false, false] rfl rfl (any_of HT_.out pL) (fun _ _ _ h => h) (Or.inr ⟨by rfl, rfl⟩) ?_ ?_
            rotate_left
            ·exact pP
            refine pure_ (i := 19) (N := some 84) (v := undef) (a' := ?_) #[true, true, true, true, true, true, true, true, true, true, true, true, true, true, true, true, true, true, true, true, false, false, false, false, false, false, false, false, false, false, false, false, false, false, false] rfl rfl (any_of HT_.out pL) (fun _ _ _ h => h) (Or.inr ⟨by rfl, rfl⟩) ?_ ?_
            rotate_left
            ·exact pP
            refine pure_ (i := 20) (N := some 85) (v := undef) (a' := ?_) #[true, true, true, true, true, true, true, true, true, true, true, true, true, true, true, true, true, true, true, true, true, false, false, false, false, false, false, false, false, false, false, false, false, false, false] rfl rfl (any_of HT_.out pL) (fun _ _ _ h => h) (Or.inr ⟨by rfl, rfl⟩) ?_ ?_
            rotate_left
            ·exact pP
            refine pure_ (i := 21) (N := some 86) (v := undef) (a' := ?_) #[true, true, true, true, true, true, true, true, true, true, true, true, true, true, true, true, true, true, true, true, true, true, false, false, false, false, false, false, false, false, false, false, false, false, false] rfl rfl (any_of HT_.out pL) (fun _ _ _ h => h) (Or.inr ⟨by rfl, rfl⟩) ?_ ?_
            rotate_left
            ·exact pP
            refine pure_ (i := 22) (N := some 87) (v := undef) (a' := ?_) #[true, true, true, true, true, true, true, true, true, true, true, true, true, true, true, true, true, true, true, true, true, true, true, false, false, false, false, false, false, false, false, false, false, false, false] rfl rfl (any_of HT_.out pL) (fun _ _ _ h => h) (Or.inr ⟨by rfl, rfl⟩) ?_ ?_
            rotate_left
            ·exact pP
            refine pure_ (i := 23) (N := some 88) (v := undef) (a' := ?_) #[true, true, true, true, true, true, true, true, true, true, true, true, true, true, true, true, true, true, true, true, true, true, true, true, false, false, false, false, false, false, false, false, false, false, false] rfl rfl (any_of HT_.out pL) (fun _ _ _ h => h) (Or.inr ⟨by rfl, rfl⟩) ?_ ?_
            rotate_left
            ·exact pP
            refine pure_ (i := 24) (N := some 89) (v := undef) (a' := ?_) #[true, true, true, true, true, true, true, true, true, true, true, true, true, true, true, true, true, true, true, true, true, true, true, true, true, false, false, false, false, false, false, false, false, false, false] rfl rfl (any_of HT_.out pL) (fun _ _ _ h => h) (Or.inr ⟨by rfl, rfl⟩) ?_ ?_
            rotate_left
            ·exact pP
            refine pure_ (i := 25) (N := some 90) (v := undef) (a' := ?_) #[true, true, true, true, true, true, true, true, true, true, true, true, true, true, true, true, true, true, true, true, true, true, true, true, true, true, false, false, false, false, false, false, false, false, false] rfl rfl (any_of HT_.out pL) (fun _ _ _ h => h) (Or.inr ⟨by rfl, rfl⟩) ?_ ?_
            rotate_left
            ·exact pP
            refine pure_ (i := 26) (N := some 91) (v := undef) (a' := ?_) #[true, true, true, true, true, true, true, true, true, true, true, true, true, true, true, true, true, true, true, true, true, true, true, true, true, true, true, false, false, false, false, false, false, false, false] rfl rfl (any_of HT_.out pL) (fun _ _ _ h => h) (Or.inr ⟨by rfl, rfl⟩) ?_ ?_
            rotate_left
            ·exact pP
            refine pure_ (i := 27) (N := some 92) (v := undef) (a' := ?_) #[true, true, true, true, true, true, true, true, true, true, true, true, true, true, true, true, true, true, true, true, true, true, true, true, true, true, true, true, false, false, false, false, false, false, false] rfl rfl (any_of HT_.out pL) (fun _ _ _ h => h) (Or.inr ⟨by rfl, rfl⟩) ?_ ?_
            rotate_left
            ·exact pP
            refine pure_ (i := 28) (N := some 93) (v := undef) (a' := ?_) #[true, true, true, true, true, true, true, true, true, true, true, true, true, true, true, true, true, true, true, true, true, true, true, true, true, true, true, true, true, false, false, false, false, false, false] rfl rfl (any_of HT_.out pL) (fun _ _ _ h => h) (Or.inr ⟨by rfl, rfl⟩) ?_ ?_
            rotate_left
            ·exact pP
            refine pure_ (i := 29) (N := some 94) (v := undef) (a' := ?_) #[true, true, true, true, true, true, true, true, true, true, true, true, true, true, true, true, true, true, true, true, true, true, true, true, true, true, true, true, true, true, false, false, false, false, false] rfl rfl (any_of HT_.out pL) (fun _ _ _ h => h) (Or.inr ⟨by rfl, rfl⟩) ?_ ?_
            rotate_left
            ·exact pP
            refine pure_ (i := 30) (N := some 95) (v := undef) (a' := ?_) #[true, true, true, true, true, true, true, true, true, true, true, true, true, true, true, true, true, true, true, true, true, true, true, true, true, true, true, true, true, true, true, false, false, false, false] rfl rfl (any_of HT_.out pL) (fun _ _ _ h => h) (Or.inr ⟨by rfl, rfl⟩) ?_ ?_
            rotate_left
            ·exact pP
            refine pure_ (i := 31) (N := some 96) (v := undef) (a' := ?_) #[true, true, true, true, true, true, true, true, true, true, true, true, true, true, true, true, true, true, true, true, true, true, true, true, true, true, true, true, true, true, true, true, false, false, false] rfl rfl (any_of HT_.out pL) (fun _ _ _ h => h) (Or.inr ⟨by rfl, rfl⟩) ?_ ?_
            rotate_left
            ·exact pP
            refine pure_ (i := 32) (N := some 97) (v := undef) (a' := ?_) #[true, true, true, true, true, true, true, true, true, true, true, true, true, true, true, true, true, true, true, true, true, true, true, true, true, true, true, true, true, true, true, true, true, false, false] rfl rfl (any_of HT_.out pL) (fun _ _ _ h => h) (Or.inr ⟨by rfl, rfl⟩) ?_ ?_
            rotate_left
            ·exact pP
            refine pure_ (i := 33) (N := some 98) (v := undef) (a' := ?_) #[true, true, true, true, true, true, true, true, true, true, true, true, true, true, true, true, true, true, true, true, true, true, true, true, true, true, true, true, true, true, true, true, true, true, false] rfl rfl (any_of HT_.out pL) (fun _ _ _ h => h) (Or.inr ⟨by rfl, rfl⟩) ?_ ?_
            rotate_left
            ·exact pP
            refine pure_ (i := 34) (N := some 99) (v := ?_) (a' := ?_) #[true, true, true, true, true, true, true, true, true, true, true, true, true, true, true, true, true, true, true, true, true, true, true, true, true, true, true, true, true, true, true, true, true, true, true] rfl rfl (any_of HT_.out pL) (fun _ _ _ h => h) (Or.inl ⟨by rfl, ?_⟩) ?_ ?_
            rotate_left
            ·intro w'
             go_simp
             with_reducible rfl
            rotate_left
            ·exact pP
            refine done_ (done_of HT_.out pL) ?_
            try go_wp2
            go_ret
            exact ⟨pE, pB⟩
           ·rw [if_neg c31] at H
            have c31b0 : decide (0 < (rd t663 x11_2)) = false := decide_eq_false c31
            clear c31
            replace H := Option.bind_eq_some_iff.mp H
            obtain ⟨t677, A340, H⟩ := H
            replace H : (if t677 = true then (laws_FnSwapNeeds.l0 k2 t652 t653 t654 t663 (wrap64 (x11_2 + 1))) else (if x11_2 < (t653.length : Int) then (if (rd t663 x11_2) < (rd t653 x11_2) then (some false) else (laws_FnSwapNeeds.l0 k2 t652 t653 t654 t663 (wrap64 (x11_2 + 1)))) else (none))) = some r := H
            have A34 := Aside0.mk A340
            clear A340
            by_cases c35 : t677 = true
            ·subst c35
             have H1 : (laws_FnSwapNeeds.l0 k2 t652 t653 t654 t663 (wrap64 (x11_2 + 1))) = some r := by rw [if_pos rfl] at H; exact H
             clear H
             have H := H1
             clear H1
             have H' := Aside0.mk H
             clear H
             obtain ⟨Ao36, co36, eo36⟩ := Kd.R_slice HO_7.out
             subst eo36
             try go_wp2
             have n0_ := Aside0.mk (Kd.R_drew HO_4.out)
             have n1_ := Aside0.mk (Kd.R_drew HO_5.out)
             have n2_ := Aside0.mk (Kd.R_drew HO_6.out)
             have n3_ := Aside0.mk (Kd.R_drew HO_7.out)
             have n4_ := Aside0.mk (below_drew1 HB.out)
             clear HO_4
             clear HO_5
             clear HO_6
             clear HO_7
             clear HB
             have HO_4 := n0_
             have HO_5 := n1_
             have HO_6 := n2_
             have HO_7 := n3_
             have HB := n4_
             clear n0_ n1_ n2_ n3_ n4_
             have p673 : 0 ≤ (x11_2 : Int) := of_decide_eq_true pA
             have q673 : x11_2 < (t652.length : Int) := of_decide_eq_true pA
             obtain ⟨ad673, e673, hx673_0, hx673_1, hx673_2, hx673_3, hx673_4, hx673_5⟩ := at_T62 (Kd.R_reads' HO_4.out).2.2 x11_2 p673 q673
             cases e673
             replace p673 := eq_true p673
             replace q673 := eq_true q673
             have p675 : 0 ≤ (x11_2 : Int) := of_decide_eq_true pA
             have q675 : x11_2 < (t663.length : Int) := of_decide_eq_true pA
             obtain ⟨ad675, e675, hx675_0⟩ := Kd.at_int (Kd.R_reads' HO_7.out).2.2 x11_2 p675 q675
             cases e675
             replace p675 := eq_true p675
             replace q675 := eq_true q675
             have p676 : 0 ≤ (x11_2 : Int) := of_decide_eq_true pA
             have q676 : x11_2 < (t652.length : Int) := of_decide_eq_true pA
             obtain ⟨ad676, e676, hx676_0, hx676_1, hx676_2, hx676_3, hx676_4, hx676_5⟩ := at_T62 (Kd.R_reads' HO_4.out).2.2 x11_2 p676 q676
             obtain rfl : ad673 = ad676 := (by injection e676)
             replace p676 := eq_true p676
             replace q676 := eq_true q676
             refine start_ (n := 35) (S := fun w' => w'.cell? (ad673.add ((x11_2).toNat * 6)) = some (.int .i64 ((rd_T62 t652 x11_2).f0)) ∧ w'.cell? ⟨(ad673.add ((x11_2).toNat * 6)).block, (ad673.add ((x11_2).toNat * 6)).off + 1, none⟩ = some (.int .i64 ((rd_T62 t652 x11_2).f1)) ∧ w'.cell? ⟨(ad673.add ((x11_2).toNat * 6)).block, (ad673.add ((x11_2).toNat * 6)).off + 2, none⟩ = some (.int .i64 ((rd_T62 t652 x11_2).f2)) ∧ w'.cell? ⟨(ad673.add ((x11_2).toNat * 6)).block, (ad673.add ((x11_2).toNat * 6)).off + 3, none⟩ = some (.int .i64 ((rd_T62 t652 x11_2).f3)) ∧ w'.cell? ⟨(ad673.add ((x11_2).toNat * 6)).block, (ad673.add ((x11_2).toNat * 6)).off + 4, none⟩ = some (.int .i64 ((rd_T62 t652 x11_2).f4)) ∧ w'.cell? ⟨(ad673.add ((x11_2).toNat * 6)).block, (ad673.add ((x11_2).toNat * 6)).off + 5, none⟩ = some (.int .i64 ((rd_T62 t652 x11_2).f5)) ∧ w'.cell? (ad675.add (x11_2).toNat) = some (.int .i64 (rd t663 x11_2)) ∧ w'.cell? (ad673.add ((x11_2).toNat * 6)) = some (.int .i64 ((rd_T62 t652 x11_2).f0)) ∧ w'.cell? ⟨(ad673.add ((x11_2).toNat * 6)).block, (ad673.add ((x11_2).toNat * 6)).off + 1, none⟩ = some (.int .i64 ((rd_T62 t652 x11_2).f1)) ∧ w'.cell? ⟨(ad673.add ((x11_2).toNat * 6)).block, (ad673.add ((x11_2).toNat * 6)).off + 2, none⟩ = some (.int .i64 ((rd_T62 t652 x11_2).f2)) ∧ w'.cell? ⟨(ad673.add ((x11_2).toNat * 6)).block, (ad673.add ((x11_2).toNat * 6)).off + 3, none⟩ = some (.int .i64 ((rd_T62 t652 x11_2).f3)) ∧ w'.cell? ⟨(ad673.add ((x11_2).toNat * 6)).block, (ad673.add ((x11_2).toNat * 6)).off + 4, none⟩ = some (.int .i64 ((rd_T62 t652 x11_2).f4)) ∧ w'.cell? ⟨(ad673.add ((x11_2).toNat * 6)).block, (ad673.add ((x11_2).toNat * 6)).off + 5, none⟩ = some (.int .i64 ((rd_T62 t652 x11_2).f5))) (ds := []) #[false, false, false, false, false, false, false, false, false, false, false, false, false, false, false, false, false, false, false, false, false, false, false, false, false, false, false, false, false, false, false, false, false, false, false] pL rfl rfl ⟨hx673_0, hx673_1, hx673_2, hx673_3, hx673_4, hx673_5, hx675_0, hx676_0, hx676_1, hx676_2, hx676_3, hx676_4, hx676_5⟩ (fun hHeld => ?_); refine with_tabW laws_FnSwapNeeds.tab11 laws_FnSwapNeeds.bits11 (fun HT_ HW_ => ?_)
             generalize wr.drew = w37 at HO_4 HO_5 HO_6 HO_7 HB hx673_0 hx673_1 hx673_2 hx673_3 hx673_4 hx673_5 hx675_0 hx676_0 hx676_1 hx676_2 hx676_3 hx676_4 hx676_5 hHeld ⊢
             refine pure_ (i := 0) (N := some 65) (v := ?_) (a' := ?_) #[true, false, false, false, false, false, false, false, false, false, false, false, false, false, false, false, false, false, false, false, false, false, false, false, false, false, false, false, false, false, false, false, false, false, false] rfl rfl (any_of HT_.out pL) (fun _ _ _ h => h) (Or.inl ⟨by rfl, ?_⟩) ?_ ?_
             rotate_left
             ·intro w'
              go_simp
              with_reducible rfl
             rotate_left
             ·exact pP
             refine pure_ (i := 1) (N := some 66) (v := ?_) (a' := ?_) #[true, true, false, false, false, false, false, false, false, false, false, false, false, false, false, false, false, false, false, false, false, false, false, false, false, false, false, false, false, false, false, false, false, false, false] rfl rfl (any_of HT_.out pL) (fun _ _ _ h => h) (Or.inl ⟨by rfl, ?_⟩) ?_ ?_
             rotate_left
             ·intro w'
              go_simp
              with_reducible rfl
             rotate_left
             ·exact pP
             refine pure_ (i := 2) (N := some 67) (v := ?_) (a' := ?_) #[true, true, true, false, false, false, false, false, false, false, false, false, false, false, false, false, false, false, false, false, false, false, false, false, false, false, false, false, false, false, false, false, false, false, false] rfl rfl (any_of HT_.out pL) (fun _ _ _ h => h) (Or.inl ⟨by rfl, ?_⟩) ?_ ?_
             rotate_left
             ·intro w'
              go_simp
              with_reducible rfl
             rotate_left
             ·exact pP
             refine pure_ (i := 3) (N := some 68) (v := ?_) (a' := ?_) #[true, true, true, true, false, false, false, false, false, false, false, false, false, false, false, false, false, false, false, false, false, false, false, false, false, false, false, false, false, false, false, false, false, false, false] rfl rfl (any_of HT_.out pL) (fun _ _ _ h => h) (Or.inl ⟨by rfl, ?_⟩) ?_ ?_
             rotate_left
             ·intro w'
              go_simp
              with_reducible rfl
             rotate_left
             ·exact pP
             refine pure_ (i := 4) (N := some 69) (v := ?_) (a' := ?_) #[true, true, true, true, true, false, false, false, false, false, false, false, false, false, false, false, false, false, false, false, false, false, false, false, false, false, false, false, false, false, false, false, false, false, false] rfl rfl (any_of HT_.out pL) (fun _ _ _ h => h) (Or.inl ⟨by rfl, ?_⟩) ?_ ?_
             rotate_left
             ·intro w'
              go_simp
              with_reducible rfl
             rotate_left
             ·exact pP
             refine take_ (i := 5) (N := some 70) (v := ?_) (a' := ?_) #[true, true, true, true, true, true, false, false, false, false, false, false, false, false, false, false, false, false, false, false, false, false, false, false, false, false, false, false, false, false, false, false, false, false, false] rfl rfl (take_ofW HT_.out HW_.out pL) (fun _ _ _ h => h) (Or.inl ⟨by rfl, ?_⟩) hHeld ?_ ?_
             rotate_left
             ·rintro w' ⟨s0, s1, s2, s3, s4, s5, s6, s7, s8, s9, s10, s11, s12⟩
              go_simp
              with_reducible rfl
             rotate_left
             ·exact pP
             refine one_ (i := 6) (N := some 71) #[true, true, true, true, true, true, true, false, false, false, false, false, false, false, false, false, false, false, false, false, false, false, false, false, false, false, false, false, false, false, false, false, false, false, false] rfl rfl (one_of HT_.out pL) (by decide) (fun K hK => ?_)
             refine goes_ Try.func35 pL rfl #[.slice Ao11 t654.length co11, .int .i64 ((rd_T62 t652 x11_2).f0)] (by rfl) rfl rfl pM ?_
             with_reducible refine (laws_hasInt.calls k2 _ _ t654 ((rd_T62 t652 x11_2).f0) true _ ?side1 ?side2 A29.out).mono ?_
             (case side1 => exact pS ((Kd.R_reads' HO_6.out).2.2))
             (case side2 => exact (Kd.R_reads' HO_6.out).2.1)
             rintro e w' ⟨rfl, ⟨nd, rfl⟩⟩
             refine ⟨_, rfl, ?_⟩
             refine hK.out _ _ ⟨hHeld.1, hHeld.2.1, hHeld.2.2.1, hHeld.2.2.2.1, hHeld.2.2.2.2.1, hHeld.2.2.2.2.2.1, hHeld.2.2.2.2.2.2.1, hHeld.2.2.2.2.2.2.2.1, hHeld.2.2.2.2.2.2.2.2.1, hHeld.2.2.2.2.2.2.2.2.2.1, hHeld.2.2.2.2.2.2.2.2.2.2.1, hHeld.2.2.2.2.2.2.2.2.2.2.2.1, hHeld.2.2.2.2.2.2.2.2.2.2.2.2⟩ (fun hHeld => ?_)
             clear hK K
             refine norm_ (a' := ?_) ?_ ?_
             rotate_left
             ·show Act.put _ (some 71) _ = _
              exact pP
             refine pure_ (i := 7) (N := some 72) (v := ?_) (a' := ?_) #[true, true, true, true, true, true, true, true, false, false, false, false, false, false, false, false, false, false, false, false, false, false, false, false, false, false, false, false, false, false, false, false, false, false, false] rfl rfl (any_of HT_.out pL) (fun _ _ _ h => h) (Or.inl ⟨by rfl, ?_⟩) ?_ ?_
             rotate_left
             ·intro w'
              go_simp
              with_reducible rfl
             rotate_left
             ·exact pP
             refine pure_ (i := 8) (N := some 73) (v := ?_) (a' := ?_) #[true, true, true, true, true, true, true, true, true, false, false, false, false, false, false, false, false, false, false, false, false, false, false, false, false, false, false, false, false, false, false, false, false, false, false] rfl rfl (any_of HT_.out pL) (fun _ _ _ h => h) (Or.inl ⟨by rfl, ?_⟩) ?_ ?_
             rotate_left
             ·intro w'
              go_simp
              with_reducible rfl
             rotate_left
             ·exact pP
             refine pure_ (i := 9) (N := some 74) (v := ?_) (a' := ?_) #[true, true, true, true, true, true, true, true, true, true, false, false, false, false, false, false, false, false, false, false, false, false, false, false, false, false, false, false, false, false, false, false, false, false, false] rfl rfl (any_of HT_.out pL) (fun _ _ _ h => h) (Or.inl ⟨by rfl, ?_⟩) ?_ ?_
             rotate_left
             ·intro w'
              go_simp
              with_reducible rfl
             rotate_left
             ·exact pP
             refine pure_ (i := 10) (N := some 75) (v := ?_) (a' := ?_) #[true, true, true, true, true, true, true, true, true, true, true, false, false, false, false, false, false, false, false, false, false, false, false, false, false, false, false, false, false, false, false, false, false, false, false] rfl rfl (any_of HT_.out pL) (fun _ _ _ h => h) (Or.inl ⟨by rfl, ?_⟩) ?_ ?_
             rotate_left
             ·intro w'
              go_simp
              with_reducible rfl
             rotate_left
             ·exact pP
             refine take_ (i := 11) (N := some 76) (v := ?_) (a' := ?_) #[true, true, true, true, true, true, true, true, true, true, true, true, false, false, false, false, false, false, false, false, false, false, false, false, false, false, false, false, false, false, false, false, false, false, false] rfl rfl (take_ofW HT_.out HW_.out pL) (fun _ _ _ h => h) (Or.inl ⟨by rfl, ?_⟩) hHeld ?_ ?_
             rotate_left
             ·rintro w' ⟨s0, s1, s2, s3, s4, s5, s6, s7, s8, s9, s10, s11, s12⟩
              go_simp
              with_reducible rfl
             rotate_left
             ·exact pP
             refine pure_ (i := 12) (N := some 77) (v := ?_) (a' := ?_) #[true, true, true, true, true, true, true, true, true, true, true, true, true, false, false, false, false, false, false, false, false, false, false, false, false, false, false, false, false, false, false, false, false, false, false] rfl rfl (any_of HT_.out pL) (fun _ _ _ h => h) (Or.inl ⟨by rfl, ?_⟩) ?_ ?_
             rotate_left
             ·intro w'
              go_simp
              with_reducible rfl
             rotate_left
             ·exact pP
             refine pure_ (i := 13) (N := some 78) (v := ?_) (a' := ?_) #[true, true, true, true, true, true, true, true, true, true, true, true, true, true, false, false, false, false, false, false, false, false, false, false, false, false, false, false, false, false, false, false, false, false, false] rfl rfl (any_of HT_.out pL) (fun _ _ _ h => h) (Or.inl ⟨by rfl, ?_⟩) ?_ ?_
             rotate_left
             ·intro w'
              go_simp
              with_reducible rfl
             rotate_left
             ·exact pP
             refine pure_ (i := 14) (N := some 79) (v := ?_) (a' := ?_) #[true, true, true, true, true, true, true, true, true, true, true, true, true, true, true, false, false, false, false, false, false, false, false, false, false, false, false, false, false, false, false, false, false, false, false] rfl rfl (any_of HT_.out pL) (fun _ _ _ h => h) (Or.inl ⟨by rfl, ?_⟩) ?_ ?_
             rotate_left
             ·intro w'
              go_simp
              with_reducible rfl
             rotate_left
             ·exact pP
             refine pure_ (i := 15) (N := some 80) (v := ?_) (a' := ?_) #[true, true, true, true, true, true, true, true, true, true, true, true, true, true, true, true, false, false, false, false, false, false, false, false, false, false, false, false, false, false, false, false, false, false, false] rfl rfl (any_of HT_.out pL) (fun _ _ _ h => h) (Or.inl ⟨by rfl, ?_⟩) ?_ ?_
             rotate_left
             ·intro w'
              go_simp
              with_reducible rfl
             rotate_left
             ·exact pP
             refine pure_ (i := 16) (N := some 81) (v := ?_) (a' := ?_) #[true, true, true, true, true, true, true, true, true, true, true, true, true, true, true, true, true, false, false, false, false, false, false, false, false, false, false, false, false, false, false, false, false, false, false] rfl rfl (any_of HT_.out pL) (fun _ _ _ h => h) (Or.inl ⟨by rfl, ?_⟩) ?_ ?_
             rotate_left
             ·intro w'
              go_simp
              with_reducible rfl
             rotate_left
             ·exact pP
             refine pure_ (i := 17) (N := some 82) (v := ?_) (a' := ?_) #[true, true, true, true, true, true, true, true, true, true, true, true, true, true, true, true, true, true, false, false, false, false, false, false, false, false, false, false, false, false, false, false, false, false, false] rfl rfl (any_of HT_.out pL) (fun _ _ _ h => h) (Or.inl ⟨by rfl, ?_⟩) ?_ ?_
             rotate_left
             ·intro w'
              go_simp
              with_reducible rfl
             rotate_left
             ·exact pP
             refine pure_ (i := 18) (N := some 83) (v := ?_) (a' := ?_) #[true, true, true, true, true, true, true, true, true, true, true, true, true, true, true, true, true, true, true, false, false, false, false, false, false, false, false, false, false, false, false, false, false, false, false] rfl rfl (any_of HT_.out pL) (fun _ _ _ h => h) (Or.inl ⟨by rfl, ?_⟩) ?_ ?_
             rotate_left
             ·intro w'
              go_simp
              with_reducible rfl
             rotate_left
             ·exact pP
             refine pure_ (i := 19) (N := some 84) (v := ?_) (a' := ?_) #[true, true, true, true, true, true, true, true, true, true, true, true, true, true, true, true, true, true, true, true, false, false, false, false, false, false, false, false, false, false, false, false, false, false, false] rfl rfl (any_of HT_.out pL) (fun _ _ _ h => h) (Or.inl ⟨by rfl, ?_⟩) ?_ ?_
             rotate_left
             ·intro w'
              go_simp
              with_reducible rfl
             rotate_left
             ·exact pP
             refine take_ (i := 20) (N := some 85) (v := ?_) (a' := ?_) #[true, true, true, true, true, true, true, true, true, true, true, true, true, true, true, true, true, true, true, true, true, false, false, false, false, false, false, false, false, false, false, false, false, false, false] rfl rfl (take_ofW HT_.out HW_.out pL) (fun _ _ _ h => h) (Or.inl ⟨by rfl, ?_⟩) hHeld ?_ ?_
             rotate_left
             ·rintro w' ⟨s0, s1, s2, s3, s4, s5, s6, s7, s8, s9, s10, s11, s12⟩
              go_simp
              with_reducible rfl
             rotate_left
             ·exact pP
             refine one_ (i := 21) (N := some 86) #[true, true, true, true, true, true, true, true, true, true, true, true, true, true, true, true, true, true, true, true, true, true, false, false, false, false, false, false, false, false, false, false, false, false, false] rfl rfl (one_of HT_.out pL) (by decide) (fun K hK => ?_)
             refine goes_ Try.func35 pL rfl #[.slice Ao11 t654.length co11, .int .i64 ((rd_T62 t652 x11_2).f0)] (by rfl) rfl rfl pM ?_
             with_reducible refine (laws_hasInt.calls k2 _ _ t654 ((rd_T62 t652 x11_2).f0) true _ ?side1 ?side2 A34.out).mono ?_
             (case side1 => exact pS ((Kd.R_reads' HO_6.out).2.2))
             (case side2 => exact (Kd.R_reads' HO_6.out).2.1)
             rintro e w' ⟨rfl, ⟨nd, rfl⟩⟩
             refine ⟨_, rfl, ?_⟩
             refine hK.out _ _ ⟨hHeld.1, hHeld.2.1, hHeld.2.2.1, hHeld.2.2.2.1, hHeld.2.2.2.2.1, hHeld.2.2.2.2.2.1, hHeld.2.2.2.2.2.2.1, hHeld.2.2.2.2.2.2.2.1, hHeld.2.2.2.2.2.2.2.2.1, hHeld.2.2.2.2.2.2.2.2.2.1, hHeld.2.2.2.2.2.2.2.2.2.2.1, hHeld.2.2.2.2.2.2.2.2.2.2.2.1, hHeld.2.2.2.2.2.2.2.2.2.2.2.2⟩ (fun hHeld => ?_)
             clear hK K
             refine norm_ (a' := ?_) ?_ ?_
             rotate_left
             ·show Act.put _ (some 86) _ = _
              exact pP
             refine pure_ (i := 22) (N := some 87) (v := ?_) (a' := ?_) #[true, true, true, true, true, true, true, true, true, true, true, true, true, true, true, true, true, true, true, true, true, true, true, false, false, false, false, false, false, false, false, false, false, false, false] rfl rfl (any_of HT_.out pL) (fun _ _ _ h => h) (Or.inl ⟨by rfl, ?_⟩) ?_ ?_
             rotate_left
             ·intro w'
              go_simp
              with_reducible rfl
             rotate_left
             ·exact pP
             refine pure_ (i := 23) (N := some 88) (v := ?_) (a' := ?_) #[true, true, true, true, true, true, true, true, true, true, true, true, true, true, true, true, true, true, true, true, true, true, true, true, false, false, false, false, false, false, false, false, false, false, false] rfl rfl (any_of HT_.out pL) (fun _ _ _ h => h) (Or.inl ⟨by rfl, ?_⟩) ?_ ?_
             rotate_left
             ·intro w'
              go_simp
              with_reducible rfl
             rotate_left
             ·exact pP
             refine pure_ (i := 24) (N := some 89) (v := undef) (a' := ?_) #[true, true, true, true, true, true, true, true, true, true, true, true, true, true, true, true, true, true, true, true, true, true, true, true, true, false, false, false, false, false, false, false, false, false, false] rfl rfl (any_of HT_.out pL) (fun _ _ _ h => h) (Or.inr ⟨by rfl, rfl⟩) ?_ ?_
             rotate_left
             ·exact pP
             refine pure_ (i := 25) (N := some 90) (v := undef) (a' := ?_) #[true, true, true, true, true, true, true, true, true, true, true, true, true, true, true, true, true, true, true, true, true, true, true, true, true, true, false, false, false, false, false, false, false, false, false] rfl rfl (any_of HT_.out pL) (fun _ _ _ h => h) (Or.inr ⟨by rfl, rfl⟩) ?_ ?_
             rotate_left
             ·exact pP
             refine pure_ (i := 26) (N := some 91) (v := undef) (a' := ?_) #[true, true, true, true, true, true, true, true, true, true, true, true, true, true, true, true, true, true, true, true, true, true, true, true, true, true, true, false, false, false, false, false, false, false, false] rfl rfl (any_of HT_.out pL) (fun _ _ _ h => h) (Or.inr ⟨by rfl, rfl⟩) ?_ ?_
             rotate_left
             ·exact pP
             refine pure_ (i := 27) (N := some 92) (v := undef) (a' := ?_) #[true, true, true, true, true, true, true, true, true, true, true, true, true, true, true, true, true, true, true, true, true, true, true, true, true, true, true, true, false, false, false, false, false, false, false] rfl rfl (any_of HT_.out pL) (fun _ _ _ h => h) (Or.inr ⟨by rfl, rfl⟩) ?_ ?_
             rotate_left
             ·exact pP
             refine pure_ (i := 28) (N := some 93) (v := undef) (a' := ?_) #[true, true, true, true, true, true, true, true, true, true, true, true, true, true, true, true, true, true, true, true, true, true, true, true, true, true, true, true, true, false, false, false, false, false, false] rfl rfl (any_of HT_.out pL) (fun _ _ _ h => h) (Or.inr ⟨by rfl, rfl⟩) ?_ ?_
             rotate_left
             ·exact pP
             refine pure_ (i := 29) (N := some 94) (v := undef) (a' := ?_) #[true, true, true, true, true, true, true, true, true, true, true, true, true, true, true, true, true, true, true, true, true, true, true, true, true, true, true, true, true, true, false, false, false, false, false] rfl rfl (any_of HT_.out pL) (fun _ _ _ h => h) (Or.inr ⟨by rfl, rfl⟩) ?_ ?_
             rotate_left
             ·exact pP
             refine pure_ (i := 30) (N := some 95) (v := undef) (a' := ?_) #[true, true, true, true, true, true, true, true, true, true, true, true, true, true, true, true, true, true, true, true, true, true, true, true, true, true, true, true, true, true, true, false, false, false, false] rfl rfl (any_of HT_.out pL) (fun _ _ _ h => h) (Or.inr ⟨by rfl, rfl⟩) ?_ ?_
             rotate_left
             ·exact pP
             refine pure_ (i := 31) (N := some 96) (v := undef) (a' := ?_) #[true, true, true, true, true, true, true, true, true, true, true, true, true, true, true, true, true, true, true, true, true, true, true, true, true, true, true, true, true, true, true, true, false, false, false] rfl rfl (any_of HT_.out pL) (fun _ _ _ h => h) (Or.inr ⟨by rfl, rfl⟩) ?_ ?_
             rotate_left
             ·exact pP
             refine pure_ (i := 32) (N := some 97) (v := undef) (a' := ?_) #[true, true, true, true, true, true, true, true, true, true, true, true, true, true, true, true, true, true, true, true, true, true, true, true, true, true, true, true, true, true, true, true, true, false, false] rfl rfl (any_of HT_.out pL) (fun _ _ _ h => h) (Or.inr ⟨by rfl, rfl⟩) ?_ ?_
             rotate_left
             ·exact pP
             refine pure_ (i := 33) (N := some 98) (v := ?_) (a' := ?_) #[true, true, true, true, true, true, true, true, true, true, true, true, true, true, true, true, true, true, true, true, true, true, true, true, true, true, true, true, true, true, true, true, true, true, false] rfl rfl (any_of HT_.out pL) (fun _ _ _ h => h) (Or.inl ⟨by rfl, ?_⟩) ?_ ?_
             rotate_left
             ·intro w'
              go_simp
              with_reducible rfl
             rotate_left
             ·exact pP
             refine pure_ (i := 34) (N := some 99) (v := ?_) (a' := ?_) #[true, true, true, true, true, true, true, true, true, true, true, true, true, true, true, true, true, true, true, true, true, true, true, true, true, true, true, true, true, true, true, true, true, true, true] rfl rfl (any_of HT_.out pL) (fun _ _ _ h => h) (Or.inl ⟨by rfl, ?_⟩) ?_ ?_
             rotate_left
             ·intro w'
              go_simp
              with_reducible rfl
             rotate_left
             ·exact pP
             refine done_ (done_of HT_.out pL) ?_
             try go_wp2
             go_roundg k2
             case measure => have := HJ5.out; have := HK2.out; omega
             case rel => exact ⟨(wrap64 (x11_2 + 1)), pF, H', ⟨by have := HJ5.out; have := HK2.out; omega⟩, ⟨pR HO_4⟩, ⟨pR HO_5⟩, ⟨pR HO_6⟩, ⟨pR HO_7⟩, ⟨pB⟩⟩
            ·replace c35 := Bool.eq_false_iff.mpr c35
             subst c35
             have H1 : (if x11_2 < (t653.length : Int) then (if (rd t663 x11_2) < (rd t653 x11_2) then (some false) else (laws_FnSwapNeeds.l0 k2 t652 t653 t654 t663 (wrap64 (x11_2 + 1)))) else (none)) = some r := by rw [if_neg (show ¬ (false = true) by decide)] at H; exact H
             clear H
             have H := H1
             clear H1
             by_cases c38 : x11_2 < (t653.length : Int)
             ·rw [if_pos c38] at H
              have c38b0 : decide (x11_2 < (t653.length : Int)) = true := decide_eq_true c38
              clear c38
              by_cases c39 : (rd t663 x11_2) < (rd t653 x11_2)
              ·rw [if_pos c39] at H
               have c39b0 : decide ((rd t663 x11_2) < (rd t653 x11_2)) = true := decide_eq_true c39
               clear c39
               obtain rfl := Option.some.inj H
               obtain ⟨Ao40, co40, eo40⟩ := Kd.R_slice HO_7.out
               subst eo40
               try go_wp2
               have n0_ := Aside0.mk (Kd.R_drew HO_4.out)
               have n1_ := Aside0.mk (Kd.R_drew HO_5.out)
               have n2_ := Aside0.mk (Kd.R_drew HO_6.out)
               have n3_ := Aside0.mk (Kd.R_drew HO_7.out)
               have n4_ := Aside0.mk (below_drew1 HB.out)
               clear HO_4
               clear HO_5
               clear HO_6
               clear HO_7
               clear HB
               have HO_4 := n0_
               have HO_5 := n1_
               have HO_6 := n2_
               have HO_7 := n3_
               have HB := n4_
               clear n0_ n1_ n2_ n3_ n4_
               have p673 : 0 ≤ (x11_2 : Int) := of_decide_eq_true pA
               have q673 : x11_2 < (t652.length : Int) := of_decide_eq_true pA
               obtain ⟨ad673, e673, hx673_0, hx673_1, hx673_2, hx673_3, hx673_4, hx673_5⟩ := at_T62 (Kd.R_reads' HO_4.out).2.2 x11_2 p673 q673
               cases e673
               replace p673 := eq_true p673
               replace q673 := eq_true q673
               have p675 : 0 ≤ (x11_2 : Int) := of_decide_eq_true pA
               have q675 : x11_2 < (t663.length : Int) := of_decide_eq_true pA
               obtain ⟨ad675, e675, hx675_0⟩ := Kd.at_int (Kd.R_reads' HO_7.out).2.2 x11_2 p675 q675
               cases e675
               replace p675 := eq_true p675
               replace q675 := eq_true q675
               have p676 : 0 ≤ (x11_2 : Int) := of_decide_eq_true pA
               have q676 : x11_2 < (t652.length : Int) := of_decide_eq_true pA
               obtain ⟨ad676, e676, hx676_0, hx676_1, hx676_2, hx676_3, hx676_4, hx676_5⟩ := at_T62 (Kd.R_reads' HO_4.out).2.2 x11_2 p676 q676
               obtain rfl : ad673 = ad676 := (by injection e676)
               replace p676 := eq_true p676
               replace q676 := eq_true q676
               have p678 : 0 ≤ (x11_2 : Int) := of_decide_eq_true pA
               have q678 : x11_2 < (t663.length : Int) := of_decide_eq_true pA
               obtain ⟨ad678, e678, hx678_0⟩ := Kd.at_int (Kd.R_reads' HO_7.out).2.2 x11_2 p678 q678
               obtain rfl : ad675 = ad678 := (by injection e678)
               replace p678 := eq_true p678
               replace q678 := eq_true q678
               have p679 : 0 ≤ (x11_2 : Int) := of_decide_eq_true pA
               have q679 : x11_2 < (t653.length : Int) := of_decide_eq_true pA
               obtain ⟨ad679, e679, hx679_0⟩ := Kd.at_int (Kd.R_reads' HO_5.out).2.2 x11_2 p679 q679
               cases e679
               replace p679 := eq_true p679
               replace q679 := eq_true q679
               refine start_ (n := 35) (S := fun w' => w'.cell? (ad673.add ((x11_2).toNat * 6)) = some (.int .i64 ((rd_T62 t652 x11_2).f0)) ∧ w'.cell? ⟨(ad673.add ((x11_2).toNat * 6)).block, (ad673.add ((x11_2).toNat * 6)).off + 1, none⟩ = some (.int .i64 ((rd_T62 t652 x11_2).f1)) ∧ w'.cell? ⟨(ad673.add ((x11_2).toNat * 6)).block, (ad673.add ((x11_2).toNat * 6)).off + 2, none⟩ = some (.int .i64 ((rd_T62 t652 x11_2).f2)) ∧ w'.cell? ⟨(ad673.add ((x11_2).toNat * 6)).block, (ad673.add ((x11_2).toNat * 6)).off + 3, none⟩ = some (.int .i64 ((rd_T62 t652 x11_2).f3)) ∧ w'.cell? ⟨(ad673.add ((x11_2).toNat * 6)).block, (ad673.add ((x11_2).toNat * 6)).off + 4, none⟩ = some (.int .i64 ((rd_T62 t652 x11_2).f4)) ∧ w'.cell? ⟨(ad673.add ((x11_2).toNat * 6)).block, (ad673.add ((x11_2).toNat * 6)).off + 5, none⟩ = some (.int .i64 ((rd_T62 t652 x11_2).f5)) ∧ w'.cell? (ad675.add (x11_2).toNat) = some (.int .i64 (rd t663 x11_2)) ∧ w'.cell? (ad673.add ((x11_2).toNat * 6)) = some (.int .i64 ((rd_T62 t652 x11_2).f0)) ∧ w'.cell? ⟨(ad673.add ((x11_2).toNat * 6)).block, (ad673.add ((x11_2).toNat * 6)).off + 1, none⟩ = some (.int .i64 ((rd_T62 t652 x11_2).f1)) ∧ w'.cell? ⟨(ad673.add ((x11_2).toNat * 6)).block, (ad673.add ((x11_2).toNat * 6)).off + 2, none⟩ = some (.int .i64 ((rd_T62 t652 x11_2).f2)) ∧ w'.cell? ⟨(ad673.add ((x11_2).toNat * 6)).block, (ad673.add ((x11_2).toNat * 6)).off + 3, none⟩ = some (.int .i64 ((rd_T62 t652 x11_2).f3)) ∧ w'.cell? ⟨(ad673.add ((x11_2).toNat * 6)).block, (ad673.add ((x11_2).toNat * 6)).off + 4, none⟩ = some (.int .i64 ((rd_T62 t652 x11_2).f4)) ∧ w'.cell? ⟨(ad673.add ((x11_2).toNat * 6)).block, (ad673.add ((x11_2).toNat * 6)).off + 5, none⟩ = some (.int .i64 ((rd_T62 t652 x11_2).f5)) ∧ w'.cell? (ad675.add (x11_2).toNat) = some (.int .i64 (rd t663 x11_2)) ∧ w'.cell? (ad679.add (x11_2).toNat) = some (.int .i64 (rd t653 x11_2))) (ds := []) #[false, false, false, false, false, false, false, false, false, false, false, false, false, false, false, false, false, false, false, false, false, false, false, false, false, false, false, false, false, false, false, false, false, false, false] pL rfl rfl ⟨hx673_0, hx673_1, hx673_2, hx673_3, hx673_4, hx673_5, hx675_0, hx676_0, hx676_1, hx676_2, hx676_3, hx676_4, hx676_5, hx678_0, hx679_0⟩ (fun hHeld => ?_); refine with_tabW laws_FnSwapNeeds.tab11 laws_FnSwapNeeds.bits11 (fun HT_ HW_ => ?_)
               generalize wr.drew = w41 at HO_4 HO_5 HO_6 HO_7 HB hx673_0 hx673_1 hx673_2 hx673_3 hx673_4 hx673_5 hx675_0 hx676_0 hx676_1 hx676_2 hx676_3 hx676_4 hx676_5 hx678_0 hx679_0 hHeld ⊢
               refine pure_ (i := 0) (N := some 65) (v := ?_) (a' := ?_) #[true, false, false, false, false, false, false, false, false, false, false, false, false, false, false, false, false, false, false, false, false, false, false, false, false, false, false, false, false, false, false, false, false, false, false] rfl rfl (any_of HT_.out pL) (fun _ _ _ h => h) (Or.inl ⟨by rfl, ?_⟩) ?_ ?_
               rotate_left
               ·intro w'
                go_simp
                with_reducible rfl
               rotate_left
               ·exact pP
               refine pure_ (i := 1) (N := some 66) (v := ?_) (a' := ?_) #[true, true, false, false, false, false, false, false, false, false, false, false, false, false, false, false, false, false, false, false, false, false, false, false, false, false, false, false, false, false, false, false, false, false, false] rfl rfl (any_of HT_.out pL) (fun _ _ _ h => h) (Or.inl ⟨by rfl, ?_⟩) ?_ ?_
               rotate_left
               ·intro w'
                go_simp
                with_reducible rfl
               rotate_left
               ·exact pP
               refine pure_ (i := 2) (N := some 67) (v := ?_) (a' := ?_) #[true, true, true, false, false, false, false, false, false, false, false, false, false, false, false, false, false, false, false, false, false, false, false, false, false, false, false, false, false, false, false, false, false, false, false] rfl rfl (any_of HT_.out pL) (fun _ _ _ h => h) (Or.inl ⟨by rfl, ?_⟩) ?_ ?_
               rotate_left
               ·intro w'
                go_simp
                with_reducible rfl
               rotate_left
               ·exact pP
               refine pure_ (i := 3) (N := some 68) (v := ?_) (a' := ?_) #[true, true, true, true, false, false, false, false, false, false, false, false, false, false, false, false, false, false, false, false, false, false, false, false, false, false, false, false, false, false, false, false, false, false, false] rfl rfl (any_of HT_.out pL) (fun _ _ _ h => h) (Or.inl ⟨by rfl, ?_⟩) ?_ ?_
               rotate_left
               ·intro w'
                go_simp
                with_reducible rfl
               rotate_left
               ·exact pP
               refine pure_ (i := 4) (N := some 69) (v := ?_) (a' := ?_) #[true, true, true, true, true, false, false, false, false, false, false, false, false, false, false, false, false, false, false, false, false, false, false, false, false, false, false, false, false, false, false, false, false, false, false] rfl rfl (any_of HT_.out pL) (fun _ _ _ h => h) (Or.inl ⟨by rfl, ?_⟩) ?_ ?_
               rotate_left
               ·intro w'
                go_simp
                with_reducible rfl
               rotate_left
               ·exact pP
               refine take_ (i := 5) (N := some 70) (v := ?_) (a' := ?_) #[true, true, true, true, true, true, false, false, false, false, false, false, false, false, false, false, false, false, false, false, false, false, false, false, false, false, false, false, false, false, false, false, false, false, false] rfl rfl (take_ofW HT_.out HW_.out pL) (fun _ _ _ h => h) (Or.inl ⟨by rfl, ?_⟩) hHeld ?_ ?_
               rotate_left
               ·rintro w' ⟨s0, s1, s2, s3, s4, s5, s6, s7, s8, s9, s10, s11, s12, s13, s14⟩
                go_simp
                with_reducible rfl
               rotate_left
               ·exact pP
               refine one_ (i := 6) (N := some 71) #[true, true, true, true, true, true, true, false, false, false, false, false, false, false, false, false, false, false, false, false, false, false, false, false, false, false, false, false, false, false, false, false, false, false, false] rfl rfl (one_of HT_.out pL) (by decide) (fun K hK => ?_)
               refine goes_ Try.func35 pL rfl #[.slice Ao11 t654.length co11, .int .i64 ((rd_T62 t652 x11_2).f0)] (by rfl) rfl rfl pM ?_
               with_reducible refine (laws_hasInt.calls k2 _ _ t654 ((rd_T62 t652 x11_2).f0) true _ ?side1 ?side2 A29.out).mono ?_
               (case side1 => exact pS ((Kd.R_reads' HO_6.out).2.2))
               (case side2 => exact (Kd.R_reads' HO_6.out).2.1)
               rintro e w' ⟨rfl, ⟨nd, rfl⟩⟩
               refine ⟨_, rfl, ?_⟩
               refine hK.out _ _ ⟨hHeld.1, hHeld.2.1, hHeld.2.2.1, hHeld.2.2.2.1, hHeld.2.2.2.2.1, hHeld.2.2.2.2.2.1, hHeld.2.2.2.2.2.2.1, hHeld.2.2.2.2.2.2.2.1, hHeld.2.2.2.2.2.2.2.2.1, hHeld.2.2.2.2.2.2.2.2.2.1, hHeld.2.2.2.2.2.2.2.2.2.2.1, hHeld.2.2.2.2.2.2.2.2.2.2.2.1, hHeld.2.2.2.2.2.2.2.2.2.2.2.2.1, hHeld.2.2.2.2.2.2.2.2.2.2.2.2.2.1, hHeld.2.2.2.2.2.2.2.2.2.2.2.2.2.2⟩ (fun hHeld => ?_)
               clear hK K
               refine norm_ (a' := ?_) ?_ ?_
               rotate_left
               ·show Act.put _ (some 71) _ = _
                exact pP
               refine pure_ (i := 7) (N := some 72) (v := ?_) (a' := ?_) #[true, true, true, true, true, true, true, true, false, false, false, false, false, false, false, false, false, false, false, false, false, false, false, false, false, false, false, false, false, false, false, false, false, false, false] rfl rfl (any_of HT_.out pL) (fun _ _ _ h => h) (Or.inl ⟨by rfl, ?_⟩) ?_ ?_
               rotate_left
               ·intro w'
                go_simp
                with_reducible rfl
               rotate_left
               ·exact pP
               refine pure_ (i := 8) (N := some 73) (v := ?_) (a' := ?_) #[true, true, true, true, true, true, true, true, true, false, false, false, false, false, false, false, false, false, false, false, false, false, false, false, false, false, false, false, false, false, false, false, false, false, false] rfl rfl (any_of HT_.out pL) (fun _ _ _ h => h) (Or.inl ⟨by rfl, ?_⟩) ?_ ?_
               rotate_left
               ·intro w'
                go_simp
                with_reducible rfl
               rotate_left
               ·exact pP
               refine pure_ (i := 9) (N := some 74) (v := ?_) (a' := ?_) #[true, true, true, true, true, true, true, true, true, true, false, false, false, false, false, false, false, false, false, false, false, false, false, false, false, false, false, false, false, false, false, false, false, false, false] rfl rfl (any_of HT_.out pL) (fun _ _ _ h => h) (Or.inl ⟨by rfl, ?_⟩) ?_ ?_
               rotate_left
               ·intro w'
                go_simp
                with_reducible rfl
               rotate_left
               ·exact pP
               refine pure_ (i := 10) (N := some 75) (v := ?_) (a' := ?_) #[true, true, true, true, true, true, true, true, true, true, true, false, false, false, false, false, false, false, false, false, false, false, false, false, false, false, false, false, false, false, false, false, false, false, false] rfl rfl (any_of HT_.out pL) (fun _ _ _ h => h) (Or.inl ⟨by rfl, ?_⟩) ?_ ?_
               rotate_left
               ·intro w'
                go_simp
                with_reducible rfl
               rotate_left
               ·exact pP
               refine take_ (i := 11) (N := some 76) (v := ?_) (a' := ?_) #[true, true, true, true, true, true, true, true, true, true, true, true, false, false, false, false, false, false, false, false, false, false, false, false, false, false, false, false, false, false, false, false, false, false, false] rfl rfl (take_ofW HT_.out HW_.out pL) (fun _ _ _ h => h) (Or.inl ⟨by rfl, ?_⟩) hHeld ?_ ?_
               rotate_left
               ·rintro w' ⟨s0, s1, s2, s3, s4, s5, s6, s7, s8, s9, s10, s11, s12, s13, s14⟩
                go_simp
                with_reducible rfl
               rotate_left
               ·exact pP
               refine pure_ (i := 12) (N := some 77) (v := ?_) (a' := ?_) #[true, true, true, true, true, true, true, true, true, true, true, true, true, false, false, false, false, false, false, false, false, false, false, false, false, false, false, false, false, false, false, false, false, false, false] rfl rfl (any_of HT_.out pL) (fun _ _ _ h => h) (Or.inl ⟨by rfl, ?_⟩) ?_ ?_
               rotate_left
               ·intro w'
                go_simp
                with_reducible rfl
               rotate_left
               ·exact pP
               refine pure_ (i := 13) (N := some 78) (v := ?_) (a' := ?_) #[true, true, true, true, true, true, true, true, true, true, true, true, true, true, false, false, false, false, false, false, false, false, false, false, false, false, false, false, false, false, false, false, false, false, false] rfl rfl (any_of HT_.out pL) (fun _ _ _ h => h) (Or.inl ⟨by rfl, ?_⟩) ?_ ?_
               rotate_left
               ·intro w'
                go_simp
                with_reducible rfl
               rotate_left
               ·exact pP
               refine pure_ (i := 14) (N := some 79) (v := ?_) (a' := ?_) #[true, true, true, true, true, true, true, true, true, true, true, true, true, true, true, false, false, false, false, false, false, false, false, false, false, false, false, false, false, false, false, false, false, false, false] rfl rfl (any_of HT_.out pL) (fun _ _ _ h => h) (Or.inl ⟨by rfl, ?_⟩) ?_ ?_
               rotate_left
               ·intro w'
                go_simp
                with_reducible rfl
               rotate_left
               ·exact pP
               refine pure_ (i := 15) (N := some 80) (v := ?_) (a' := ?_) #[true, true, true, true, true, true, true, true, true, true, true, true, true, true, true, true, false, false, false, false, false, false, false, false, false, false, false, false, false, false, false, false, false, false, false] rfl rfl (any_of HT_.out pL) (fun _ _ _ h => h) (Or.inl ⟨by rfl, ?_⟩) ?_ ?_
               rotate_left
               ·intro w'
                go_simp
                with_reducible rfl
               rotate_left
               ·exact pP
               refine pure_ (i := 16) (N := some 81) (v := ?_) (a' := ?_) #[true, true, true, true, true, true, true, true, true, true, true, true, true, true, true, true, true, false, false, false, false, false, false, false, false, false, false, false, false, false, false, false, false, false, false] rfl rfl (any_of HT_.out pL) (fun _ _ _ h => h) (Or.inl ⟨by rfl, ?_⟩) ?_ ?_
               rotate_left
               ·intro w'
                go_simp
                with_reducible rfl
               rotate_left
               ·exact pP
               refine pure_ (i := 17) (N := some 82) (v := ?_) (a' := ?_) #[true, true, true, true, true, true, true, true, true, true, true, true, true, true, true, true, true, true, false, false, false, false, false, false, false, false, false, false, false, false, false, false, false, false, false] rfl rfl (any_of HT_.out pL) (fun _ _ _ h => h) (Or.inl ⟨by rfl, ?_⟩) ?_ ?_
               rotate_left
               ·intro w'
                go_simp
                with_reducible rfl
               rotate_left
               ·exact pP
               refine pure_ (i := 18) (N := some 83) (v := ?_) (a' := ?_) #[true, true, true, true, true, true, true, true, true, true, true, true, true, true, true, true, true, true, true, false, false, false, false, false, false, false, false, false, false, false, false, false, false, false, false] rfl rfl (any_of HT_.out pL) (fun _ _ _ h => h) (Or.inl ⟨by rfl, ?_⟩) ?_ ?_
               rotate_left
               ·intro w'
                go_simp
                with_reducible rfl
               rotate_left
               ·exact pP
               refine pure_ (i := 19) (N := some 84) (v := ?_) (a' := ?_) #[true, true, true, true, true, true, true, true, true, true, true, true, true, true, true, true, true, true, true, true, false, false, false, false, false, false, false, false, false, false, false, false, false, false, false] rfl rfl (any_of HT_.out pL) (fun _ _ _ h => h) (Or.inl ⟨by rfl, ?_⟩) ?_ ?_
               rotate_left
               ·intro w'
                go_simp
                with_reducible rfl
               rotate_left
               ·exact pP
               refine take_ (i := 20) (N := some 85) (v := ?_) (a' := ?_) #[true, true, true, true, true, true, true, true, true, true, true, true, true, true, true, true, true, true, true, true, true, false, false, false, false, false, false, false, false, false, false, false, false, false, false] rfl rfl (take_ofW HT_.out HW_.out pL) (fun _ _ _ h => h) (Or.inl ⟨by rfl, ?_⟩) hHeld ?_ ?_
               rotate_left
               ·rintro w' ⟨s0, s1, s2, s3, s4, s5, s6, s7, s8, s9, s10, s11, s12, s13, s14⟩
                go_simp
                with_reducible rfl
               rotate_left
               ·exact pP
               refine one_ (i := 21) (N := some 86) #[true, true, true, true, true, true, true, true, true, true, true, true, true, true, true, true, true, true, true, true, true, true, false, false, false, false, false, false, false, false, false, false, false, false, false] rfl rfl (one_of HT_.out pL) (by decide) (fun K hK => ?_)
               refine goes_ Try.func35 pL rfl #[.slice Ao11 t654.length co11, .int .i64 ((rd_T62 t652 x11_2).f0)] (by rfl) rfl rfl pM ?_
               with_reducible refine (laws_hasInt.calls k2 _ _ t654 ((rd_T62 t652 x11_2).f0) false _ ?side1 ?side2 A34.out).mono ?_
               (case side1 => exact pS ((Kd.R_reads' HO_6.out).2.2))
               (case side2 => exact (Kd.R_reads' HO_6.out).2.1)
               rintro e w' ⟨rfl, ⟨nd, rfl⟩⟩
               refine ⟨_, rfl, ?_⟩
               refine hK.out _ _ ⟨hHeld.1, hHeld.2.1, hHeld.2.2.1, hHeld.2.2.2.1, hHeld.2.2.2.2.1, hHeld.2.2.2.2.2.1, hHeld.2.2.2.2.2.2.1, hHeld.2.2.2.2.2.2.2.1, hHeld.2.2.2.2.2.2.2.2.1, hHeld.2.2.2.2.2.2.2.2.2.1, hHeld.2.2.2.2.2.2.2.2.2.2.1, hHeld.2.2.2.2.2.2.2.2.2.2.2.1, hHeld.2.2.2.2.2.2.2.2.2.2.2.2.1, hHeld.2.2.2.2.2.2.2.2.2.2.2.2.2.1, hHeld.2.2.2.2.2.2.2.2.2.2.2.2.2.2⟩ (fun hHeld => ?_)
               clear hK K
               refine norm_ (a' := ?_) ?_ ?_
               rotate_left
               ·show Act.put _ (some 86) _ = _
                exact pP
               refine pure_ (i := 22) (N := some 87) (v := ?_) (a' := ?_) #[true, true, true, true, true, true, true, true, true, true, true, true, true, true, true, true, true, true, true, true, true, true, true, false, false, false, false, false, false, false, false, false, false, false, false] rfl rfl (any_of HT_.out pL) (fun _ _ _ h => h) (Or.inl ⟨by rfl, ?_⟩) ?_ ?_
               rotate_left
               ·intro w'
                go_simp
                with_reducible rfl
               rotate_left
               ·exact pP
               refine pure_ (i := 23) (N := some 88) (v := ?_) (a' := ?_) #[true, true, true, true, true, true, true, true, true, true, true, true, true, true, true, true, true, true, true, true, true, true, true, true, false, false, false, false, false, false, false, false, false, false, false] rfl rfl (any_of HT_.out pL) (fun _ _ _ h => h) (Or.inl ⟨by rfl, ?_⟩) ?_ ?_
               rotate_left
               ·intro w'
                go_simp
                with_reducible rfl
               rotate_left
               ·exact pP
               refine pure_ (i := 24) (N := some 89) (v := ?_) (a' := ?_) #[true, true, true, true, true, true, true, true, true, true, true, true, true, true, true, true, true, true, true, true, true, true, true, true, true, false, false, false, false, false, false, false, false, false, false] rfl rfl (any_of HT_.out pL) (fun _ _ _ h => h) (Or.inl ⟨by rfl, ?_⟩) ?_ ?_
               rotate_left
               ·intro w'
                go_simp
                with_reducible rfl
               rotate_left
               ·exact pP
               refine pure_ (i := 25) (N := some 90) (v := ?_) (a' := ?_) #[true, true, true, true, true, true, true, true, true, true, true, true, true, true, true, true, true, true, true, true, true, true, true, true, true, true, false, false, false, false, false, false, false, false, false] rfl rfl (any_of HT_.out pL) (fun _ _ _ h => h) (Or.inl ⟨by rfl, ?_⟩) ?_ ?_
               rotate_left
               ·intro w'
                go_simp
                with_reducible rfl
               rotate_left
               ·exact pP
               refine pure_ (i := 26) (N := some 91) (v := ?_) (a' := ?_) #[true, true, true, true, true, true, true, true, true, true, true, true, true, true, true, true, true, true, true, true, true, true, true, true, true, true, true, false, false, false, false, false, false, false, false] rfl rfl (any_of HT_.out pL) (fun _ _ _ h => h) (Or.inl ⟨by rfl, ?_⟩) ?_ ?_
               rotate_left
               ·intro w'
                go_simp
                with_reducible rfl
               rotate_left
               ·exact pP
               refine pure_ (i := 28) (N := some 93) (v := ?_) (a' := ?_) #[true, true, true, true, true, true, true, true, true, true, true, true, true, true, true, true, true, true, true, true, true, true, true, true, true, true, true, false, true, false, false, false, false, false, false] rfl rfl (any_of HT_.out pL) (fun _ _ _ h => h) (Or.inl ⟨by rfl, ?_⟩) ?_ ?_
               rotate_left
               ·intro w'
                go_simp
                with_reducible rfl
               rotate_left
               ·exact pP
               refine pure_ (i := 29) (N := some 94) (v := ?_) (a' := ?_) #[true, true, true, true, true, true, true, true, true, true, true, true, true, true, true, true, true, true, true, true, true, true, true, true, true, true, true, false, true, true, false, false, false, false, false] rfl rfl (any_of HT_.out pL) (fun _ _ _ h => h) (Or.inl ⟨by rfl, ?_⟩) ?_ ?_
               rotate_left
               ·intro w'
                go_simp
                with_reducible rfl
               rotate_left
               ·exact pP
               refine pure_ (i := 30) (N := some 95) (v := ?_) (a' := ?_) #[true, true, true, true, true, true, true, true, true, true, true, true, true, true, true, true, true, true, true, true, true, true, true, true, true, true, true, false, true, true, true, false, false, false, false] rfl rfl (any_of HT_.out pL) (fun _ _ _ h => h) (Or.inl ⟨by rfl, ?_⟩) ?_ ?_
               rotate_left
               ·intro w'
                go_simp
                with_reducible rfl
               rotate_left
               ·exact pP
               refine take_ (i := 27) (N := some 92) (v := ?_) (a' := ?_) #[true, true, true, true, true, true, true, true, true, true, true, true, true, true, true, true, true, true, true, true, true, true, true, true, true, true, true, true, true, true, true, false, false, false, false] rfl rfl (take_ofW HT_.out HW_.out pL) (fun _ _ _ h => h) (Or.inl ⟨by rfl, ?_⟩) hHeld ?_ ?_
               rotate_left
               ·rintro w' ⟨s0, s1, s2, s3, s4, s5, s6, s7, s8, s9, s10, s11, s12, s13, s14⟩
                go_simp
                with_reducible rfl
               rotate_left
               ·exact pP
               refine take_ (i := 31) (N := some 96) (v := ?_) (a' := ?_) #[true, true, true, true, true, true, true, true, true, true, true, true, true, true, true, true, true, true, true, true, true, true, true, true, true, true, true, true, true, true, true, true, false, false, false] rfl rfl (take_ofW HT_.out HW_.out pL) (fun _ _ _ h => h) (Or.inl ⟨by rfl, ?_⟩) hHeld ?_ ?_
               rotate_left
               ·rintro w' ⟨s0, s1, s2, s3, s4, s5, s6, s7, s8, s9, s10, s11, s12, s13, s14⟩
                go_simp
                with_reducible rfl
               rotate_left
               ·exact pP
               refine pure_ (i := 32) (N := some 97) (v := ?_) (a' := ?_) #[true, true, true, true, true, true, true, true, true, true, true, true, true, true, true, true, true, true, true, true, true, true, true, true, true, true, true, true, true, true, true, true, true, false, false] rfl rfl (any_of HT_.out pL) (fun _ _ _ h => h) (Or.inl ⟨by rfl, ?_⟩) ?_ ?_
               rotate_left
               ·intro w'
                go_simp
                with_reducible rfl
               rotate_left
               ·exact pP
               refine pure_ (i := 33) (N := some 98) (v := ?_) (a' := ?_) #[true, true, true, true, true, true, true, true, true, true, true, true, true, true, true, true, true, true, true, true, true, true, true, true, true, true, true, true, true, true, true, true, true, true, false] rfl rfl (any_of HT_.out pL) (fun _ _ _ h => h) (Or.inl ⟨by rfl, ?_⟩) ?_ ?_
               rotate_left
               ·intro w'
                go_simp
                with_reducible rfl
               rotate_left
               ·exact pP
               refine pure_ (i := 34) (N := some 99) (v := ?_) (a' := ?_) #[true, true, true, true, true, true, true, true, true, true, true, true, true, true, true, true, true, true, true, true, true, true, true, true, true, true, true, true, true, true, true, true, true, true, true] rfl rfl (any_of HT_.out pL) (fun _ _ _ h => h) (Or.inl ⟨by rfl, ?_⟩) ?_ ?_
               rotate_left
               ·intro w'
                go_simp
                with_reducible rfl
               rotate_left
               ·exact pP
               refine done_ (done_of HT_.out pL) ?_
               try go_wp2
               go_ret
               exact ⟨pE, pB⟩
              ·rw [if_neg c39] at H
               have c39b0 : decide ((rd t663 x11_2) < (rd t653 x11_2)) = false := decide_eq_false c39
               clear c39
               have H' := Aside0.mk H
               clear H
               obtain ⟨Ao42, co42, eo42⟩ := Kd.R_slice HO_7.out
               subst eo42
               try go_wp2
               have n0_ := Aside0.mk (Kd.R_drew HO_4.out)
               have n1_ := Aside0.mk (Kd.R_drew HO_5.out)
               have n2_ := Aside0.mk (Kd.R_drew HO_6.out)
               have n3_ := Aside0.mk (Kd.R_drew HO_7.out)
               have n4_ := Aside0.mk (below_drew1 HB.out)
               clear HO_4
               clear HO_5
               clear HO_6
               clear HO_7
               clear HB
               have HO_4 := n0_
               have HO_5 := n1_
               have HO_6 := n2_
               have HO_7 := n3_
               have HB := n4_
               clear n0_ n1_ n2_ n3_ n4_
               have p673 : 0 ≤ (x11_2 : Int) := of_decide_eq_true pA
               have q673 : x11_2 < (t652.length : Int) := of_decide_eq_true pA
               obtain ⟨ad673, e673, hx673_0, hx673_1, hx673_2, hx673_3, hx673_4, hx673_5⟩ := at_T62 (Kd.R_reads' HO_4.out).2.2 x11_2 p673 q673
               cases e673
               replace p673 := eq_true p673
               replace q673 := eq_true q673
               have p675 : 0 ≤ (x11_2 : Int) := of_decide_eq_true pA
               have q675 : x11_2 < (t663.length : Int) := of_decide_eq_true pA
               obtain ⟨ad675, e675, hx675_0⟩ := Kd.at_int (Kd.R_reads' HO_7.out).2.2 x11_2 p675 q675
               cases e675
               replace p675 := eq_true p675
               replace q675 := eq_true q675
               have p676 : 0 ≤ (x11_2 : Int) := of_decide_eq_true pA
               have q676 : x11_2 < (t652.length : Int) := of_decide_eq_true pA
               obtain ⟨ad676, e676, hx676_0, hx676_1, hx676_2, hx676_3, hx676_4, hx676_5⟩ := at_T62 (Kd.R_reads' HO_4.out).2.2 x11_2 p676 q676
               obtain rfl : ad673 = ad676 := (by injection e676)
               replace p676 := eq_true p676
               replace q676 := eq_true q676
               have p678 : 0 ≤ (x11_2 : Int) := of_decide_eq_true pA
               have q678 : x11_2 < (t663.length : Int) := of_decide_eq_true pA
               obtain ⟨ad678, e678, hx678_0⟩ := Kd.at_int (Kd.R_reads' HO_7.out).2.2 x11_2 p678 q678
               obtain rfl : ad675 = ad678 := (by injection e678)
               replace p678 := eq_true p678
               replace q678 := eq_true q678
               have p679 : 0 ≤ (x11_2 : Int) := of_decide_eq_true pA
               have q679 : x11_2 < (t653.length : Int) := of_decide_eq_true pA
               obtain ⟨ad679, e679, hx679_0⟩ := Kd.at_int (Kd.R_reads' HO_5.out).2.2 x11_2 p679 q679
               cases e679
               replace p679 := eq_true p679
               replace q679 := eq_true q679
               refine start_ (n := 35) (S := fun w' => w'.cell? (ad673.add ((x11_2).toNat * 6)) = some (.int .i64 ((rd_T62 t652 x11_2).f0)) ∧ w'.cell? ⟨(ad673.add ((x11_2).toNat * 6)).block, (ad673.add ((x11_2).toNat * 6)).off + 1, none⟩ = some (.int .i64 ((rd_T62 t652 x11_2).f1)) ∧ w'.cell? ⟨(ad673.add ((x11_2).toNat * 6)).block, (ad673.add ((x11_2).toNat * 6)).off + 2, none⟩ = some (.int .i64 ((rd_T62 t652 x11_2).f2)) ∧ w'.cell? ⟨(ad673.add ((x11_2).toNat * 6)).block, (ad673.add ((x11_2).toNat * 6)).off + 3, none⟩ = some (.int .i64 ((rd_T62 t652 x11_2).f3)) ∧ w'.cell? ⟨(ad673.add ((x11_2).toNat * 6)).block, (ad673.add ((x11_2).toNat * 6)).off + 4, none⟩ = some (.int .i64 ((rd_T62 t652 x11_2).f4)) ∧ w'.cell? ⟨(ad673.add ((x11_2).toNat * 6)).block, (ad673.add ((x11_2).toNat * 6)).off + 5, none⟩ = some (.int .i64 ((rd_T62 t652 x11_2).f5)) ∧ w'.cell? (ad675.add (x11_2).toNat) = some (.int .i64 (rd t663 x11_2)) ∧ w'.cell? (ad673.add ((x11_2).toNat * 6)) = some (.int .i64 ((rd_T62 t652 x11_2).f0)) ∧ w'.cell? ⟨(ad673.add ((x11_2).toNat * 6)).block, (ad673.add ((x11_2).toNat * 6)).off + 1, none⟩ = some (.int .i64 ((rd_T62 t652 x11_2).f1)) ∧ w'.cell? ⟨(ad673.add ((x11_2).toNat * 6)).block, (ad673.add ((x11_2).toNat * 6)).off + 2, none⟩ = some (.int .i64 ((rd_T62 t652 x11_2).f2)) ∧ w'.cell? ⟨(ad673.add ((x11_2).toNat * 6)).block, (ad673.add ((x11_2).toNat * 6)).off + 3, none⟩ = some (.int .i64 ((rd_T62 t652 x11_2).f3)) ∧ w'.cell? ⟨(ad673.add ((x11_2).toNat * 6)).block, (ad673.add ((x11_2).toNat * 6)).off + 4, none⟩ = some (.int .i64 ((rd_T62 t652 x11_2).f4)) ∧ w'.cell? ⟨(ad673.add ((x11_2).toNat * 6)).block, (ad673.add ((x11_2).toNat * 6)).off + 5, none⟩ = some (.int .i64 ((rd_T62 t652 x11_2).f5)) ∧ w'.cell? (ad675.add (x11_2).toNat) = some (.int .i64 (rd t663 x11_2)) ∧ w'.cell? (ad679.add (x11_2).toNat) = some (.int .i64 (rd t653 x11_2))) (ds := []) #[false, false, false, false, false, false, false, false, false, false, false, false, false, false, false, false, false, false, false, false, false, false, false, false, false, false, false, false, false, false, false, false, false, false, false] pL rfl rfl ⟨hx673_0, hx673_1, hx673_2, hx673_3, hx673_4, hx673_5, hx675_0, hx676_0, hx676_1, hx676_2, hx676_3, hx676_4, hx676_5, hx678_0, hx679_0⟩ (fun hHeld => ?_); refine with_tabW laws_FnSwapNeeds.tab11 laws_FnSwapNeeds.bits11 (fun HT_ HW_ => ?_)
               generalize wr.drew = w43 at HO_4 HO_5 HO_6 HO_7 HB hx673_0 hx673_1 hx673_2 hx673_3 hx673_4 hx673_5 hx675_0 hx676_0 hx676_1 hx676_2 hx676_3 hx676_4 hx676_5 hx678_0 hx679_0 hHeld ⊢
               refine pure_ (i := 0) (N := some 65) (v := ?_) (a' := ?_) #[true, false, false, false, false, false, false, false, false, false, false, false, false, false, false, false, false, false, false, false, false, false, false, false, false, false, false, false, false, false, false, false, false, false, false] rfl rfl (any_of HT_.out pL) (fun _ _ _ h => h) (Or.inl ⟨by rfl, ?_⟩) ?_ ?_
               rotate_left
               ·intro w'
                go_simp
                with_reducible rfl
               rotate_left
               ·exact pP
               refine pure_ (i := 1) (N := some 66) (v := ?_) (a' := ?_) #[true, true, false, false, false, false, false, false, false, false, false, false, false, false, false, false, false, false, false, false, false, false, false, false, false, false, false, false, false, false, false, false, false, false, false] rfl rfl (any_of HT_.out pL) (fun _ _ _ h => h) (Or.inl ⟨by rfl, ?_⟩) ?_ ?_
               rotate_left
               ·intro w'
                go_simp
                with_reducible rfl
               rotate_left
               ·exact pP
               refine pure_ (i := 2) (N := some 67) (v := ?_) (a' := ?_) #[true, true, true, false, false, false, false, false, false, false, false, false, false, false, false, false, false, false, false, false, false, false, false, false, false, false, false, false, false, false, false, false, false, false, false] rfl rfl (any_of HT_.out pL) (fun _ _ _ h => h) (Or.inl ⟨by rfl, ?_⟩) ?_ ?_
               rotate_left
               ·intro w'
                go_simp
                with_reducible rfl
               rotate_left
               ·exact pP
               refine pure_ (i := 3) (N := some 68) (v := ?_) (a' := ?_) #[true, true, true, true, false, false, false, false, false, false, false, false, false, false, false, false, false, false, false, false, false, false, false, false, false, false, false, false, false, false, false, false, false, false, false] rfl rfl (any_of HT_.out pL) (fun _ _ _ h => h) (Or.inl ⟨by rfl, ?_⟩) ?_ ?_
               rotate_left
               ·intro w'
                go_simp
                with_reducible rfl
               rotate_left
               ·exact pP
               refine pure_ (i := 4) (N := some 69) (v := ?_) (a' := ?_) #[true, true, true, true, true, false, false, false, false, false, false, false, false, false, false, false, false, false, false, false, false, false, false, false, false, false, false, false, false, false, false, false, false, false, false] rfl rfl (any_of HT_.out pL) (fun _ _ _ h => h) (Or.inl ⟨by rfl, ?_⟩) ?_ ?_
               rotate_left
               ·intro w'
                go_simp
                with_reducible rfl
               rotate_left
               ·exact pP
               refine take_ (i := 5) (N := some 70) (v := ?_) (a' := ?_) #[true, true, true, true, true, true, false, false, false, false, false, false, false, false, false, false, false, false, false, false, false, false, false, false, false, false, false, false, false, false, false, false, false, false, false] rfl rfl (take_ofW HT_.out HW_.out pL) (fun _ _ _ h => h) (Or.inl ⟨by rfl, ?_⟩) hHeld ?_ ?_
               rotate_left
               ·rintro w' ⟨s0, s1, s2, s3, s4, s5, s6, s7, s8, s9, s10, s11, s12, s13, s14⟩
                go_simp
                with_reducible rfl
               rotate_left
               ·exact pP
               refine one_ (i := 6) (N := some 71) #[true, true, true, true, true, true, true, false, false, false, false, false, false, false, false, false, false, false, false, false, false, false, false, false, false, false, false, false, false, false, false, false, false, false, false] rfl rfl (one_of HT_.out pL) (by decide) (fun K hK => ?_)
               refine goes_ Try.func35 pL rfl #[.slice Ao11 t654.length co11, .int .i64 ((rd_T62 t652 x11_2).f0)] (by rfl) rfl rfl pM ?_
               with_reducible refine (laws_hasInt.calls k2 _ _ t654 ((rd_T62 t652 x11_2).f0) true _ ?side1 ?side2 A29.out).mono ?_
               (case side1 => exact pS ((Kd.R_reads' HO_6.out).2.2))
               (case side2 => exact (Kd.R_reads' HO_6.out).2.1)
               rintro e w' ⟨rfl, ⟨nd, rfl⟩⟩
               refine ⟨_, rfl, ?_⟩
               refine hK.out _ _ ⟨hHeld.1, hHeld.2.1, hHeld.2.2.1, hHeld.2.2.2.1, hHeld.2.2.2.2.1, hHeld.2.2.2.2.2.1, hHeld.2.2.2.2.2.2.1, hHeld.2.2.2.2.2.2.2.1, hHeld.2.2.2.2.2.2.2.2.1, hHeld.2.2.2.2.2.2.2.2.2.1, hHeld.2.2.2.2.2.2.2.2.2.2.1, hHeld.2.2.2.2.2.2.2.2.2.2.2.1, hHeld.2.2.2.2.2.2.2.2.2.2.2.2.1, hHeld.2.2.2.2.2.2.2.2.2.2.2.2.2.1, hHeld.2.2.2.2.2.2.2.2.2.2.2.2.2.2⟩ (fun hHeld => ?_)
               clear hK K
               refine norm_ (a' := ?_) ?_ ?_
               rotate_left
               ·show Act.put _ (some 71) _ = _
                exact pP
               refine pure_ (i := 7) (N := some 72) (v := ?_) (a' := ?_) #[true, true, true, true, true, true, true, true, false, false, false, false, false, false, false, false, false, false, false, false, false, false, false, false, false, false, false, false, false, false, false, false, false, false, false] rfl rfl (any_of HT_.out pL) (fun _ _ _ h => h) (Or.inl ⟨by rfl, ?_⟩) ?_ ?_
               rotate_left
               ·intro w'
                go_simp
                with_reducible rfl
               rotate_left
               ·exact pP
               refine pure_ (i := 8) (N := some 73) (v := ?_) (a' := ?_) #[true, true, true, true, true, true, true, true, true, false, false, false, false, false, false, false, false, false, false, false, false, false, false, false, false, false, false, false, false, false, false, false, false, false, false] rfl rfl (any_of HT_.out pL) (fun _ _ _ h => h) (Or.inl ⟨by rfl, ?_⟩) ?_ ?_
               rotate_left
               ·intro w'
                go_simp
                with_reducible rfl
               rotate_left
               ·exact pP
               refine pure_ (i := 9) (N := some 74) (v := ?_) (a' := ?_) #[true, true, true, true, true, true, true, true, true, true, false, false, false, false, false, false, false, false, false, false, false, false, false, false, false, false, false, false, false, false, false, false, false, false, false] rfl rfl (any_of HT_.out pL) (fun _ _ _ h => h) (Or.inl ⟨by rfl, ?_⟩) ?_ ?_
               rotate_left
               ·intro w'
                go_simp
                with_reducible rfl
               rotate_left
               ·exact pP
               refine pure_ (i := 10) (N := some 75) (v := ?_) (a' := ?_) #[true, true, true, true, true, true, true, true, true, true, true, false, false, false, false, false, false, false, false, false, false, false, false, false, false, false, false, false, false, false, false, false, false, false, false] rfl rfl (any_of HT_.out pL) (fun _ _ _ h => h) (Or.inl ⟨by rfl, ?_⟩) ?_ ?_
               rotate_left
               ·intro w'
                go_simp
                with_reducible rfl
               rotate_left
               ·exact pP
               refine take_ (i := 11) (N := some 76) (v := ?_) (a' := ?_) #[true, true, true, true, true, true, true, true, true, true, true, true, false, false, false, false, false, false, false, false, false, false, false, false, false, false, false, false, false, false, false, false, false, false, false] rfl rfl (take_ofW HT_.out HW_.out pL) (fun _ _ _ h => h) (Or.inl ⟨by rfl, ?_⟩) hHeld ?_ ?_
               rotate_left
               ·rintro w' ⟨s0, s1, s2, s3, s4, s5, s6, s7, s8, s9, s10, s11, s12, s13, s14⟩
                go_simp
                with_reducible rfl
               rotate_left
               ·exact pP
               refine pure_ (i := 12) (N := some 77) (v := ?_) (a' := ?_) #[true, true, true, true, true, true, true, true, true, true, true, true, true, false, false, false, false, false, false, false, false, false, false, false, false, false, false, false, false, false, false, false, false, false, false] rfl rfl (any_of HT_.out pL) (fun _ _ _ h => h) (Or.inl ⟨by rfl, ?_⟩) ?_ ?_
               rotate_left
               ·intro w'
                go_simp
                with_reducible rfl
               rotate_left
               ·exact pP
               refine pure_ (i := 13) (N := some 78) (v := ?_) (a' := ?_) #[true, true, true, true, true, true, true, true, true, true, true, true, true, true, false, false, false, false, false, false, false, false, false, false, false, false, false, false, false, false, false, false, false, false, false] rfl rfl (any_of HT_.out pL) (fun _ _ _ h => h) (Or.inl ⟨by rfl, ?_⟩) ?_ ?_
               rotate_left
               ·intro w'
                go_simp
                with_reducible rfl
               rotate_left
               ·exact pP
               refine pure_ (i := 14) (N := some 79) (v := ?_) (a' := ?_) #[true, true, true, true, true, true, true, true, true, true, true, true, true, true, true, false, false, false, false, false, false, false, false, false, false, false, false, false, false, false, false, false, false, false, false] rfl rfl (any_of HT_.out pL) (fun _ _ _ h => h) (Or.inl ⟨by rfl, ?_⟩) ?_ ?_
               rotate_left
               ·intro w'
                go_simp
                with_reducible rfl
               rotate_left
               ·exact pP
               refine pure_ (i := 15) (N := some 80) (v := ?_) (a' := ?_) #[true, true, true, true, true, true, true, true, true, true, true, true, true, true, true, true, false, false, false, false, false, false, false, false, false, false, false, false, false, false, false, false, false, false, false] rfl rfl (any_of HT_.out pL) (fun _ _ _ h => h) (Or.inl ⟨by rfl, ?_⟩) ?_ ?_
               rotate_left
               ·intro w'
                go_simp
                with_reducible rfl
               rotate_left
               ·exact pP
               refine pure_ (i := 16) (N := some 81) (v := ?_) (a' := ?_) #[true, true, true, true, true, true, true, true, true, true, true, true, true, true, true, true, true, false, false, false, false, false, false, false, false, false, false, false, false, false, false, false, false, false, false] rfl rfl (any_of HT_.out pL) (fun _ _ _ h => h) (Or.inl ⟨by rfl, ?_⟩) ?_ ?_
               rotate_left
               ·intro w'
                go_simp
                with_reducible rfl
               rotate_left
               ·exact pP
               refine pure_ (i := 17) (N := some 82) (v := ?_) (a' := ?_) #[true, true, true, true, true, true, true, true, true, true, true, true, true, true, true, true, true, true, false, false, false, false, false, false, false, false, false, false, false, false, false, false, false, false, false] rfl rfl (any_of HT_.out pL) (fun _ _ _ h => h) (Or.inl ⟨by rfl, ?_⟩) ?_ ?_
               rotate_left
               ·intro w'
                go_simp
                with_reducible rfl
               rotate_left
               ·exact pP
               refine pure_ (i := 18) (N := some 83) (v := ?_) (a' := ?_) #[true, true, true, true, true, true, true, true, true, true, true, true, true, true, true, true, true, true, true, false, false, false, false, false, false, false, false, false, false, false, false, false, false, false, false] rfl rfl (any_of HT_.out pL) (fun _ _ _ h => h) (Or.inl ⟨by rfl, ?_⟩) ?_ ?_
               rotate_left
               ·intro w'
                go_simp
                with_reducible rfl
               rotate_left
               ·exact pP
               refine pure_ (i := 19) (N := some 84) (v := ?_) (a' := ?_) #[true, true, true, true, true, true, true, true, true, true, true, true, true, true, true, true, true, true, true, true, false, false, false, false, false, false, false, false, false, false, false, false, false, false, false] rfl rfl (any_of HT_.out pL) (fun _ _ _ h => h) (Or.inl ⟨by rfl, ?_⟩) ?_ ?_
               rotate_left
               ·intro w'
                go_simp
                with_reducible rfl
               rotate_left
               ·exact pP
               refine take_ (i := 20) (N := some 85) (v := ?_) (a' := ?_) #[true, true, true, true, true, true, true, true, true, true, true, true, true, true, true, true, true, true, true, true, true, false, false, false, false, false, false, false, false, false, false, false, false, false, false] rfl rfl (take_ofW HT_.out HW_.out pL) (fun _ _ _ h => h) (Or.inl ⟨by rfl, ?_⟩) hHeld ?_ ?_
               rotate_left
               ·rintro w' ⟨s0, s1, s2, s3, s4, s5, s6, s7, s8, s9, s10, s11, s12, s13, s14⟩
                go_simp
                with_reducible rfl
               rotate_left
               ·exact pP
               refine one_ (i := 21) (N := some 86) #[true, true, true, true, true, true, true, true, true, true, true, true, true, true, true, true, true, true, true, true, true, true, false, false, false, false, false, false, false, false, false, false, false, false, false] rfl rfl (one_of HT_.out pL) (by decide) (fun K hK => ?_)
               refine goes_ Try.func35 pL rfl #[.slice Ao11 t654.length co11, .int .i64 ((rd_T62 t652 x11_2).f0)] (by rfl) rfl rfl pM ?_
               with_reducible refine (laws_hasInt.calls k2 _ _ t654 ((rd_T62 t652 x11_2).f0) false _ ?side1 ?side2 A34.out).mono ?_
               (case side1 => exact pS ((Kd.R_reads' HO_6.out).2.2))
               (case side2 => exact (Kd.R_reads' HO_6.out).2.1)
               rintro e w' ⟨rfl, ⟨nd, rfl⟩⟩
               refine ⟨_, rfl, ?_⟩
               refine hK.out _ _ ⟨hHeld.1, hHeld.2.1, hHeld.2.2.1, hHeld.2.2.2.1, hHeld.2.2.2.2.1, hHeld.2.2.2.2.2.1, hHeld.2.2.2.2.2.2.1, hHeld.2.2.2.2.2.2.2.1, hHeld.2.2.2.2.2.2.2.2.1, hHeld.2.2.2.2.2.2.2.2.2.1, hHeld.2.2.2.2.2.2.2.2.2.2.1, hHeld.2.2.2.2.2.2.2.2.2.2.2.1, hHeld.2.2.2.2.2.2.2.2.2.2.2.2.1, hHeld.2.2.2.2.2.2.2.2.2.2.2.2.2.1, hHeld.2.2.2.2.2.2.2.2.2.2.2.2.2.2⟩ (fun hHeld => ?_)
               clear hK K
               refine norm_ (a' := ?_) ?_ ?_
               rotate_left
               ·show Act.put _ (some 86) _ = _
                exact pP
               refine pure_ (i := 22) (N := some 87) (v := ?_) (a' := ?_) #[true, true, true, true, true, true, true, true, true, true, true, true, true, true, true, true, true, true, true, true, true, true, true, false, false, false, false, false, false, false, false, false, false, false, false] rfl rfl (any_of HT_.out pL) (fun _ _ _ h => h) (Or.inl ⟨by rfl, ?_⟩) ?_ ?_
               rotate_left
               ·intro w'
                go_simp
                with_reducible rfl
               rotate_left
               ·exact pP
               refine pure_ (i := 23) (N := some 88) (v := ?_) (a' := ?_) #[true, true, true, true, true, true, true, true, true, true, true, true, true, true, true, true, true, true, true, true, true, true, true, true, false, false, false, false, false, false, false, false, false, false, false] rfl rfl (any_of HT_.out pL) (fun _ _ _ h => h) (Or.inl ⟨by rfl, ?_⟩) ?_ ?_
               rotate_left
               ·intro w'
                go_simp
                with_reducible rfl
               rotate_left
               ·exact pP
               refine pure_ (i := 24) (N := some 89) (v := ?_) (a' := ?_) #[true, true, true, true, true, true, true, true, true, true, true, true, true, true, true, true, true, true, true, true, true, true, true, true, true, false, false, false, false, false, false, false, false, false, false] rfl rfl (any_of HT_.out pL) (fun _ _ _ h => h) (Or.inl ⟨by rfl, ?_⟩) ?_ ?_
               rotate_left
               ·intro w'
                go_simp
                with_reducible rfl
               rotate_left
               ·exact pP
               refine pure_ (i := 25) (N := some 90) (v := ?_) (a' := ?_) #[true, true, true, true, true, true, true, true, true, true, true, true, true, true, true, true, true, true, true, true, true, true, true, true, true, true, false, false, false, false, false, false, false, false, false] rfl rfl (any_of HT_.out pL) (fun _ _ _ h => h) (Or.inl ⟨by rfl, ?_⟩) ?_ ?_
               rotate_left
               ·intro w'
                go_simp
                with_reducible rfl
               rotate_left
               ·exact pP
               refine pure_ (i := 26) (N := some 91) (v := ?_) (a' := ?_) #[true, true, true, true, true, true, true, true, true, true, true, true, true, true, true, true, true, true, true, true, true, true, true, true, true, true, true, false, false, false, false, false, false, false, false] rfl rfl (any_of HT_.out pL) (fun _ _ _ h => h) (Or.inl ⟨by rfl, ?_⟩) ?_ ?_
               rotate_left
               ·intro w'
                go_simp
                with_reducible rfl
               rotate_left
               ·exact pP
               refine pure_ (i := 28) (N := some 93) (v := ?_) (a' := ?_) #[true, true, true, true, true, true, true, true, true, true, true, true, true, true, true, true, true, true, true, true, true, true, true, true, true, true, true, false, true, false, false, false, false, false, false] rfl rfl (any_of HT_.out pL) (fun _ _ _ h => h) (Or.inl ⟨by rfl, ?_⟩) ?_ ?_
               rotate_left
               ·intro w'
                go_simp
                with_reducible rfl
               rotate_left
               ·exact pP
               refine pure_ (i := 29) (N := some 94) (v := ?_) (a' := ?_) #[true, true, true, true, true, true, true, true, true, true, true, true, true, true, true, true, true, true, true, true, true, true, true, true, true, true, true, false, true, true, false, false, false, false, false] rfl rfl (any_of HT_.out pL) (fun _ _ _ h => h) (Or.inl ⟨by rfl, ?_⟩) ?_ ?_
               rotate_left
               ·intro w'
                go_simp
                with_reducible rfl
               rotate_left
               ·exact pP
               refine pure_ (i := 30) (N := some 95) (v := ?_) (a' := ?_) #[true, true, true, true, true, true, true, true, true, true, true, true, true, true, true, true, true, true, true, true, true, true, true, true, true, true, true, false, true, true, true, false, false, false, false] rfl rfl (any_of HT_.out pL) (fun _ _ _ h => h) (Or.inl ⟨by rfl, ?_⟩) ?_ ?_
               rotate_left
               ·intro w'
                go_simp
                with_reducible rfl
               rotate_left
               ·exact pP
               refine take_ (i := 27) (N := some 92) (v := ?_) (a' := ?_) #[true, true, true, true, true, true, true, true, true, true, true, true, true, true, true, true, true, true, true, true, true, true, true, true, true, true, true, true, true, true, true, false, false, false, false] rfl rfl (take_ofW HT_.out HW_.out pL) (fun _ _ _ h => h) (Or.inl ⟨by rfl, ?_⟩) hHeld ?_ ?_
               rotate_left
               ·rintro w' ⟨s0, s1, s2, s3, s4, s5, s6, s7, s8, s9, s10, s11, s12, s13, s14⟩
                go_simp
                with_reducible rfl
               rotate_left
               ·exact pP
               refine take_ (i := 31) (N := some 96) (v := ?_) (a' := ?_) #[true, true, true, true, true, true, true, true, true, true, true, true, true, true, true, true, true, true, true, true, true, true, true, true, true, true, true, true, true, true, true, true, false, false, false] rfl rfl (take_ofW HT_.out HW_.out pL) (fun _ _ _ h => h) (Or.inl ⟨by rfl, ?_⟩) hHeld ?_ ?_
               rotate_left
               ·rintro w' ⟨s0, s1, s2, s3, s4, s5, s6, s7, s8, s9, s10, s11, s12, s13, s14⟩
                go_simp
                with_reducible rfl
               rotate_left
               ·exact pP
               refine pure_ (i := 32) (N := some 97) (v := ?_) (a' := ?_) #[true, true, true, true, true, true, true, true, true, true, true, true, true, true, true, true, true, true, true, true, true, true, true, true, true, true, true, true, true, true, true, true, true, false, false] rfl rfl (any_of HT_.out pL) (fun _ _ _ h => h) (Or.inl ⟨by rfl, ?_⟩) ?_ ?_
               rotate_left
               ·intro w'
                go_simp
                with_reducible rfl
               rotate_left
               ·exact pP
               refine pure_ (i := 33) (N := some 98) (v := ?_) (a' := ?_) #[true, true, true, true, true, true, true, true, true, true, true, true, true, true, true, true, true, true, true, true, true, true, true, true, true, true, true, true, true, true, true, true, true, true, false] rfl rfl (any_of HT_.out pL) (fun _ _ _ h => h) (Or.inl ⟨by rfl, ?_⟩) ?_ ?_
               rotate_left
               ·intro w'
                go_simp
                with_reducible rfl
               rotate_left
               ·exact pP
               refine pure_ (i := 34) (N := some 99) (v := ?_) (a' := ?_) #[true, true, true, true, true, true, true, true, true, true, true, true, true, true, true, true, true, true, true, true, true, true, true, true, true, true, true, true, true, true, true, true, true, true, true] rfl rfl (any_of HT_.out pL) (fun _ _ _ h => h) (Or.inl ⟨by rfl, ?_⟩) ?_ ?_
               rotate_left
               ·intro w'
                go_simp
                with_reducible rfl
               rotate_left
               ·exact pP
               refine done_ (done_of HT_.out pL) ?_
               try go_wp2
               go_roundg k2
               case measure => have := HJ5.out; have := HK2.out; omega
               case rel => exact ⟨(wrap64 (x11_2 + 1)), pF, H', ⟨by have := HJ5.out; have := HK2.out; omega⟩, ⟨pR HO_4⟩, ⟨pR HO_5⟩, ⟨pR HO_6⟩, ⟨pR HO_7⟩, ⟨pB⟩⟩
             ·rw [if_neg c38] at H
              exact absurd H (by simp)
          ·replace c30 := Bool.eq_false_iff.mpr c30
           subst c30
           have H1 : ((laws_hasInt.f k2 t654 ((rd_T62 t652 x11_2).f0)).bind fun t681 => (if t681 = true then (laws_FnSwapNeeds.l0 k2 t652 t653 t654 t663 (wrap64 (x11_2 + 1))) else (if x11_2 < (t653.length : Int) then (if (rd t663 x11_2) < (rd t653 x11_2) then (some false) else (laws_FnSwapNeeds.l0 k2 t652 t653 t654 t663 (wrap64 (x11_2 + 1)))) else (none)))) = some r := by rw [if_neg (show ¬ (false = true) by decide)] at H; exact H
           clear H
           have H := H1
           clear H1
           replace H := Option.bind_eq_some_iff.mp H
           obtain ⟨t681, A440, H⟩ := H
           replace H : (if t681 = true then (laws_FnSwapNeeds.l0 k2 t652 t653 t654 t663 (wrap64 (x11_2 + 1))) else (if x11_2 < (t653.length : Int) then (if (rd t663 x11_2) < (rd t653 x11_2) then (some false) else (laws_FnSwapNeeds.l0 k2 t652 t653 t654 t663 (wrap64 (x11_2 + 1)))) else (none))) = some r := H
           have A44 := Aside0.mk A440
           clear A440
           by_cases c45 : t681 = true
           ·subst c45
            have H1 : (laws_FnSwapNeeds.l0 k2 t652 t653 t654 t663 (wrap64 (x11_2 + 1))) = some r := by rw [if_pos rfl] at H; exact H
            clear H
            have H := H1
            clear H1
            have H' := Aside0.mk H
            clear H
            obtain ⟨Ao46, co46, eo46⟩ := Kd.R_slice HO_7.out
            subst eo46
            try go_wp2
            have n0_ := Aside0.mk (Kd.R_drew HO_4.out)
            have n1_ := Aside0.mk (Kd.R_drew HO_5.out)
            have n2_ := Aside0.mk (Kd.R_drew HO_6.out)
            have n3_ := Aside0.mk (Kd.R_drew HO_7.out)
            have n4_ := Aside0.mk (below_drew1 HB.out)
            clear HO_4
            clear HO_5
            clear HO_6
            clear HO_7
            clear HB
            have HO_4 := n0_
            have HO_5 := n1_
            have HO_6 := n2_
            have HO_7 := n3_
            have HB := n4_
            clear n0_ n1_ n2_ n3_ n4_
            have p673 : 0 ≤ (x11_2 : Int) := of_decide_eq_true pA
            have q673 : x11_2 < (t652.length : Int) := of_decide_eq_true pA
            obtain ⟨ad673, e673, hx673_0, hx673_1, hx673_2, hx673_3, hx673_4, hx673_5⟩ := at_T62 (Kd.R_reads' HO_4.out).2.2 x11_2 p673 q673
            cases e673
            replace p673 := eq_true p673
            replace q673 := eq_true q673
            have p680 : 0 ≤ (x11_2 : Int) := of_decide_eq_true pA
            have q680 : x11_2 < (t652.length : Int) := of_decide_eq_true pA
            obtain ⟨ad680, e680, hx680_0, hx680_1, hx680_2, hx680_3, hx680_4, hx680_5⟩ := at_T62 (Kd.R_reads' HO_4.out).2.2 x11_2 p680 q680
            obtain rfl : ad673 = ad680 := (by injection e680)
            replace p680 := eq_true p680
            replace q680 := eq_true q680
            refine start_ (n := 35) (S := fun w' => w'.cell? (ad673.add ((x11_2).toNat * 6)) = some (.int .i64 ((rd_T62 t652 x11_2).f0)) ∧ w'.cell? ⟨(ad673.add ((x11_2).toNat * 6)).block, (ad673.add ((x11_2).toNat * 6)).off + 1, none⟩ = some (.int .i64 ((rd_T62 t652 x11_2).f1)) ∧ w'.cell? ⟨(ad673.add ((x11_2).toNat * 6)).block, (ad673.add ((x11_2).toNat * 6)).off + 2, none⟩ = some (.int .i64 ((rd_T62 t652 x11_2).f2)) ∧ w'.cell? ⟨(ad673.add ((x11_2).toNat * 6)).block, (ad673.add ((x11_2).toNat * 6)).off + 3, none⟩ = some (.int .i64 ((rd_T62 t652 x11_2).f3)) ∧ w'.cell? ⟨(ad673.add ((x11_2).toNat * 6)).block, (ad673.add ((x11_2).toNat * 6)).off + 4, none⟩ = some (.int .i64 ((rd_T62 t652 x11_2).f4)) ∧ w'.cell? ⟨(ad673.add ((x11_2).toNat * 6)).block, (ad673.add ((x11_2).toNat * 6)).off + 5, none⟩ = some (.int .i64 ((rd_T62 t652 x11_2).f5)) ∧ w'.cell? (ad673.add ((x11_2).toNat * 6)) = some (.int .i64 ((rd_T62 t652 x11_2).f0)) ∧ w'.cell? ⟨(ad673.add ((x11_2).toNat * 6)).block, (ad673.add ((x11_2).toNat * 6)).off + 1, none⟩ = some (.int .i64 ((rd_T62 t652 x11_2).f1)) ∧ w'.cell? ⟨(ad673.add ((x11_2).toNat * 6)).block, (ad673.add ((x11_2).toNat * 6)).off + 2, none⟩ = some (.int .i64 ((rd_T62 t652 x11_2).f2)) ∧ w'.cell? ⟨(ad673.add ((x11_2).toNat * 6)).block, (ad673.add ((x11_2).toNat * 6)).off + 3, none⟩ = some (.int .i64 ((rd_T62 t652 x11_2).f3)) ∧ w'.cell? ⟨(ad673.add ((x11_2).toNat * 6)).block, (ad673.add ((x11_2).toNat * 6)).off + 4, none⟩ = some (.int .i64 ((rd_T62 t652 x11_2).f4)) ∧ w'.cell? ⟨(ad673.add ((x11_2).toNat * 6)).block, (ad673.add ((x11_2).toNat * 6)).off + 5, none⟩ = some (.int .i64 ((rd_T62 t652 x11_2).f5))) (ds := []) #[false, false, false, false, false, false, false, false, false, false, false, false, false, false, false, false, false, false, false, false, false, false, false, false, false, false, false, false, false, false, false, false, false, false, false] pL rfl rfl ⟨hx673_0, hx673_1, hx673_2, hx673_3, hx673_4, hx673_5, hx680_0, hx680_1, hx680_2, hx680_3, hx680_4, hx680_5⟩ (fun hHeld => ?_); refine with_tabW laws_FnSwapNeeds.tab11 laws_FnSwapNeeds.bits11 (fun HT_ HW_ => ?_)
            generalize wr.drew = w47 at HO_4 HO_5 HO_6 HO_7 HB hx673_0 hx673_1 hx673_2 hx673_3 hx673_4 hx673_5 hx680_0 hx680_1 hx680_2 hx680_3 hx680_4 hx680_5 hHeld ⊢
            refine pure_ (i := 0) (N := some 65) (v := ?_) (a' := ?_) #[true, false, false, false, false, false, false, false, false, false, false, false, false, false, false, false, false, false, false, false, false, false, false, false, false, false, false, false, false, false, false, false, false, false, false] rfl rfl (any_of HT_.out pL) (fun _ _ _ h => h) (Or.inl ⟨by rfl, ?_⟩) ?_ ?_
            rotate_left
            ·intro w'
             go_simp
             with_reducible rfl
            rotate_left
            ·exact pP
            refine pure_ (i := 1) (N := some 66) (v := ?_) (a' := ?_) #[true, true, false, false, false, false, false, false, false, false, false, false, false, false, false, false, false, false, false, false, false, false, false, false, false, false, false, false, false, false, false, false, false, false, false] rfl rfl (any_of HT_.out pL) (fun _ _ _ h => h) (Or.inl ⟨by rfl, ?_⟩) ?_ ?_
            rotate_left
            ·intro w'
             go_simp
             with_reducible rfl
            rotate_left
            ·exact pP
            refine pure_ (i := 2) (N := some 67) (v := ?_) (a' := ?_) #[true, true, true, false, false, false, false, false, false, false, false, false, false, false, false, false, false, false, false, false, false, false, false, false, false, false, false, false, false, false, false, false, false, false, false] rfl rfl (any_of HT_.out pL) (fun _ _ _ h => h) (Or.inl ⟨by rfl, ?_⟩) ?_ ?_
            rotate_left
            ·intro w'
             go_simp
             with_reducible rfl
            rotate_left
            ·exact pP
            refine pure_ (i := 3) (N := some 68) (v := ?_) (a' := ?_) #[true, true, true, true, false, false, false, false, false, false, false, false, false, false, false, false, false, false, false, false, false, false, false, false, false, false, false, false, false, false, false, false, false, false, false] rfl rfl (any_of HT_.out pL) (fun _ _ _ h => h) (Or.inl ⟨by rfl, ?_⟩) ?_ ?_
            rotate_left
            ·intro w'
             go_simp
             with_reducible rfl
            rotate_left
            ·exact pP
            refine pure_ (i := 4) (N := some 69) (v := ?_) (a' := ?_) #[true, true, true, true, true, false, false, false, false, false, false, false, false, false, false, false, false, false, false, false, false, false, false, false, false, false, false, false, false, false, false, false, false, false, false] rfl rfl (any_of HT_.out pL) (fun _ _ _ h => h) (Or.inl ⟨by rfl, ?_⟩) ?_ ?_
            rotate_left
            ·intro w'
             go_simp
             with_reducible rfl
            rotate_left
            ·exact pP
            refine take_ (i := 5) (N := some 70) (v := ?_) (a' := ?_) #[true, true, true, true, true, true, false, false, false, false, false, false, false, false, false, false, false, false, false, false, false, false, false, false, false, false, false, false, false, false, false, false, false, false, false] rfl rfl (take_ofW HT_.out HW_.out pL) (fun _ _ _ h => h) (Or.inl ⟨by rfl, ?_⟩) hHeld ?_ ?_
            rotate_left
            ·rintro w' ⟨s0, s1, s2, s3, s4, s5, s6, s7, s8, s9, s10, s11⟩
             go_simp
             with_reducible rfl
            rotate_left
            ·exact pP
            refine one_ (i := 6) (N := some 71) #[true, true, true, true, true, true, true, false, false, false, false, false, false, false, false, false, false, false, false, false, false, false, false, false, false, false, false, false, false, false, false, false, false, false, false] rfl rfl (one_of HT_.out pL) (by decide) (fun K hK => ?_)
            refine goes_ Try.func35 pL rfl #[.slice Ao11 t654.length co11, .int .i64 ((rd_T62 t652 x11_2).f0)] (by rfl) rfl rfl pM ?_
            with_reducible refine (laws_hasInt.calls k2 _ _ t654 ((rd_T62 t652 x11_2).f0) false _ ?side1 ?side2 A29.out).mono ?_
            (case side1 => exact pS ((Kd.R_reads' HO_6.out).2.2))
            (case side2 => exact (Kd.R_reads' HO_6.out).2.1)
            rintro e w' ⟨rfl, ⟨nd, rfl⟩⟩
            refine ⟨_, rfl, ?_⟩
            refine hK.out _ _ ⟨hHeld.1, hHeld.2.1, hHeld.2.2.1, hHeld.2.2.2.1, hHeld.2.2.2.2.1, hHeld.2.2.2.2.2.1, hHeld.2.2.2.2.2.2.1, hHeld.2.2.2.2.2.2.2.1, hHeld.2.2.2.2.2.2.2.2.1, hHeld.2.2.2.2.2.2.2.2.2.1, hHeld.2.2.2.2.2.2.2.2.2.2.1, hHeld.2.2.2.2.2.2.2.2.2.2.2⟩ (fun hHeld => ?_)
            clear hK K
            refine norm_ (a' := ?_) ?_ ?_
            rotate_left
            ·show Act.put _ (some 71) _ = _
             exact pP
            refine pure_ (i := 7) (N := some 72) (v := ?_) (a' := ?_) #[true, true, true, true, true, true, true, true, false, false, false, false, false, false, false, false, false, false, false, false, false, false, false, false, false, false, false, false, false, false, false, false, false, false, false] rfl rfl (any_of HT_.out pL) (fun _ _ _ h => h) (Or.inl ⟨by rfl, ?_⟩) ?_ ?_
            rotate_left
            ·intro w'
             go_simp
             with_reducible rfl
            rotate_left
            ·exact pP
            refine pure_ (i := 8) (N := some 73) (v := undef) (a' := ?_) #[true, true, true, true, true, true, true, true, true, false, false, false, false, false, false, false, false, false, false, false, false, false, false, false, false, false, false, false, false, false, false, false, false, false, false] rfl rfl (any_of HT_.out pL) (fun _ _ _ h => h) (Or.inr ⟨by rfl, rfl⟩) ?_ ?_
            rotate_left
            ·exact pP
            refine pure_ (i := 9) (N := some 74) (v := undef) (a' := ?_) #[true, true, true, true, true, true, true, true, true, true, false, false, false, false, false, false, false, false, false, false, false, false, false, false, false, false, false, false, false, false, false, false, false, false, false] rfl rfl (any_of HT_.out pL) (fun _ _ _ h => h) (Or.inr ⟨by rfl, rfl⟩) ?_ ?_
            rotate_left
            ·exact pP
            refine pure_ (i := 10) (N := some 75) (v := undef) (a' := ?_) #[true, true, true, true, true, true, true, true, true, true, true, false, false, false, false, false, false, false, false, false, false, false, false, false, false, false, false, false, false, false, false, false, false, false, false] rfl rfl (any_of HT_.out pL) (fun _ _ _ h => h) (Or.inr ⟨by rfl, rfl⟩) ?_ ?_
            rotate_left
            ·exact pP
            refine pure_ (i := 11) (N := some 76) (v := undef) (a' := ?_) #[true, true, true, true, true, true, true, true, true, true, true, true, false, false, false, false, false, false, false, false, false, false, false, false, false, false, false, false, false, false, false, false, false, false, false] rfl rfl (any_of HT_.out pL) (fun _ _ _ h => h) (Or.inr ⟨by rfl, rfl⟩) ?_ ?_
            rotate_left
            ·exact pP
            refine pure_ (i := 12) (N := some 77) (v := undef) (a' := ?_) #[true, true, true, true, true, true, true, true, true, true, true, true, true, false, false, false, false, false, false, false, false, false, false, false, false, false, false, false, false, false, false, false, false, false, false] rfl rfl (any_of HT_.out pL) (fun _ _ _ h => h) (Or.inr ⟨by rfl, rfl⟩) ?_ ?_
            rotate_left
            ·exact pP
            refine pure_ (i := 13) (N := some 78) (v := ?_) (a' := ?_) #[true, true, true, true, true, true, true, true, true, true, true, true, true, true, false, false, false, false, false, false, false, false, false, false, false, false, false, false, false, false, false, false, false, false, false] rfl rfl (any_of HT_.out pL) (fun _ _ _ h => h) (Or.inl ⟨by rfl, ?_⟩) ?_ ?_
            rotate_left
            ·intro w'
             go_simp
             with_reducible rfl
            rotate_left
            ·exact pP
            refine pure_ (i := 14) (N := some 79) (v := ?_) (a' := ?_) #[true, true, true, true, true, true, true, true, true, true, true, true, true, true, true, false, false, false, false, false, false, false, false, false, false, false, false, false, false, false, false, false, false, false, false] rfl rfl (any_of HT_.out pL) (fun _ _ _ h => h) (Or.inl ⟨by rfl, ?_⟩) ?_ ?_
            rotate_left
            ·intro w'
             go_simp
             with_reducible rfl
            rotate_left
            ·exact pP
            refine pure_ (i := 15) (N := some 80) (v := ?_) (a' := ?_) #[true, true, true, true, true, true, true, true, true, true, true, true, true, true, true, true, false, false, false, false, false, false, false, false, false, false, false, false, false, false, false, false, false, false, false] rfl rfl (any_of HT_.out pL) (fun _ _ _ h => h) (Or.inl ⟨by rfl, ?_⟩) ?_ ?_
            rotate_left
            ·intro w'
             go_simp
             with_reducible rfl
            rotate_left
            ·exact pP
            refine pure_ (i := 16) (N := some 81) (v := ?_) (a' := ?_) #[true, true, true, true, true, true, true, true, true, true, true, true, true, true, true, true, true, false, false, false, false, false, false, false, false, false, false, false, false, false, false, false, false, false, false] rfl rfl (any_of HT_.out pL) (fun _ _ _ h => h) (Or.inl ⟨by rfl, ?_⟩) ?_ ?_
            rotate_left
            ·intro w'
             go_simp
             with_reducible rfl
            rotate_left
            ·exact pP
            refine pure_ (i := 17) (N := some 82) (v := ?_) (a' := ?_) #[true, true, true, true, true, true, true, true, true, true, true, true, true, true, true, true, true, true, false, false, false, false, false, false, false, false, false, false, false, false, false, false, false, false, false] rfl rfl (any_of HT_.out pL) (fun _ _ _ h => h) (Or.inl ⟨by rfl, ?_⟩) ?_ ?_
            rotate_left
            ·intro w'
             go_simp
             with_reducible rfl
            rotate_left
            ·exact pP
            refine pure_ (i := 18) (N := some 83) (v := ?_) (a' := ?_) #[true, true, true, true, true, true, true, true, true, true, true, true, true, true, true, true, true, true, true, false, false, false, false, false, false, false, false, false, false, false, false, false, false, false, false] rfl rfl (any_of HT_.out pL) (fun _ _ _ h => h) (Or.inl ⟨by rfl, ?_⟩) ?_ ?_
            rotate_left
            ·intro w'
             go_simp
             with_reducible rfl
            rotate_left
            ·exact pP
            refine pure_ (i := 19) (N := some 84) (v := ?_) (a' := ?_) #[true, true, true, true, true, true, true, true, true, true, true, true, true, true, true, true, true, true, true, true, false, false, false, false, false, false, false, false, false, false, false, false, false, false, false] rfl rfl (any_of HT_.out pL) (fun _ _ _ h => h) (Or.inl ⟨by rfl, ?_⟩) ?_ ?_
            rotate_left
            ·intro w'
             go_simp
             with_reducible rfl
            rotate_left
            ·exact pP
            refine take_ (i := 20) (N := some 85) (v := ?_) (a' := ?_) #[true, true, true, true, true, true, true, true, true, true, true, true, true, true, true, true, true, true, true, true, true, false, false, false, false, false, false, false, false, false, false, false, false, false, false] rfl rfl (take_ofW HT_.out HW_.out pL) (fun _ _ _ h => h) (Or.inl ⟨by rfl, ?_⟩) hHeld ?_ ?_
            rotate_left
            ·rintro w' ⟨s0, s1, s2, s3, s4, s5, s6, s7, s8, s9, s10, s11⟩
             go_simp
             with_reducible rfl
            rotate_left
            ·exact pP
            refine one_ (i := 21) (N := some 86) #[true, true, true, true, true, true, true, true, true, true, true, true, true, true, true, true, true, true, true, true, true, true, false, false, false, false, false, false, false, false, false, false, false, false, false] rfl rfl (one_of HT_.out pL) (by decide) (fun K hK => ?_)
            refine goes_ Try.func35 pL rfl #[.slice Ao11 t654.length co11, .int .i64 ((rd_T62 t652 x11_2).f0)] (by rfl) rfl rfl pM ?_
            with_reducible refine (laws_hasInt.calls k2 _ _ t654 ((rd_T62 t652 x11_2).f0) true _ ?side1 ?side2 A44.out).mono ?_
            (case side1 => exact pS ((Kd.R_reads' HO_6.out).2.2))
            (case side2 => exact (Kd.R_reads' HO_6.out).2.1)
            rintro e w' ⟨rfl, ⟨nd, rfl⟩⟩
            refine ⟨_, rfl, ?_⟩
            refine hK.out _ _ ⟨hHeld.1, hHeld.2.1, hHeld.2.2.1, hHeld.2.2.2.1, hHeld.2.2.2.2.1, hHeld.2.2.2.2.2.1, hHeld.2.2.2.2.2.2.1, hHeld.2.2.2.2.2.2.2.1, hHeld.2.2.2.2.2.2.2.2.1, hHeld.2.2.2.2.2.2.2.2.2.1, hHeld.2.2.2.2.2.2.2.2.2.2.1, hHeld.2.2.2.2.2.2.2.2.2.2.2⟩ (fun hHeld => ?_)
            clear hK K
            refine norm_ (a' := ?_) ?_ ?_
            rotate_left
            ·show Act.put _ (some 86) _ = _
             exact pP
            refine pure_ (i := 22) (N := some 87) (v := ?_) (a' := ?_) #[true, true, true, true, true, true, true, true, true, true, true, true, true, true, true, true, true, true, true, true, true, true, true, false, false, false, false, false, false, false, false, false, false, false, false] rfl rfl (any_of HT_.out pL) (fun _ _ _ h => h) (Or.inl ⟨by rfl, ?_⟩) ?_ ?_
            rotate_left
            ·intro w'
             go_simp
             with_reducible rfl
            rotate_left
            ·exact pP
            refine pure_ (i := 23) (N := some 88) (v := ?_) (a' := ?_) #[true, true, true, true, true, true, true, true, true, true, true, true, true, true, true, true, true, true, true, true, true, true, true, true, false, false, false, false, false, false, false, false, false, false, false] rfl rfl (any_of HT_.out pL) (fun _ _ _ h => h) (Or.inl ⟨by rfl, ?_⟩) ?_ ?_
            rotate_left
            ·intro w'
             go_simp
             with_reducible rfl
            rotate_left
            ·exact pP
            refine pure_ (i := 24) (N := some 89) (v := undef) (a' := ?_) #[true, true, true, true, true, true, true, true, true, true, true, true, true, true, true, true, true, true, true, true, true, true, true, true, true, false, false, false, false, false, false, false, false, false, false] rfl rfl (any_of HT_.out pL) (fun _ _ _ h => h) (Or.inr ⟨by rfl, rfl⟩) ?_ ?_
            rotate_left
            ·exact pP
            refine pure_ (i := 25) (N := some 90) (v := undef) (a' := ?_) #[true, true, true, true, true, true, true, true, true, true, true, true, true, true, true, true, true, true, true, true, true, true, true, true, true, true, false, false, false, false, false, false, false, false, false] rfl rfl (any_of HT_.out pL) (fun _ _ _ h => h) (Or.inr ⟨by rfl, rfl⟩) ?_ ?_
            rotate_left
            ·exact pP
            refine pure_ (i := 26) (N := some 91) (v := undef) (a' := ?_) #[true, true, true, true, true, true, true, true, true, true, true, true, true, true, true, true, true, true, true, true, true, true, true, true, true, true, true, false, false, false, false, false, false, false, false] rfl rfl (any_of HT_.out pL) (fun _ _ _ h => h) (Or.inr ⟨by rfl, rfl⟩) ?_ ?_
            rotate_left
            ·exact pP
            refine pure_ (i := 27) (N := some 92) (v := undef) (a' := ?_) #[true, true, true, true, true, true, true, true, true, true, true, true, true, true, true, true, true, true, true, true, true, true, true, true, true, true, true, true, false, false, false, false, false, false, false] rfl rfl (any_of HT_.out pL) (fun _ _ _ h => h) (Or.inr ⟨by rfl, rfl⟩) ?_ ?_
            rotate_left
            ·exact pP
            refine pure_ (i := 28) (N := some 93) (v := undef) (a' := ?_) #[true, true, true, true, true, true, true, true, true, true, true, true, true, true, true, true, true, true, true, true, true, true, true, true, true, true, true, true, true, false, false, false, false, false, false] rfl rfl (any_of HT_.out pL) (fun _ _ _ h => h) (Or.inr ⟨by rfl, rfl⟩) ?_ ?_
            rotate_left
            ·exact pP
            refine pure_ (i := 29) (N := some 94) (v := undef) (a' := ?_) #[true, true, true, true, true, true, true, true, true, true, true, true, true, true, true, true, true, true, true, true, true, true, true, true, true, true, true, true, true, true, false, false, false, false, false] rfl rfl (any_of HT_.out pL) (fun _ _ _ h => h) (Or.inr ⟨by rfl, rfl⟩) ?_ ?_
            rotate_left
            ·exact pP
            refine pure_ (i := 30) (N := some 95) (v := undef) (a' := ?_) #[true, true, true, true, true, true, true, true, true, true, true, true, true, true, true, true, true, true, true, true, true, true, true, true, true, true, true, true, true, true, true, false, false, false, false] rfl rfl (any_of HT_.out pL) (fun _ _ _ h => h) (Or.inr ⟨by rfl, rfl⟩) ?_ ?_
            rotate_left
            ·exact pP
            refine pure_ (i := 31) (N := some 96) (v := undef) (a' := ?_) #[true, true, true, true, true, true, true, true, true, true, true, true, true, true, true, true, true, true, true, true, true, true, true, true, true, true, true, true, true, true, true, true, false, false, false] rfl rfl (any_of HT_.out pL) (fun _ _ _ h => h) (Or.inr ⟨by rfl, rfl⟩) ?_ ?_
            rotate_left
            ·exact pP
            refine pure_ (i := 32) (N := some 97) (v := undef) (a' := ?_) #[true, true, true, true, true, true, true, true, true, true, true, true, true, true, true, true, true, true, true, true, true, true, true, true, true, true, true, true, true, true, true, true, true, false, false] rfl rfl (any_of HT_.out pL) (fun _ _ _ h => h) (Or.inr ⟨by rfl, rfl⟩) ?_ ?_
            rotate_left
            ·exact pP
            refine pure_ (i := 33) (N := some 98) (v := ?_) (a' := ?_) #[true, true, true, true, true, true, true, true, true, true, true, true, true, true, true, true, true, true, true, true, true, true, true, true, true, true, true, true, true, true, true, true, true, true, false] rfl rfl (any_of HT_.out pL) (fun _ _ _ h => h) (Or.inl ⟨by rfl, ?_⟩) ?_ ?_
            rotate_left
            ·intro w'
             go_simp
             with_reducible rfl
            rotate_left
            ·exact pP
            refine pure_ (i := 34) (N := some 99) (v := ?_) (a' := ?_) #[true, true, true, true, true, true, true, true, true, true, true, true, true, true, true, true, true, true, true, true, true, true, true, true, true, true, true, true, true, true, true, true, true, true, true] rfl rfl (any_of HT_.out pL) (fun _ _ _ h => h) (Or.inl ⟨by rfl, ?_⟩) ?_ ?_
            rotate_left
            ·intro w'
             go_simp
             with_reducible rfl
            rotate_left
            ·exact pP
            refine done_ (done_of HT_.out pL) ?_
            try go_wp2
            go_roundg k2
            case measure => have := HJ5.out; have := HK2.out; omega
            case rel => exact ⟨(wrap64 (x11_2 + 1)), pF, H', ⟨by have := HJ5.out; have := HK2.out; omega⟩, ⟨pR HO_4⟩, ⟨pR HO_5⟩, ⟨pR HO_6⟩, ⟨pR HO_7⟩, ⟨pB⟩⟩
           ·replace c45 := Bool.eq_false_iff.mpr c45
            subst c45
            have H1 : (if x11_2 < (t653.length : Int) then (if (rd t663 x11_2) < (rd t653 x11_2) then (some false) else (laws_FnSwapNeeds.l0 k2 t652 t653 t654 t663 (wrap64 (x11_2 + 1)))) else (none)) = some r := by rw [if_neg (show ¬ (false = true) by decide)] at H; exact H
            clear H
            have H := H1
            clear H1
            by_cases c48 : x11_2 < (t653.length : Int)
            ·rw [if_pos c48] at H
             have c48b0 : decide (x11_2 < (t653.length : Int)) = true := decide_eq_true c48
             clear c48
             by_cases c49 : (rd t663 x11_2) < (rd t653 x11_2)
             ·rw [if_pos c49] at H
              have c49b0 : decide ((rd t663 x11_2) < (rd t653 x11_2)) = true := decide_eq_true c49
              clear c49
              obtain rfl := Option.some.inj H
              obtain ⟨Ao50, co50, eo50⟩ := Kd.R_slice HO_7.out
              subst eo50
              try go_wp2
              have n0_ := Aside0.mk (Kd.R_drew HO_4.out)
              have n1_ := Aside0.mk (Kd.R_drew HO_5.out)
              have n2_ := Aside0.mk (Kd.R_drew HO_6.out)
              have n3_ := Aside0.mk (Kd.R_drew HO_7.out)
              have n4_ := Aside0.mk (below_drew1 HB.out)
              clear HO_4
              clear HO_5
              clear HO_6
              clear HO_7
              clear HB
              have HO_4 := n0_
              have HO_5 := n1_
              have HO_6 := n2_
              have HO_7 := n3_
              have HB := n4_
              clear n0_ n1_ n2_ n3_ n4_
              have p673 : 0 ≤ (x11_2 : Int) := of_decide_eq_true pA
              have q673 : x11_2 < (t652.length : Int) := of_decide_eq_true pA
              obtain ⟨ad673, e673, hx673_0, hx673_1, hx673_2, hx673_3, hx673_4, hx673_5⟩ := at_T62 (Kd.R_reads' HO_4.out).2.2 x11_2 p673 q673
              cases e673
              replace p673 := eq_true p673
              replace q673 := eq_true q673
              have p680 : 0 ≤ (x11_2 : Int) := of_decide_eq_true pA
              have q680 : x11_2 < (t652.length : Int) := of_decide_eq_true pA
              obtain ⟨ad680, e680, hx680_0, hx680_1, hx680_2, hx680_3, hx680_4, hx680_5⟩ := at_T62 (Kd.R_reads' HO_4.out).2.2 x11_2 p680 q680
              obtain rfl : ad673 = ad680 := (by injection e680)
              replace p680 := eq_true p680
              replace q680 := eq_true q680
              have p682 : 0 ≤ (x11_2 : Int) := of_decide_eq_true pA
              have q682 : x11_2 < (t663.length : Int) := of_decide_eq_true pA
              obtain ⟨ad682, e682, hx682_0⟩ := Kd.at_int (Kd.R_reads' HO_7.out).2.2 x11_2 p682 q682
              cases e682
              replace p682 := eq_true p682
              replace q682 := eq_true q682
              have p683 : 0 ≤ (x11_2 : Int) := of_decide_eq_true pA
              have q683 : x11_2 < (t653.length : Int) := of_decide_eq_true pA
              obtain ⟨ad683, e683, hx683_0⟩ := Kd.at_int (Kd.R_reads' HO_5.out).2.2 x11_2 p683 q683
              cases e683
              replace p683 := eq_true p683
              replace q683 := eq_true q683
              refine start_ (n := 35) (S := fun w' => w'.cell? (ad673.add ((x11_2).toNat * 6)) = some (.int .i64 ((rd_T62 t652 x11_2).f0)) ∧ w'.cell? ⟨(ad673.add ((x11_2).toNat * 6)).block, (ad673.add ((x11_2).toNat * 6)).off + 1, none⟩ = some (.int .i64 ((rd_T62 t652 x11_2).f1)) ∧ w'.cell? ⟨(ad673.add ((x11_2).toNat * 6)).block, (ad673.add ((x11_2).toNat * 6)).off + 2, none⟩ = some (.int .i64 ((rd_T62 t652 x11_2).f2)) ∧ w'.cell? ⟨(ad673.add ((x11_2).toNat * 6)).block, (ad673.add ((x11_2).toNat * 6)).off + 3, none⟩ = some (.int .i64 ((rd_T62 t652 x11_2).f3)) ∧ w'.cell? ⟨(ad673.add ((x11_2).toNat * 6)).block, (ad673.add ((x11_2).toNat * 6)).off + 4, none⟩ = some (.int .i64 ((rd_T62 t652 x11_2).f4)) ∧ w'.cell? ⟨(ad673.add ((x11_2).toNat * 6)).block, (ad673.add ((x11_2).toNat * 6)).off + 5, none⟩ = some (.int .i64 ((rd_T62 t652 x11_2).f5)) ∧ w'.cell? (ad673.add ((x11_2).toNat * 6)) = some (.int .i64 ((rd_T62 t652 x11_2).f0)) ∧ w'.cell? ⟨(ad673.add ((x11_2).toNat * 6)).block, (ad673.add ((x11_2).toNat * 6)).off + 1, none⟩ = some (.int .i64 ((rd_T62 t652 x11_2).f1)) ∧ w'.cell? ⟨(ad673.add ((x11_2).toNat * 6)).block, (ad673.add ((x11_2).toNat * 6)).off + 2, none⟩ = some (.int .i64 ((rd_T62 t652 x11_2).f2)) ∧ w'.cell? ⟨(ad673.add ((x11_2).toNat * 6)).block, (ad673.add ((x11_2).toNat * 6)).off + 3, none⟩ = some (.int .i64 ((rd_T62 t652 x11_2).f3)) ∧ w'.cell? ⟨(ad673.add ((x11_2).toNat * 6)).block, (ad673.add ((x11_2).toNat * 6)).off + 4, none⟩ = some (.int .i64 ((rd_T62 t652 x11_2).f4)) ∧ w'.cell? ⟨(ad673.add ((x11_2).toNat * 6)).block, (ad673.add ((x11_2).toNat * 6)).off + 5, none⟩ = some (.int .i64 ((rd_T62 t652 x11_2).f5)) ∧ w'.cell? (ad682.add (x11_2).toNat) = some (.int .i64 (rd t663 x11_2)) ∧ w'.cell? (ad683.add (x11_2).toNat) = some (.int .i64 (rd t653 x11_2))) (ds := []) #[false, false, false, false, false, false, false, false, false, false, false, false, false, false, false, false, false, false, false, false, false, false, false, false, false, false, false, false, false, false, false, false, false, false, false] pL rfl rfl ⟨hx673_0, hx673_1, hx673_2, hx673_3, hx673_4, hx673_5, hx680_0, hx680_1, hx680_2, hx680_3, hx680_4, hx680_5, hx682_0, hx683_0⟩ (fun hHeld => ?_); refine with_tabW laws_FnSwapNeeds.tab11 laws_FnSwapNeeds.bits11 (fun HT_ HW_ => ?_)
              generalize wr.drew = w51 at HO_4 HO_5 HO_6 HO_7 HB hx673_0 hx673_1 hx673_2 hx673_3 hx673_4 hx673_5 hx680_0 hx680_1 hx680_2 hx680_3 hx680_4 hx680_5 hx682_0 hx683_0 hHeld ⊢
              refine pure_ (i := 0) (N := some 65) (v := ?_) (a' := ?_) #[true, false, false, false, false, false, false, false, false, false, false, false, false, false, false, false, false, false, false, false, false, false, false, false, false, false, false, false, false, false, false, false, false, false, false] rfl rfl (any_of HT_.out pL) (fun _ _ _ h => h) (Or.inl ⟨by rfl, ?_⟩) ?_ ?_
              rotate_left
              ·intro w'
               go_simp
               with_reducible rfl
              rotate_left
              ·exact pP
              refine pure_ (i := 1) (N := some 66) (v := ?_) (a' := ?_) #[true, true, false, false, false, false, false, false, false, false, false, false, false, false, false, false, false, false, false, false, false, false, false, false, false, false, false, false, false, false, false, false, false, false, false] rfl rfl (any_of HT_.out pL) (fun _ _ _ h => h) (Or.inl ⟨by rfl, ?_⟩) ?_ ?_
              rotate_left
              ·intro w'
               go_simp
               with_reducible rfl
              rotate_left
              ·exact pP
              refine pure_ (i := 2) (N := some 67) (v := ?_) (a' := ?_) #[true, true, true, false, false, false, false, false, false, false, false, false, false, false, false, false, false, false, false, false, false, false, false, false, false, false, false, false, false, false, false, false, false, false, false] rfl rfl (any_of HT_.out pL) (fun _ _ _ h => h) (Or.inl ⟨by rfl, ?_⟩) ?_ ?_
              rotate_left
              ·intro w'
               go_simp
               with_reducible rfl
              rotate_left
              ·exact pP
              refine pure_ (i := 3) (N := some 68) (v := ?_) (a' := ?_) #[true, true, true, true, false, false, false, false, false, false, false, false, false, false, false, false, false, false, false, false, false, false, false, false, false, false, false, false, false, false, false, false, false, false, false] rfl rfl (any_of HT_.out pL) (fun _ _ _ h => h) (Or.inl ⟨by rfl, ?_⟩) ?_ ?_
              rotate_left
              ·intro w'
               go_simp
               with_reducible rfl
              rotate_left
              ·exact pP
              refine pure_ (i := 4) (N := some 69) (v := ?_) (a' := ?_) #[true, true, true, true, true, false, false, false, false, false, false, false, false, false, false, false, false, false, false, false, false, false, false, false, false, false, false, false, false, false, false, false, false, false, false] rfl rfl (any_of HT_.out pL) (fun _ _ _ h => h) (Or.inl ⟨by rfl, ?_⟩) ?_ ?_
              rotate_left
              ·intro w'
               go_simp
               with_reducible rfl
              rotate_left
              ·exact pP
              refine take_ (i := 5) (N := some 70) (v := ?_) (a' := ?_) #[true, true, true, true, true, true, false, false, false, false, false, false, false, false, false, false, false, false, false, false, false, false, false, false, false, false, false, false, false, false, false, false, false, false, false] rfl rfl (take_ofW HT_.out HW_.out pL) (fun _ _ _ h => h) (Or.inl ⟨by rfl, ?_⟩) hHeld ?_ ?_
              rotate_left
              ·rintro w' ⟨s0, s1, s2, s3, s4, s5, s6, s7, s8, s9, s10, s11, s12, s13⟩
               go_simp
               with_reducible rfl
              rotate_left
              ·exact pP
              refine one_ (i := 6) (N := some 71) #[true, true, true, true, true, true, true, false, false, false, false, false, false, false, false, false, false, false, false, false, false, false, false, false, false, false, false, false, false, false, false, false, false, false, false] rfl rfl (one_of HT_.out pL) (by decide) (fun K hK => ?_)
              refine goes_ Try.func35 pL rfl #[.slice Ao11 t654.length co11, .int .i64 ((rd_T62 t652 x11_2).f0)] (by rfl) rfl rfl pM ?_
              with_reducible refine (laws_hasInt.calls k2 _ _ t654 ((rd_T62 t652 x11_2).f0) false _ ?side1 ?side2 A29.out).mono ?_
              (case side1 => exact pS ((Kd.R_reads' HO_6.out).2.2))
              (case side2 => exact (Kd.R_reads' HO_6.out).2.1)
              rintro e w' ⟨rfl, ⟨nd, rfl⟩⟩
              refine ⟨_, rfl, ?_⟩
              refine hK.out _ _ ⟨hHeld.1, hHeld.2.1, hHeld.2.2.1, hHeld.2.2.2.1, hHeld.2.2.2.2.1, hHeld.2.2.2.2.2.1, hHeld.2.2.2.2.2.2.1, hHeld.2.2.2.2.2.2.2.1, hHeld.2.2.2.2.2.2.2.2.1, hHeld.2.2.2.2.2.2.2.2.2.1, hHeld.2.2.2.2.2.2.2.2.2.2.1, hHeld.2.2.2.2.2.2.2.2.2.2.2.1, hHeld.2.2.2.2.2.2.2.2.2.2.2.2.1, hHeld.2.2.2.2.2.2.2.2.2.2.2.2.2⟩ (fun hHeld => ?_)
              clear hK K
              refine norm_ (a' := ?_) ?_ ?_
              rotate_left
              ·show Act.put _ (some 71) _ = _
               exact pP
              refine pure_ (i := 7) (N := some 72) (v := ?_) (a' := ?_) #[true, true, true, true, true, true, true, true, false, false, false, false, false, false, false, false, false, false, false, false, false, false, false, false, false, false, false, false, false, false, false, false, false, false, false] rfl rfl (any_of HT_.out pL) (fun _ _ _ h => h) (Or.inl ⟨by rfl, ?_⟩) ?_ ?_
              rotate_left
              ·intro w'
               go_simp
               with_reducible rfl
              rotate_left
              ·exact pP
              refine pure_ (i := 8) (N := some 73) (v := undef) (a' := ?_) #[true, true, true, true, true, true, true, true, true, false, false, false, false, false, false, false, false, false, false, false, false, false, false, false, false, false, false, false, false, false, false, false, false, false, false] rfl rfl (any_of HT_.out pL) (fun _ _ _ h => h) (Or.inr ⟨by rfl, rfl⟩) ?_ ?_
              rotate_left
              ·exact pP
              refine pure_ (i := 9) (N := some 74) (v := undef) (a' := ?_) #[true, true, true, true, true, true, true, true, true, true, false, false, false, false, false, false, false, false, false, false, false, false, false, false, false, false, false, false, false, false, false, false, false, false, false] rfl rfl (any_of HT_.out pL) (fun _ _ _ h => h) (Or.inr ⟨by rfl, rfl⟩) ?_ ?_
              rotate_left
              ·exact pP
              refine pure_ (i := 10) (N := some 75) (v := undef) (a' := ?_) #[true, true, true, true, true, true, true, true, true, true, true, false, false, false, false, false, false, false, false, false, false, false, false, false, false, false, false, false, false, false, false, false, false, false, false] rfl rfl (any_of HT_.out pL) (fun _ _ _ h => h) (Or.inr ⟨by rfl, rfl⟩) ?_ ?_
              rotate_left
              ·exact pP
              refine pure_ (i := 11) (N := some 76) (v := undef) (a' := ?_) #[true, true, true, true, true, true, true, true, true, true, true, true, false, false, false, false, false, false, false, false, false, false, false, false, false, false, false, false, false, false, false, false, false, false, false] rfl rfl (any_of HT_.out pL) (fun _ _ _ h => h) (Or.inr ⟨by rfl, rfl⟩) ?_ ?_
              rotate_left
              ·exact pP
              refine pure_ (i := 12) (N := some 77) (v := undef) (a' := ?_) #[true, true, true, true, true, true, true, true, true, true, true, true, true, false, false, false, false, false, false, false, false, false, false, false, false, false, false, false, false, false, false, false, false, false, false] rfl rfl (any_of HT_.out pL) (fun _ _ _ h => h) (Or.inr ⟨by rfl, rfl⟩) ?_ ?_
              rotate_left
              ·exact pP
              refine pure_ (i := 13) (N := some 78) (v := ?_) (a' := ?_) #[true, true, true, true, true, true, true, true, true, true, true, true, true, true, false, false, false, false, false, false, false, false, false, false, false, false, false, false, false, false, false, false, false, false, false] rfl rfl (any_of HT_.out pL) (fun _ _ _ h => h) (Or.inl ⟨by rfl, ?_⟩) ?_ ?_
              rotate_left
              ·intro w'
               go_simp
               with_reducible rfl
              rotate_left
              ·exact pP
              refine pure_ (i := 14) (N := some 79) (v := ?_) (a' := ?_) #[true, true, true, true, true, true, true, true, true, true, true, true, true, true, true, false, false, false, false, false, false, false, false, false, false, false, false, false, false, false, false, false, false, false, false] rfl rfl (any_of HT_.out pL) (fun _ _ _ h => h) (Or.inl ⟨by rfl, ?_⟩) ?_ ?_
              rotate_left
              ·intro w'
               go_simp
               with_reducible rfl
              rotate_left
              ·exact pP
              refine pure_ (i := 15) (N := some 80) (v := ?_) (a' := ?_) #[true, true, true, true, true, true, true, true, true, true, true, true, true, true, true, true, false, false, false, false, false, false, false, false, false, false, false, false, false, false, false, false, false, false, false] rfl rfl (any_of HT_.out pL) (fun _ _ _ h => h) (Or.inl ⟨by rfl, ?_⟩) ?_ ?_
              rotate_left
              ·intro w'
               go_simp
               with_reducible rfl
              rotate_left
              ·exact pP
              refine pure_ (i := 16) (N := some 81) (v := ?_) (a' := ?_) #[true, true, true, true, true, true, true, true, true, true, true, true, true, true, true, true, true, false, false, false, false, false, false, false, false, false, false, false, false, false, false, false, false, false, false] rfl rfl (any_of HT_.out pL) (fun _ _ _ h => h) (Or.inl ⟨by rfl, ?_⟩) ?_ ?_
              rotate_left
              ·intro w'
               go_simp
               with_reducible rfl
              rotate_left
              ·exact pP
              refine pure_ (i := 17) (N := some 82) (v := ?_) (a' := ?_) #[true, true, true, true, true, true, true, true, true, true, true, true, true, true, true, true, true, true, false, false, false, false, false, false, false, false, false, false, false, false, false, false, false, false, false] rfl rfl (any_of HT_.out pL) (fun _ _ _ h => h) (Or.inl ⟨by rfl, ?_⟩) ?_ ?_
              rotate_left
              ·intro w'
               go_simp
               with_reducible rfl
              rotate_left
              ·exact pP
              refine pure_ (i := 18) (N := some 83) (v := ?_) (a' := ?_) #[true, true, true, true, true, true, true, true, true, true, true, true, true, true, true, true, true, true, true, false, false, false, false, false, false, false, false, false, false, false, false, false, false, false, false] rfl rfl (any_of HT_.out pL) (fun _ _ _ h => h) (Or.inl ⟨by rfl, ?_⟩) ?_ ?_
              rotate_left
              ·intro w'
               go_simp
               with_reducible rfl
              rotate_left
              ·exact pP
              refine pure_ (i := 19) (N := some 84) (v := ?_) (a' := ?_) #[true, true, true, true, true, true, true, true, true, true, true, true, true, true, true, true, true, true, true, true, false, false, false, false, false, false, false, false, false, false, false, false, false, false, false] rfl rfl (any_of HT_.out pL) (fun _ _ _ h => h) (Or.inl ⟨by rfl, ?_⟩) ?_ ?_
              rotate_left
              ·intro w'
               go_simp
               with_reducible rfl
              rotate_left
              ·exact pP
              refine take_ (i := 20) (N := some 85) (v := ?_) (a' := ?_) #[true, true, true, true, true, true, true, true, true, true, true, true, true, true, true, true, true, true, true, true, true, false, false, false, false, false, false, false, false, false, false, false, false, false, false] rfl rfl (take_ofW HT_.out HW_.out pL) (fun _ _ _ h => h) (Or.inl ⟨by rfl, ?_⟩) hHeld ?_ ?_
              rotate_left
              ·rintro w' ⟨s0, s1, s2, s3, s4, s5, s6, s7, s8, s9, s10, s11, s12, s13⟩
               go_simp
               with_reducible rfl
              rotate_left
              ·exact pP
              refine one_ (i := 21) (N := some 86) #[true, true, true, true, true, true, true, true, true, true, true, true, true, true, true, true, true, true, true, true, true, true, false, false, false, false, false, false, false, false, false, false, false, false, false] rfl rfl (one_of HT_.out pL) (by decide) (fun K hK => ?_)
              refine goes_ Try.func35 pL rfl #[.slice Ao11 t654.length co11, .int .i64 ((rd_T62 t652 x11_2).f0)] (by rfl) rfl rfl pM ?_
              with_reducible refine (laws_hasInt.calls k2 _ _ t654 ((rd_T62 t652 x11_2).f0) false _ ?side1 ?side2 A44.out).mono ?_
              (case side1 => exact pS ((Kd.R_reads' HO_6.out).2.2))
              (case side2 => exact (Kd.R_reads' HO_6.out).2.1)
              rintro e w' ⟨rfl, ⟨nd, rfl⟩⟩
              refine ⟨_, rfl, ?_⟩
              refine hK.out _ _ ⟨hHeld.1, hHeld.2.1, hHeld.2.2.1, hHeld.2.2.2.1, hHeld.2.2.2.2.1, hHeld.2.2.2.2.2.1, hHeld.2.2.2.2.2.2.1, hHeld.2.2.2.2.2.2.2.1, hHeld.2.2.2.2.2.2.2.2.1, hHeld.2.2.2.2.2.2.2.2.2.1, hHeld.2.2.2.2.2.2.2.2.2.2.1, hHeld.2.2.2.2.2.2.2.2.2.2.2.1, hHeld.2.2.2.2.2.2.2.2.2.2.2.2.1, hHeld.2.2.2.2.2.2.2.2.2.2.2.2.2⟩ (fun hHeld => ?_)
              clear hK K
              refine norm_ (a' := ?_) ?_ ?_
              rotate_left
              ·show Act.put _ (some 86) _ = _
               exact pP
              refine pure_ (i := 22) (N := some 87) (v := ?_) (a' := ?_) #[true, true, true, true, true, true, true, true, true, true, true, true, true, true, true, true, true, true, true, true, true, true, true, false, false, false, false, false, false, false, false, false, false, false, false] rfl rfl (any_of HT_.out pL) (fun _ _ _ h => h) (Or.inl ⟨by rfl, ?_⟩) ?_ ?_
              rotate_left
              ·intro w'
               go_simp
               with_reducible rfl
              rotate_left
              ·exact pP
              refine pure_ (i := 23) (N := some 88) (v := ?_) (a' := ?_) #[true, true, true, true, true, true, true, true, true, true, true, true, true, true, true, true, true, true, true, true, true, true, true, true, false, false, false, false, false, false, false, false, false, false, false] rfl rfl (any_of HT_.out pL) (fun _ _ _ h => h) (Or.inl ⟨by rfl, ?_⟩) ?_ ?_
              rotate_left
              ·intro w'
               go_simp
               with_reducible rfl
              rotate_left
              ·exact pP
              refine pure_ (i := 24) (N := some 89) (v := ?_) (a' := ?_) #[true, true, true, true, true, true, true, true, true, true, true, true, true, true, true, true, true, true, true, true, true, true, true, true, true, false, false, false, false, false, false, false, false, false, false] rfl rfl (any_of HT_.out pL) (fun _ _ _ h => h) (Or.inl ⟨by rfl, ?_⟩) ?_ ?_
              rotate_left
              ·intro w'
               go_simp
               with_reducible rfl
              rotate_left
              ·exact pP
              refine pure_ (i := 25) (N := some 90) (v := ?_) (a' := ?_) #[true, true, true, true, true, true, true, true, true, true, true, true, true, true, true, true, true, true, true, true, true, true, true, true, true, true, false, false, false, false, false, false, false, false, false] rfl rfl (any_of HT_.out pL) (fun _ _ _ h => h) (Or.inl ⟨by rfl, ?_⟩) ?_ ?_
              rotate_left
              ·intro w'
               go_simp
               with_reducible rfl
              rotate_left
              ·exact pP
              refine pure_ (i := 26) (N := some 91) (v := ?_) (a' := ?_) #[true, true, true, true, true, true, true, true, true, true, true, true, true, true, true, true, true, true, true, true, true, true, true, true, true, true, true, false, false, false, false, false, false, false, false] rfl rfl (any_of HT_.out pL) (fun _ _ _ h => h) (Or.inl ⟨by rfl, ?_⟩) ?_ ?_
              rotate_left
              ·intro w'
               go_simp
               with_reducible rfl
              rotate_left
              ·exact pP
              refine pure_ (i := 28) (N := some 93) (v := ?_) (a' := ?_) #[true, true, true, true, true, true, true, true, true, true, true, true, true, true, true, true, true, true, true, true, true, true, true, true, true, true, true, false, true, false, false, false, false, false, false] rfl rfl (any_of HT_.out pL) (fun _ _ _ h => h) (Or.inl ⟨by rfl, ?_⟩) ?_ ?_
              rotate_left
              ·intro w'
               go_simp
               with_reducible rfl
              rotate_left
              ·exact pP
              refine pure_ (i := 29) (N := some 94) (v := ?_) (a' := ?_) #[true, true, true, true, true, true, true, true, true, true, true, true, true, true, true, true, true, true, true, true, true, true, true, true, true, true, true, false, true, true, false, false, false, false, false] rfl rfl (any_of HT_.out pL) (fun _ _ _ h => h) (Or.inl ⟨by rfl, ?_⟩) ?_ ?_
              rotate_left
              ·intro w'
               go_simp
               with_reducible rfl
              rotate_left
              ·exact pP
              refine pure_ (i := 30) (N := some 95) (v := ?_) (a' := ?_) #[true, true, true, true, true, true, true, true, true, true, true, true, true, true, true, true, true, true, true, true, true, true, true, true, true, true, true, false, true, true, true, false, false, false, false] rfl rfl (any_of HT_.out pL) (fun _ _ _ h => h) (Or.inl ⟨by rfl, ?_⟩) ?_ ?_
              rotate_left
              ·intro w'
               go_simp
               with_reducible rfl
              rotate_left
              ·exact pP
              refine take_ (i := 27) (N := some 92) (v := ?_) (a' := ?_) #[true, true, true, true, true, true, true, true, true, true, true, true, true, true, true, true, true, true, true, true, true, true, true, true, true, true, true, true, true, true, true, false, false, false, false] rfl rfl (take_ofW HT_.out HW_.out pL) (fun _ _ _ h => h) (Or.inl ⟨by rfl, ?_⟩) hHeld ?_ ?_
              rotate_left
              ·rintro w' ⟨s0, s1, s2, s3, s4, s5, s6, s7, s8, s9, s10, s11, s12, s13⟩
               go_simp
               with_reducible rfl
              rotate_left
              ·exact pP
              refine take_ (i := 31) (N := some 96) (v := ?_) (a' := ?_) #[true, true, true, true, true, true, true, true, true, true, true, true, true, true, true, true, true, true, true, true, true, true, true, true, true, true, true, true, true, true, true, true, false, false, false] rfl rfl (take_ofW HT_.out HW_.out pL) (fun _ _ _ h => h) (Or.inl ⟨by rfl, ?_⟩) hHeld ?_ ?_
              rotate_left
              ·rintro w' ⟨s0, s1, s2, s3, s4, s5, s6, s7, s8, s9, s10, s11, s12, s13⟩
               go_simp
               with_reducible rfl
              rotate_left
              ·exact pP
              refine pure_ (i := 32) (N := some 97) (v := ?_) (a' := ?_) #[true, true, true, true, true, true, true, true, true, true, true, true, true, true, true, true, true, true, true, true, true, true, true, true, true, true, true, true, true, true, true, true, true, false, false] rfl rfl (any_of HT_.out pL) (fun _ _ _ h => h) (Or.inl ⟨by rfl, ?_⟩) ?_ ?_
              rotate_left
              ·intro w'
               go_simp
               with_reducible rfl
              rotate_left
              ·exact pP
              refine pure_ (i := 33) (N := some 98) (v := ?_) (a' := ?_) #[true, true, true, true, true, true, true, true, true, true, true, true, true, true, true, true, true, true, true, true, true, true, true, true, true, true, true, true, true, true, true, true, true, true, false] rfl rfl (any_of HT_.out pL) (fun _ _ _ h => h) (Or.inl ⟨by rfl, ?_⟩) ?_ ?_
              rotate_left
              ·intro w'
               go_simp
               with_reducible rfl
              rotate_left
              ·exact pP
              refine pure_ (i := 34) (N := some 99) (v := ?_) (a' := ?_) #[true, true, true, true, true, true, true, true, true, true, true, true, true, true, true, true, true, true, true, true, true, true, true, true, true, true, true, true, true, true, true, true, true, true, true] rfl rfl (any_of HT_.out pL) (fun _ _ _ h => h) (Or.inl ⟨by rfl, ?_⟩) ?_ ?_
              rotate_left
              ·intro w'
               go_simp
               with_reducible rfl
              rotate_left
              ·exact pP
              refine done_ (done_of HT_.out pL) ?_
              try go_wp2
              go_ret
              exact ⟨pE, pB⟩
             ·rw [if_neg c49] at H
              have c49b0 : decide ((rd t663 x11_2) < (rd t653 x11_2)) = false := decide_eq_false c49
              clear c49
              have H' := Aside0.mk H
              clear H
              obtain ⟨Ao52, co52, eo52⟩ := Kd.R_slice HO_7.out
              subst eo52
              try go_wp2
              have n0_ := Aside0.mk (Kd.R_drew HO_4.out)
              have n1_ := Aside0.mk (Kd.R_drew HO_5.out)
              have n2_ := Aside0.mk (Kd.R_drew HO_6.out)
              have n3_ := Aside0.mk (Kd.R_drew HO_7.out)
              have n4_ := Aside0.mk (below_drew1 HB.out)
              clear HO_4
              clear HO_5
              clear HO_6
              clear HO_7
              clear HB
              have HO_4 := n0_
              have HO_5 := n1_
              have HO_6 := n2_
              have HO_7 := n3_
              have HB := n4_
              clear n0_ n1_ n2_ n3_ n4_
              have p673 : 0 ≤ (x11_2 : Int) := of_decide_eq_true pA
              have q673 : x11_2 < (t652.length : Int) := of_decide_eq_true pA
              obtain ⟨ad673, e673, hx673_0, hx673_1, hx673_2, hx673_3, hx673_4, hx673_5⟩ := at_T62 (Kd.R_reads' HO_4.out).2.2 x11_2 p673 q673
              cases e673
              replace p673 := eq_true p673
              replace q673 := eq_true q673
              have p680 : 0 ≤ (x11_2 : Int) := of_decide_eq_true pA
              have q680 : x11_2 < (t652.length : Int) := of_decide_eq_true pA
              obtain ⟨ad680, e680, hx680_0, hx680_1, hx680_2, hx680_3, hx680_4, hx680_5⟩ := at_T62 (Kd.R_reads' HO_4.out).2.2 x11_2 p680 q680
              obtain rfl : ad673 = ad680 := (by injection e680)
              replace p680 := eq_true p680
              replace q680 := eq_true q680
              have p682 : 0 ≤ (x11_2 : Int) := of_decide_eq_true pA
              have q682 : x11_2 < (t663.length : Int) := of_decide_eq_true pA
              obtain ⟨ad682, e682, hx682_0⟩ := Kd.at_int (Kd.R_reads' HO_7.out).2.2 x11_2 p682 q682
              cases e682
              replace p682 := eq_true p682
              replace q682 := eq_true q682
              have p683 : 0 ≤ (x11_2 : Int) := of_decide_eq_true pA
              have q683 : x11_2 < (t653.length : Int) := of_decide_eq_true pA
              obtain ⟨ad683, e683, hx683_0⟩ := Kd.at_int (Kd.R_reads' HO_5.out).2.2 x11_2 p683 q683
              cases e683
              replace p683 := eq_true p683
              replace q683 := eq_true q683
              refine start_ (n := 35) (S := fun w' => w'.cell? (ad673.add ((x11_2).toNat * 6)) = some (.int .i64 ((rd_T62 t652 x11_2).f0)) ∧ w'.cell? ⟨(ad673.add ((x11_2).toNat * 6)).block, (ad673.add ((x11_2).toNat * 6)).off + 1, none⟩ = some (.int .i64 ((rd_T62 t652 x11_2).f1)) ∧ w'.cell? ⟨(ad673.add ((x11_2).toNat * 6)).block, (ad673.add ((x11_2).toNat * 6)).off + 2, none⟩ = some (.int .i64 ((rd_T62 t652 x11_2).f2)) ∧ w'.cell? ⟨(ad673.add ((x11_2).toNat * 6)).block, (ad673.add ((x11_2).toNat * 6)).off + 3, none⟩ = some (.int .i64 ((rd_T62 t652 x11_2).f3)) ∧ w'.cell? ⟨(ad673.add ((x11_2).toNat * 6)).block, (ad673.add ((x11_2).toNat * 6)).off + 4, none⟩ = some (.int .i64 ((rd_T62 t652 x11_2).f4)) ∧ w'.cell? ⟨(ad673.add ((x11_2).toNat * 6)).block, (ad673.add ((x11_2).toNat * 6)).off + 5, none⟩ = some (.int .i64 ((rd_T62 t652 x11_2).f5)) ∧ w'.cell? (ad673.add ((x11_2).toNat * 6)) = some (.int .i64 ((rd_T62 t652 x11_2).f0)) ∧ w'.cell? ⟨(ad673.add ((x11_2).toNat * 6)).block, (ad673.add ((x11_2).toNat * 6)).off + 1, none⟩ = some (.int .i64 ((rd_T62 t652 x11_2).f1)) ∧ w'.cell? ⟨(ad673.add ((x11_2).toNat * 6)).block, (ad673.add ((x11_2).toNat * 6)).off + 2, none⟩ = some (.int .i64 ((rd_T62 t652 x11_2).f2)) ∧ w'.cell? ⟨(ad673.add ((x11_2).toNat * 6)).block, (ad673.add ((x11_2).toNat * 6)).off + 3, none⟩ = some (.int .i64 ((rd_T62 t652 x11_2).f3)) ∧ w'.cell? ⟨(ad673.add ((x11_2).toNat * 6)).block, (ad673.add ((x11_2).toNat * 6)).off + 4, none⟩ = some (.int .i64 ((rd_T62 t652 x11_2).f4)) ∧ w'.cell? ⟨(ad673.add ((x11_2).toNat * 6)).block, (ad673.add ((x11_2).toNat * 6)).off + 5, none⟩ = some (.int .i64 ((rd_T62 t652 x11_2).f5)) ∧ w'.cell? (ad682.add (x11_2).toNat) = some (.int .i64 (rd t663 x11_2)) ∧ w'.cell? (ad683.add (x11_2).toNat) = some (.int .i64 (rd t653 x11_2))) (ds := []) #[false, false, false, false, false, false, false, false, false, false, false, false, false, false, false, false, false, false, false, false, false, false, false, false, false, false, false, false, false, false, false, false, false, false, false] pL rfl rfl ⟨hx673_0, hx673_1, hx673_2, hx673_3, hx673_4, hx673_5, hx680_0, hx680_1, hx680_2, hx680_3, hx680_4, hx680_5, hx682_0, hx683_0⟩ (fun hHeld => ?_); refine with_tabW laws_FnSwapNeeds.tab11 laws_FnSwapNeeds.bits11 (fun HT_ HW_ => ?_)
              generalize wr.drew = w53 at HO_4 HO_5 HO_6 HO_7 HB hx673_0 hx673_1 hx673_2 hx673_3 hx673_4 hx673_5 hx680_0 hx680_1 hx680_2 hx680_3 hx680_4 hx680_5 hx682_0 hx683_0 hHeld ⊢
              refine pure_ (i := 0) (N := some 65) (v := ?_) (a' := ?_) #[true, false, false, false, false, false, false, false, false, false, false, false, false, false, false, false, false, false, false, false, false, false, false, false, false, false, false, false, false, false, false, false, false, false, false] rfl rfl (any_of HT_.out pL) (fun _ _ _ h => h) (Or.inl ⟨by rfl, ?_⟩) ?_ ?_
              rotate_left
              ·intro w'
               go_simp
               with_reducible rfl
              rotate_left
              ·exact pP
              refine pure_ (i := 1) (N := some 66) (v := ?_) (a' := ?_) #[true, true, false, false, false, false, false, false, false, false, false, false, false, false, false, false, false, false, false, false, false, false, false, false, false, false, false, false, false, false, false, false, false, false, false] rfl rfl (any_of HT_.out pL) (fun _ _ _ h => h) (Or.inl ⟨by rfl, ?_⟩) ?_ ?_
              rotate_left
              ·intro w'
               go_simp
               with_reducible rfl
              rotate_left
              ·exact pP
              refine pure_ (i := 2) (N := some 67) (v := ?_) (a' := ?_) #[true, true, true, false, false, false, false, false, false, false, false, false, false, false, false, false, false, false, false, false, false, false, false, false, false, false, false, false, false, false, false, false, false, false, false] rfl rfl (any_of HT_.out pL) (fun _ _ _ h => h) (Or.inl ⟨by rfl, ?_⟩) ?_ ?_
              rotate_left
              ·intro w'
               go_simp
               with_reducible rfl
              rotate_left
              ·exact pP
              refine pure_ (i := 3) (N := some 68) (v := ?_) (a' := ?_) #[true, true, true, true, false, false, false, false, false, false, false, false, false, false, false, false, false, false, false, false, false, false, false, false, false, false, false, false, false, false, false, false, false, false, false] rfl rfl (any_of HT_.out pL) (fun _ _ _ h => h) (Or.inl ⟨by rfl, ?_⟩) ?_ ?_
              rotate_left
              ·intro w'
               go_simp
               with_reducible rfl
              rotate_left
              ·exact pP
              refine pure_ (i := 4) (N := some 69) (v := ?_) (a' := ?_) #[true, true, true, true, true, false, false, false, false, false, false, false, false, false, false, false, false, false, false, false, false, false, false, false, false, false, false, false, false, false, false, false, false, false, false] rfl rfl (any_of HT_.out pL) (fun _ _ _ h => h) (Or.inl ⟨by rfl, ?_⟩) ?_ ?_
              rotate_left
              ·intro w'
               go_simp
               with_reducible rfl
              rotate_left
              ·exact pP
              refine take_ (i := 5) (N := some 70) (v := ?_) (a' := ?_) #[true, true, true, true, true, true, false, false, false, false, false, false, false, false, false, false, false, false, false, false, false, false, false, false, false, false, false, false, false, false, false, false, false, false, false] rfl rfl (take_ofW HT_.out HW_.out pL) (fun _ _ _ h => h) (Or.inl ⟨by rfl, ?_⟩) hHeld ?_ ?_
              rotate_left
              ·rintro w' ⟨s0, s1, s2, s3, s4, s5, s6, s7, s8, s9, s10, s11, s12, s13⟩
               go_simp
               with_reducible rfl
              rotate_left
              ·exact pP
              refine one_ (i := 6) (N := some 71) #[true, true, true, true, true, true, true, false, false, false, false, false, false, false, false, false, false, false, false, false, false, false, false, false, false, false, false, false, false, false, false, false, false, false, false] rfl rfl (one_of HT_.out pL) (by decide) (fun K hK => ?_)
              refine goes_ Try.func35 pL rfl #[.slice Ao11 t654.length co11, .int .i64 ((rd_T62 t652 x11_2).f0)] (by rfl) rfl rfl pM ?_
              with_reducible refine (laws_hasInt.calls k2 _ _ t654 ((rd_T62 t652 x11_2).f0) false _ ?side1 ?side2 A29.out).mono ?_
              (case side1 => exact pS ((Kd.R_reads' HO_6.out).2.2))
              (case side2 => exact (Kd.R_reads' HO_6.out).2.1)
              rintro e w' ⟨rfl, ⟨nd, rfl⟩⟩
              refine ⟨_, rfl, ?_⟩
              refine hK.out _ _ ⟨hHeld.1, hHeld.2.1, hHeld.2.2.1, hHeld.2.2.2.1, hHeld.2.2.2.2.1, hHeld.2.2.2.2.2.1, hHeld.2.2.2.2.2.2.1, hHeld.2.2.2.2.2.2.2.1, hHeld.2.2.2.2.2.2.2.2.1, hHeld.2.2.2.2.2.2.2.2.2.1, hHeld.2.2.2.2.2.2.2.2.2.2.1, hHeld.2.2.2.2.2.2.2.2.2.2.2.1, hHeld.2.2.2.2.2.2.2.2.2.2.2.2.1, hHeld.2.2.2.2.2.2.2.2.2.2.2.2.2⟩ (fun hHeld => ?_)
              clear hK K
              refine norm_ (a' := ?_) ?_ ?_
              rotate_left
              ·show Act.put _ (some 71) _ = _
               exact pP
              refine pure_ (i := 7) (N := some 72) (v := ?_) (a' := ?_) #[true, true, true, true, true, true, true, true, false, false, false, false, false, false, false, false, false, false, false, false, false, false, false, false, false, false, false, false, false, false, false, false, false, false, false] rfl rfl (any_of HT_.out pL) (fun _ _ _ h => h) (Or.inl ⟨by rfl, ?_⟩) ?_ ?_
              rotate_left
              ·intro w'
               go_simp
               with_reducible rfl
              rotate_left
              ·exact pP
              refine pure_ (i := 8) (N := some 73) (v := undef) (a' := ?_) #[true, true, true, true, true, true, true, true, true, false, false, false, false, false, false, false, false, false, false, false, false, false, false, false, false, false, false, false, false, false, false, false, false, false, false] rfl rfl (any_of HT_.out pL) (fun _ _ _ h => h) (Or.inr ⟨by rfl, rfl⟩) ?_ ?_
              rotate_left
              ·exact pP
              refine pure_ (i := 9) (N := some 74) (v := undef) (a' := ?_) #[true, true, true, true, true, true, true, true, true, true, false, false, false, false, false, false, false, false, false, false, false, false, false, false, false, false, false, false, false, false, false, false, false, false, false] rfl rfl (any_of HT_.out pL) (fun _ _ _ h => h) (Or.inr ⟨by rfl, rfl⟩) ?_ ?_
              rotate_left
              ·exact pP
              refine pure_ (i := 10) (N := some 75) (v := undef) (a' := ?_) #[true, true, true, true, true, true, true, true, true, true, true, false, false, false, false, false, false, false, false, false, false, false, false, false, false, false, false, false, false, false, false, false, false, false, false] rfl rfl (any_of HT_.out pL) (fun _ _ _ h => h) (Or.inr ⟨by rfl, rfl⟩) ?_ ?_
              rotate_left
              ·exact pP
              refine pure_ (i := 11) (N := some 76) (v := undef) (a' := ?_) #[true, true, true, true, true, true, true, true, true, true, true, true, false, false, false, false, false, false, false, false, false, false, false, false, false, false, false, false, false, false, false, false, false, false, false] rfl rfl (any_of HT_.out pL) (fun _ _ _ h => h) (Or.inr ⟨by rfl, rfl⟩) ?_ ?_
              rotate_left
              ·exact pP
              refine pure_ (i := 12) (N := some 77) (v := undef) (a' := ?_) #[true, true, true, true, true, true, true, true, true, true, true, true, true, false, false, false, false, false, false, false, false, false, false, false, false, false, false, false, false, false, false, false, false, false, false] rfl rfl (any_of HT_.out pL) (fun _ _ _ h => h) (Or.inr ⟨by rfl, rfl⟩) ?_ ?_
              rotate_left
              ·exact pP
              refine pure_ (i := 13) (N := some 78) (v := ?_) (a' := ?_) #[true, true, true, true, true, true, true, true, true, true, true, true, true, true, false, false, false, false, false, false, false, false, false, false, false, false, false, false, false, false, false, false, false, false, false] rfl rfl (any_of HT_.out pL) (fun _ _ _ h => h) (Or.inl ⟨by rfl, ?_⟩) ?_ ?_
              rotate_left
              ·intro w'
               go_simp
               with_reducible rfl
              rotate_left
              ·exact pP
              refine pure_ (i := 14) (N := some 79) (v := ?_) (a' := ?_) #[true, true, true, true, true, true, true, true, true, true, true, true, true, true, true, false, false, false, false, false, false, false, false, false, false, false, false, false, false, false, false, false, false, false, false] rfl rfl (any_of HT_.out pL) (fun _ _ _ h => h) (Or.inl ⟨by rfl, ?_⟩) ?_ ?_
              rotate_left
              ·intro w'
               go_simp
               with_reducible rfl
              rotate_left
              ·exact pP
              refine pure_ (i := 15) (N := some 80) (v := ?_) (a' := ?_) #[true, true, true, true, true, true, true, true, true, true, true, true, true, true, true, true, false, false, false, false, false, false, false, false, false, false, false, false, false, false, false, false, false, false, false] rfl rfl (any_of HT_.out pL) (fun _ _ _ h => h) (Or.inl ⟨by rfl, ?_⟩) ?_ ?_
              rotate_left
              ·intro w'
               go_simp
               with_reducible rfl
              rotate_left
              ·exact pP
              refine pure_ (i := 16) (N := some 81) (v := ?_) (a' := ?_) #[true, true, true, true, true, true, true, true, true, true, true, true, true, true, true, true, true, false, false, false, false, false, false, false, false, false, false, false, false, false, false, false, false, false, false] rfl rfl (any_of HT_.out pL) (fun _ _ _ h => h) (Or.inl ⟨by rfl, ?_⟩) ?_ ?_
              rotate_left
              ·intro w'
               go_simp
               with_reducible rfl
              rotate_left
              ·exact pP
              refine pure_ (i := 17) (N := some 82) (v := ?_) (a' := ?_) #[true, true, true, true, true, true, true, true, true, true, true, true, true, true, true, true, true, true, false, false, false, false, false, false, false, false, false, false, false, false, false, false, false, false, false] rfl rfl (any_of HT_.out pL) (fun _ _ _ h => h) (Or.inl ⟨by rfl, ?_⟩) ?_ ?_
              rotate_left
              ·intro w'
               go_simp
               with_reducible rfl
              rotate_left
              ·exact pP
              refine pure_ (i := 18) (N := some 83) (v := ?_) (a' := ?_) #[true, true, true, true, true, true, true, true, true, true, true, true, true, true, true, true, true, true, true, false, false, false, false, false, false, false, false, false, false, false, false, false, false, false, false] rfl rfl (any_of HT_.out pL) (fun _ _ _ h => h) (Or.inl ⟨by rfl, ?_⟩) ?_ ?_
              rotate_left
              ·intro w'
               go_simp
               with_reducible rfl
              rotate_left
              ·exact pP
              refine pure_ (i := 19) (N := some 84) (v := ?_) (a' := ?_) #[true, true, true, true, true, true, true, true, true, true, true, true, true, true, true, true, true, true, true, true, false, false, false, false, false, false, false, false, false, false, false, false, false, false, false] rfl rfl (any_of HT_.out pL) (fun _ _ _ h => h) (Or.inl ⟨by rfl, ?_⟩) ?_ ?_
              rotate_left
              ·intro w'
               go_simp
               with_reducible rfl
              rotate_left
              ·exact pP
              refine take_ (i := 20) (N := some 85) (v := ?_) (a' := ?_) #[true, true, true, true, true, true, true, true, true, true, true, true, true, true, true, true, true, true, true, true, true, false, false, false, false, false, false, false, false, false, false, false, false, false, false] rfl rfl (take_ofW HT_.out HW_.out pL) (fun _ _ _ h => h) (Or.inl ⟨by rfl, ?_⟩) hHeld ?_ ?_
              rotate_left
              ·rintro w' ⟨s0, s1, s2, s3, s4, s5, s6, s7, s8, s9, s10, s11, s12, s13⟩
               go_simp
               with_reducible rfl
              rotate_left
              ·exact pP
              refine one_ (i := 21) (N := some 86) #[true, true, true, true, true, true, true, true, true, true, true, true, true, true, true, true, true, true, true, true, true, true, false, false, false, false, false, false, false, false, false, false, false, false, false] rfl rfl (one_of HT_.out pL) (by decide) (fun K hK => ?_)
              refine goes_ Try.func35 pL rfl #[.slice Ao11 t654.length co11, .int .i64 ((rd_T62 t652 x11_2).f0)] (by rfl) rfl rfl pM ?_
              with_reducible refine (laws_hasInt.calls k2 _ _ t654 ((rd_T62 t652 x11_2).f0) false _ ?side1 ?side2 A44.out).mono ?_
              (case side1 => exact pS ((Kd.R_reads' HO_6.out).2.2))
              (case side2 => exact (Kd.R_reads' HO_6.out).2.1)
              rintro e w' ⟨rfl, ⟨nd, rfl⟩⟩
              refine ⟨_, rfl, ?_⟩
              refine hK.out _ _ ⟨hHeld.1, hHeld.2.1, hHeld.2.2.1, hHeld.2.2.2.1, hHeld.2.2.2.2.1, hHeld.2.2.2.2.2.1, hHeld.2.2.2.2.2.2.1, hHeld.2.2.2.2.2.2.2.1, hHeld.2.2.2.2.2.2.2.2.1, hHeld.2.2.2.2.2.2.2.2.2.1, hHeld.2.2.2.2.2.2.2.2.2.2.1, hHeld.2.2.2.2.2.2.2.2.2.2.2.1, hHeld.2.2.2.2.2.2.2.2.2.2.2.2.1, hHeld.2.2.2.2.2.2.2.2.2.2.2.2.2⟩ (fun hHeld => ?_)
              clear hK K
              refine norm_ (a' := ?_) ?_ ?_
              rotate_left
              ·show Act.put _ (some 86) _ = _
               exact pP
              refine pure_ (i := 22) (N := some 87) (v := ?_) (a' := ?_) #[true, true, true, true, true, true, true, true, true, true, true, true, true, true, true, true, true, true, true, true, true, true, true, false, false, false, false, false, false, false, false, false, false, false, false] rfl rfl (any_of HT_.out pL) (fun _ _ _ h => h) (Or.inl ⟨by rfl, ?_⟩) ?_ ?_
              rotate_left
              ·intro w'
               go_simp
               with_reducible rfl
              rotate_left
              ·exact pP
              refine pure_ (i := 23) (N := some 88) (v := ?_) (a' := ?_) #[true, true, true, true, true, true, true, true, true, true, true, true, true, true, true, true, true, true, true, true, true, true, true, true, false, false, false, false, false, false, false, false, false, false, false] rfl rfl (any_of HT_.out pL) (fun _ _ _ h => h) (Or.inl ⟨by rfl, ?_⟩) ?_ ?_
              rotate_left
              ·intro w'
               go_simp
               with_reducible rfl
              rotate_left
              ·exact pP
              refine pure_ (i := 24) (N := some 89) (v := ?_) (a' := ?_) #[true, true, true, true, true, true, true, true, true, true, true, true, true, true, true, true, true, true, true, true, true, true, true, true, true, false, false, false, false, false, false, false, false, false, false] rfl rfl (any_of HT_.out pL) (fun _ _ _ h => h) (Or.inl ⟨by rfl, ?_⟩) ?_ ?_
              rotate_left
              ·intro w'
               go_simp
               with_reducible rfl
              rotate_left
              ·exact pP
              refine pure_ (i := 25) (N := some 90) (v := ?_) (a' := ?_) #[true, true, true, true, true, true, true, true, true, true, true, true, true, true, true, true, true, true, true, true, true, true, true, true, true, true, false, false, false, false, false, false, false, false, false] rfl rfl (any_of HT_.out pL) (fun _ _ _ h => h) (Or.inl ⟨by rfl, ?_⟩) ?_ ?_
              rotate_left
              ·intro w'
               go_simp
               with_reducible rfl
              rotate_left
              ·exact pP
              refine pure_ (i := 26) (N := some 91) (v := ?_) (a' := ?_) #[true, true, true, true, true, true, true, true, true, true, true, true, true, true, true, true, true, true, true, true, true, true, true, true, true, true, true, false, false, false, false, false, false, false, false] rfl rfl (any_of HT_.out pL) (fun _ _ _ h => h) (Or.inl ⟨by rfl, ?_⟩) ?_ ?_
              rotate_left
              ·intro w'
               go_simp
               with_reducible rfl
              rotate_left
              ·exact pP
              refine pure_ (i := 28) (N := some 93) (v := ?_) (a' := ?_) #[true, true, true, true, true, true, true, true, true, true, true, true, true, true, true, true, true, true, true, true, true, true, true, true, true, true, true, false, true, false, false, false, false, false, false] rfl rfl (any_of HT_.out pL) (fun _ _ _ h => h) (Or.inl ⟨by rfl, ?_⟩) ?_ ?_
              rotate_left
              ·intro w'
               go_simp
               with_reducible rfl
              rotate_left
              ·exact pP
              refine pure_ (i := 29) (N := some 94) (v := ?_) (a' := ?_) #[true, true, true, true, true, true, true, true, true, true, true, true, true, true, true, true, true, true, true, true, true, true, true, true, true, true, true, false, true, true, false, false, false, false, false] rfl rfl (any_of HT_.out pL) (fun _ _ _ h => h) (Or.inl ⟨by rfl, ?_⟩) ?_ ?_
              rotate_left
              ·intro w'
               go_simp
               with_reducible rfl
              rotate_left
              ·exact pP
              refine pure_ (i := 30) (N := some 95) (v := ?_) (a' := ?_) #[true, true, true, true, true, true, true, true, true, true, true, true, true, true, true, true, true, true, true, true, true, true, true, true, true, true, true, false, true, true, true, false, false, false, false] rfl rfl (any_of HT_.out pL) (fun _ _ _ h => h) (Or.inl ⟨by rfl, ?_⟩) ?_ ?_
              rotate_left
              ·intro w'
               go_simp
               with_reducible rfl
              rotate_left
              ·exact pP
              refine take_ (i := 27) (N := some 92) (v := ?_) (a' := ?_) #[true, true, true, true, true, true, true, true, true, true, true, true, true, true, true, true, true, true, true, true, true, true, true, true, true, true, true, true, true, true, true, false, false, false, false] rfl rfl (take_ofW HT_.out HW_.out pL) (fun _ _ _ h => h) (Or.inl ⟨by rfl, ?_⟩) hHeld ?_ ?_
              rotate_left
              ·rintro w' ⟨s0, s1, s2, s3, s4, s5, s6, s7, s8, s9, s10, s11, s12, s13⟩
               go_simp
               with_reducible rfl
              rotate_left
              ·exact pP
              refine take_ (i := 31) (N := some 96) (v := ?_) (a' := ?_) #[true, true, true, true, true, true, true, true, true, true, true, true, true, true, true, true, true, true, true, true, true, true, true, true, true, true, true, true, true, true, true, true, false, false, false] rfl rfl (take_ofW HT_.out HW_.out pL) (fun _ _ _ h => h) (Or.inl ⟨by rfl, ?_⟩) hHeld ?_ ?_
              rotate_left
              ·rintro w' ⟨s0, s1, s2, s3, s4, s5, s6, s7, s8, s9, s10, s11, s12, s13⟩
               go_simp
               with_reducible rfl
              rotate_left
              ·exact pP
              refine pure_ (i := 32) (N := some 97) (v := ?_) (a' := ?_) #[true, true, true, true, true, true, true, true, true, true, true, true, true, true, true, true, true, true, true, true, true, true, true, true, true, true, true, true, true, true, true, true, true, false, false] rfl rfl (any_of HT_.out pL) (fun _ _ _ h => h) (Or.inl ⟨by rfl, ?_⟩) ?_ ?_
              rotate_left
              ·intro w'
               go_simp
               with_reducible rfl
              rotate_left
              ·exact pP
              refine pure_ (i := 33) (N := some 98) (v := ?_) (a' := ?_) #[true, true, true, true, true, true, true, true, true, true, true, true, true, true, true, true, true, true, true, true, true, true, true, true, true, true, true, true, true, true, true, true, true, true, false] rfl rfl (any_of HT_.out pL) (fun _ _ _ h => h) (Or.inl ⟨by rfl, ?_⟩) ?_ ?_
              rotate_left
              ·intro w'
               go_simp
               with_reducible rfl
              rotate_left
              ·exact pP
              refine pure_ (i := 34) (N := some 99) (v := ?_) (a' := ?_) #[true, true, true, true, true, true, true, true, true, true, true, true, true, true, true, true, true, true, true, true, true, true, true, true, true, true, true, true, true, true, true, true, true, true, true] rfl rfl (any_of HT_.out pL) (fun _ _ _ h => h) (Or.inl ⟨by rfl, ?_⟩) ?_ ?_
              rotate_left
              ·intro w'
               go_simp
               with_reducible rfl
              rotate_left
              ·exact pP
              refine done_ (done_of HT_.out pL) ?_
              try go_wp2
              go_roundg k2
              case measure => have := HJ5.out; have := HK2.out; omega
              case rel => exact ⟨(wrap64 (x11_2 + 1)), pF, H', ⟨by have := HJ5.out; have := HK2.out; omega⟩, ⟨pR HO_4⟩, ⟨pR HO_5⟩, ⟨pR HO_6⟩, ⟨pR HO_7⟩, ⟨pB⟩⟩
            ·rw [if_neg c48] at H
             exact absurd H (by simp)
         ·rw [if_neg c28] at H
          exact absurd H (by simp)
        ·rw [if_neg c27] at H
         exact absurd H (by simp)
       ·rw [if_neg c26] at H
        have c26b0 : decide (x11_2 < (t663.length : Int)) = false := decide_eq_false c26
        clear c26
        obtain rfl := Option.some.inj H
        obtain ⟨Ao54, co54, eo54⟩ := Kd.R_slice HO_7.out
        subst eo54
        go_wp2
        go_ret
        exact ⟨pE, pB⟩

/-- THE ONE PURE STATEMENT of laws_FnSwapNeeds: yours. -/
def laws_FnSwapNeeds.Pure : Prop := ∀ (l0 : List Int), l0.length ≤ maxLen → l0.length * 1 ≤ 140737488351232 → (∀ x ∈ l0, (Lit.int .u8 x).wf = true) → ∃ k, laws_FnSwapNeeds.f k l0 = some true
theorem laws_FnSwapNeeds.walk (P : laws_FnSwapNeeds.Pure) (a0 : Option Addr) (len0 cap0 : Nat) (z0 : List Int) (w : World) (w0 : (a0 = none ∧ len0 = 0 ∧ cap0 = 0 ∧ z0 = []) ∨ ∃ x, a0 = some x ∧ len0 ≤ cap0 ∧ cap0 ≤ maxLen ∧ z0.length = cap0 ∧ (∀ i, i < z0.length → w.cell? (x.add i) = some (.int .u8 (z0.getD i 0))) ∧ ∀ n ∈ z0, (Lit.int .u8 n).wf = true) (y0 : len0 * 1 ≤ 140737488351232) :
  Calls Try.prog 11 #[.slice a0 len0 cap0] w fun e w' => e = .returned (.bool true) ∧ Below w.heap.size w w' := by
 obtain ⟨l0, rfl, hr0, hm0, hw0, hc0⟩ := ReadsInt.ofRowC w0
 obtain ⟨k, h⟩ := P l0 hm0 y0 hw0
 refine (laws_FnSwapNeeds.calls k _ _ l0 true w (Kd.C_of_reads (d := (0 : Int)) (h1 := fun _ => rfl) hr0) hc0 h).mono ?_
 rintro e w' ⟨rfl, hd⟩
 exact ⟨rfl, hd⟩

end Go.Proofs.Ytglddjbcaknnaaa.Q
