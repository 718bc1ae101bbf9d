-- Written by the kit's print.py for all laws of the seat at once (one namespace), by a program of this session.
import Derived.Test.YtglddjbcaknnaaaQx0
import Derived.Test.YtglddjbcaknnaaaQx1
import Derived.Test.YtglddjbcaknnaaaQx6
import Derived.Test.YtglddjbcaknnaaaQx7
import Derived.Test.YtglddjbcaknnaaaQx16
import Derived.Test.YtglddjbcaknnaaaQx23
import Derived.Test.YtglddjbcaknnaaaQx26
import Derived.Test.YtglddjbcaknnaaaQx27
namespace Go.Proofs.Ytglddjbcaknnaaa.Q
open Go.RowKit Go.Proofs.YtglddjbcaknnaaaW.PrintWords Go.Proofs.YtglddjbcaknnaaaW.PrintLast Go.Proofs.YtglddjbcaknnaaaW.PrintMore
attribute [local go_sem] max2_int min2_int max_two min_two max_three min_three max_four min_four   -- for this text's walks alone
set_option linter.unusedVariables false
set_option linter.unusedSimpArgs false

/-! ### laws_FnExactSwapNeeds: function 14 -/
mutual
def laws_FnExactSwapNeeds.j0 : Nat → List (S77) → List (S65) → List Int → List Int → List Int → Bool → List (S41) → List (S62) → List Int → List Int → List Int → Bool → Bool → Option (Bool)
 | 0, _, _, _, _, _, _, _, _, _, _, _, _, _ => none
 | k + 1, x0, x1, x2, x3, x10, x11, x12, x13, x14, x15, x16, x17, x75 => if x75 = true then (some false) else ((laws_toSwapS.f k x0).bind fun t791 => ((laws_eqSwapS.f k x12 t791).bind fun t794 => (if t794 = true then ((laws_toFoodS.f k x1).bind fun t795 => ((laws_eqFoodS.f k x13 t795).bind fun t798 => (if t798 = true then ((laws_toIntS.f k x2).bind fun t799 => ((laws_eqIntS.f k x14 t799).bind fun t802 => (if t802 = true then ((laws_toIntS.f k x3).bind fun t803 => ((laws_eqIntS.f k x15 t803).bind fun t806 => (if t806 = true then ((laws_markSwapS.f k x12 1).bind fun bt807 => ((laws_markFoodS.f k x13 bt807.1).bind fun bt809 => ((laws_markIntS.f k x14 bt809.1).bind fun bt811 => ((laws_markIntS.f k x15 bt811.1).bind fun bt813 => (if bt813.1 < 0 then (laws_FnExactSwapNeeds.j1 k x0 x1 x2 x3 x10 x11 x16 true) else ((laws_eqIntS.f k x16 x10).bind fun t815 => (if t815 = true then (laws_FnExactSwapNeeds.j1 k x0 x1 x2 x3 x10 x11 x16 (x17 != x11)) else (laws_FnExactSwapNeeds.j1 k x0 x1 x2 x3 x10 x11 x16 true)))))))) else (some false)))) else (some false)))) else (some false)))) else (some false))))
def laws_FnExactSwapNeeds.j1 : Nat → List (S77) → List (S65) → List Int → List Int → List Int → Bool → List Int → Bool → Option (Bool)
 | 0, _, _, _, _, _, _, _, _ => none
 | k + 1, x0, x1, x2, x3, x10, x11, x16, x120 => if x120 = true then (some false) else ((laws_markIntS.f k x16 1).bind fun bt816 => ((laws_heldIntS.f k bt816.2 1).bind fun t818 => (if t818 < 0 then (some false) else (if t818 = bt816.1 then ((laws_toSwapS.f k x0).bind fun t819 => ((laws_toFoodS.f k x1).bind fun t822 => ((laws_toIntS.f k x2).bind fun t825 => ((laws_toIntS.f k x3).bind fun t828 => ((impl_SwapNeeds.f k t819 t822 t825 t828).bind fun bt831 => ((laws_eqIntS.f k bt831.1 x10).bind fun t835 => (if t835 = true then (laws_FnExactSwapNeeds.j2 k bt816.2 bt816.1 (bt831.2 != x11)) else (laws_FnExactSwapNeeds.j2 k bt816.2 bt816.1 true)))))))) else (some false)))))
def laws_FnExactSwapNeeds.j2 : Nat → List Int → Int → Bool → Option (Bool)
 | 0, _, _, _ => none
 | k + 1, x16, x19, x152 => if x152 = true then (some false) else ((laws_heldIntS.f k x16 1).bind fun t836 => (if t836 < 0 then (some false) else (if t836 = x19 then (some true) else (some false))))
end
def laws_FnExactSwapNeeds.f (k : Nat) (l0 : List (S77)) (l1 : List (S65)) (l2 : List Int) (l3 : List Int) : Option (Bool) := if (l2.length : Int) > 1048576 then (some true) else (if (l3.length : Int) > 1048576 then (some true) else ((laws_szSwapS.f l0 1048576).bind fun t756 => (if t756 < 0 then (some true) else ((laws_szFoodS.f l1 t756).bind fun t757 => (if t757 < 0 then (some true) else ((laws_toSwapS.f k l0).bind fun t758 => ((laws_toFoodS.f k l1).bind fun t761 => ((laws_toIntS.f k l2).bind fun t764 => ((laws_toIntS.f k l3).bind fun t767 => ((spec_SwapNeeds.f k t758 t761 t764 t767).bind fun bt770 => ((laws_toSwapS.f k l0).bind fun t774 => ((laws_toFoodS.f k l1).bind fun t777 => ((laws_toIntS.f k l2).bind fun t780 => ((laws_toIntS.f k l3).bind fun t783 => ((impl_SwapNeeds.f k t774 t777 t780 t783).bind fun bt786 => ((laws_eqIntS.f k bt786.1 bt770.1).bind fun t790 => (if t790 = true then (laws_FnExactSwapNeeds.j0 k l0 l1 l2 l3 bt770.1 bt770.2 t774 t777 t780 t783 bt786.1 bt786.2 (bt786.2 != bt770.2)) else (laws_FnExactSwapNeeds.j0 k l0 l1 l2 l3 bt770.1 bt770.2 t774 t777 t780 t783 bt786.1 bt786.2 true))))))))))))))))))
theorem laws_FnExactSwapNeeds.mono_l : ∀ k, (∀ y0 y1 y2 y3 y4 y5 y6 y7 y8 y9 y10 y11 y12, LeO (laws_FnExactSwapNeeds.j0 k y0 y1 y2 y3 y4 y5 y6 y7 y8 y9 y10 y11 y12) (laws_FnExactSwapNeeds.j0 (k + 1) y0 y1 y2 y3 y4 y5 y6 y7 y8 y9 y10 y11 y12)) ∧ (∀ y0 y1 y2 y3 y4 y5 y6 y7, LeO (laws_FnExactSwapNeeds.j1 k y0 y1 y2 y3 y4 y5 y6 y7) (laws_FnExactSwapNeeds.j1 (k + 1) y0 y1 y2 y3 y4 y5 y6 y7)) ∧ (∀ y0 y1 y2, LeO (laws_FnExactSwapNeeds.j2 k y0 y1 y2) (laws_FnExactSwapNeeds.j2 (k + 1) y0 y1 y2))
 | 0 => ⟨fun _ _ _ _ _ _ _ _ _ _ _ _ _ r h => by simp [laws_FnExactSwapNeeds.j0] at h, fun _ _ _ _ _ _ _ _ r h => by simp [laws_FnExactSwapNeeds.j1] at h, fun _ _ _ r h => by simp [laws_FnExactSwapNeeds.j2] at h⟩
 | k + 1 => by
  obtain ⟨ih0, ih1, ih2⟩ := laws_FnExactSwapNeeds.mono_l k
  refine ⟨?_, ?_, ?_⟩
  ·intro y0 y1 y2 y3 y4 y5 y6 y7 y8 y9 y10 y11 y12
   unfold laws_FnExactSwapNeeds.j0
   repeat' first
   | (with_reducible exact ih0 _ _ _ _ _ _ _ _ _ _ _ _ _)
   | (with_reducible exact ih1 _ _ _ _ _ _ _ _)
   | (with_reducible exact ih2 _ _ _)
   | (with_reducible exact impl_SwapNeeds.mono _ _ _ _ _)
   | (with_reducible exact laws_eqFoodS.mono _ _ _)
   | (with_reducible exact laws_eqIntS.mono _ _ _)
   | (with_reducible exact laws_eqSwapS.mono _ _ _)
   | (with_reducible exact laws_heldIntS.mono _ _ _)
   | (with_reducible exact laws_markFoodS.mono _ _ _)
   | (with_reducible exact laws_markIntS.mono _ _ _)
   | (with_reducible exact laws_markSwapS.mono _ _ _)
   | (with_reducible exact laws_toFoodS.mono _ _)
   | (with_reducible exact laws_toIntS.mono _ _)
   | (with_reducible exact laws_toSwapS.mono _ _)
   | (with_reducible exact spec_SwapNeeds.mono _ _ _ _ _)
   | (with_reducible exact LeO.refl _)
   | (with_reducible exact LeO.none _)
   | (with_reducible refine LeO.ite ?_ ?_)
   | (with_reducible refine LeO.bind ?_ (fun _ => ?_))
   | exact ih0 _ _ _ _ _ _ _ _ _ _ _ _ _
   | exact ih1 _ _ _ _ _ _ _ _
   | exact ih2 _ _ _
   | exact impl_SwapNeeds.mono _ _ _ _ _
   | exact laws_eqFoodS.mono _ _ _
   | exact laws_eqIntS.mono _ _ _
   | exact laws_eqSwapS.mono _ _ _
   | exact laws_heldIntS.mono _ _ _
   | exact laws_markFoodS.mono _ _ _
   | exact laws_markIntS.mono _ _ _
   | exact laws_markSwapS.mono _ _ _
   | exact laws_toFoodS.mono _ _
   | exact laws_toIntS.mono _ _
   | exact laws_toSwapS.mono _ _
   | exact spec_SwapNeeds.mono _ _ _ _ _
   | exact LeO.none _
   | refine LeO.ite ?_ ?_
   | refine LeO.bind ?_ (fun _ => ?_)
  ·intro y0 y1 y2 y3 y4 y5 y6 y7
   unfold laws_FnExactSwapNeeds.j1
   repeat' first
   | (with_reducible exact ih0 _ _ _ _ _ _ _ _ _ _ _ _ _)
   | (with_reducible exact ih1 _ _ _ _ _ _ _ _)
   | (with_reducible exact ih2 _ _ _)
   | (with_reducible exact impl_SwapNeeds.mono _ _ _ _ _)
   | (with_reducible exact laws_eqFoodS.mono _ _ _)
   | (with_reducible exact laws_eqIntS.mono _ _ _)
   | (with_reducible exact laws_eqSwapS.mono _ _ _)
   | (with_reducible exact laws_heldIntS.mono _ _ _)
   | (with_reducible exact laws_markFoodS.mono _ _ _)
   | (with_reducible exact laws_markIntS.mono _ _ _)
   | (with_reducible exact laws_markSwapS.mono _ _ _)
   | (with_reducible exact laws_toFoodS.mono _ _)
   | (with_reducible exact laws_toIntS.mono _ _)
   | (with_reducible exact laws_toSwapS.mono _ _)
   | (with_reducible exact spec_SwapNeeds.mono _ _ _ _ _)
   | (with_reducible exact LeO.refl _)
   | (with_reducible exact LeO.none _)
   | (with_reducible refine LeO.ite ?_ ?_)
   | (with_reducible refine LeO.bind ?_ (fun _ => ?_))
   | exact ih0 _ _ _ _ _ _ _ _ _ _ _ _ _
   | exact ih1 _ _ _ _ _ _ _ _
   | exact ih2 _ _ _
   | exact impl_SwapNeeds.mono _ _ _ _ _
   | exact laws_eqFoodS.mono _ _ _
   | exact laws_eqIntS.mono _ _ _
   | exact laws_eqSwapS.mono _ _ _
   | exact laws_heldIntS.mono _ _ _
   | exact laws_markFoodS.mono _ _ _
   | exact laws_markIntS.mono _ _ _
   | exact laws_markSwapS.mono _ _ _
   | exact laws_toFoodS.mono _ _
   | exact laws_toIntS.mono _ _
   | exact laws_toSwapS.mono _ _
   | exact spec_SwapNeeds.mono _ _ _ _ _
   | exact LeO.none _
   | refine LeO.ite ?_ ?_
   | refine LeO.bind ?_ (fun _ => ?_)
  ·intro y0 y1 y2
   unfold laws_FnExactSwapNeeds.j2
   repeat' first
   | (with_reducible exact ih0 _ _ _ _ _ _ _ _ _ _ _ _ _)
   | (with_reducible exact ih1 _ _ _ _ _ _ _ _)
   | (with_reducible exact ih2 _ _ _)
   | (with_reducible exact impl_SwapNeeds.mono _ _ _ _ _)
   | (with_reducible exact laws_eqFoodS.mono _ _ _)
   | (with_reducible exact laws_eqIntS.mono _ _ _)
   | (with_reducible exact laws_eqSwapS.mono _ _ _)
   | (with_reducible exact laws_heldIntS.mono _ _ _)
   | (with_reducible exact laws_markFoodS.mono _ _ _)
   | (with_reducible exact laws_markIntS.mono _ _ _)
   | (with_reducible exact laws_markSwapS.mono _ _ _)
   | (with_reducible exact laws_toFoodS.mono _ _)
   | (with_reducible exact laws_toIntS.mono _ _)
   | (with_reducible exact laws_toSwapS.mono _ _)
   | (with_reducible exact spec_SwapNeeds.mono _ _ _ _ _)
   | (with_reducible exact LeO.refl _)
   | (with_reducible exact LeO.none _)
   | (with_reducible refine LeO.ite ?_ ?_)
   | (with_reducible refine LeO.bind ?_ (fun _ => ?_))
   | exact ih0 _ _ _ _ _ _ _ _ _ _ _ _ _
   | exact ih1 _ _ _ _ _ _ _ _
   | exact ih2 _ _ _
   | exact impl_SwapNeeds.mono _ _ _ _ _
   | exact laws_eqFoodS.mono _ _ _
   | exact laws_eqIntS.mono _ _ _
   | exact laws_eqSwapS.mono _ _ _
   | exact laws_heldIntS.mono _ _ _
   | exact laws_markFoodS.mono _ _ _
   | exact laws_markIntS.mono _ _ _
   | exact laws_markSwapS.mono _ _ _
   | exact laws_toFoodS.mono _ _
   | exact laws_toIntS.mono _ _
   | exact laws_toSwapS.mono _ _
   | exact spec_SwapNeeds.mono _ _ _ _ _
   | exact LeO.none _
   | refine LeO.ite ?_ ?_
   | refine LeO.bind ?_ (fun _ => ?_)
theorem laws_FnExactSwapNeeds.mono : ∀ a0 a1 a2 a3 k, LeO (laws_FnExactSwapNeeds.f k a0 a1 a2 a3) (laws_FnExactSwapNeeds.f (k + 1) a0 a1 a2 a3) := by
 intro a0 a1 a2 a3 k
 obtain ⟨ih0, ih1, ih2⟩ := laws_FnExactSwapNeeds.mono_l k
 unfold laws_FnExactSwapNeeds.f
 repeat' first
   | (with_reducible exact ih0 _ _ _ _ _ _ _ _ _ _ _ _ _)
   | (with_reducible exact ih1 _ _ _ _ _ _ _ _)
   | (with_reducible exact ih2 _ _ _)
   | (with_reducible exact impl_SwapNeeds.mono _ _ _ _ _)
   | (with_reducible exact laws_eqFoodS.mono _ _ _)
   | (with_reducible exact laws_eqIntS.mono _ _ _)
   | (with_reducible exact laws_eqSwapS.mono _ _ _)
   | (with_reducible exact laws_heldIntS.mono _ _ _)
   | (with_reducible exact laws_markFoodS.mono _ _ _)
   | (with_reducible exact laws_markIntS.mono _ _ _)
   | (with_reducible exact laws_markSwapS.mono _ _ _)
   | (with_reducible exact laws_toFoodS.mono _ _)
   | (with_reducible exact laws_toIntS.mono _ _)
   | (with_reducible exact laws_toSwapS.mono _ _)
   | (with_reducible exact spec_SwapNeeds.mono _ _ _ _ _)
   | (with_reducible exact LeO.refl _)
   | (with_reducible exact LeO.none _)
   | (with_reducible refine LeO.ite ?_ ?_)
   | (with_reducible refine LeO.bind ?_ (fun _ => ?_))
   | exact ih0 _ _ _ _ _ _ _ _ _ _ _ _ _
   | exact ih1 _ _ _ _ _ _ _ _
   | exact ih2 _ _ _
   | exact impl_SwapNeeds.mono _ _ _ _ _
   | exact laws_eqFoodS.mono _ _ _
   | exact laws_eqIntS.mono _ _ _
   | exact laws_eqSwapS.mono _ _ _
   | exact laws_heldIntS.mono _ _ _
   | exact laws_markFoodS.mono _ _ _
   | exact laws_markIntS.mono _ _ _
   | exact laws_markSwapS.mono _ _ _
   | exact laws_toFoodS.mono _ _
   | exact laws_toIntS.mono _ _
   | exact laws_toSwapS.mono _ _
   | exact spec_SwapNeeds.mono _ _ _ _ _
   | exact LeO.none _
   | refine LeO.ite ?_ ?_
   | refine LeO.bind ?_ (fun _ => ?_)
set_option maxHeartbeats 8000000 in
set_option maxRecDepth 100000 in
theorem laws_FnExactSwapNeeds.calls (k : Nat) (A0 : Option Addr) (c0 : Nat) (l0 : List (S77)) (A1 : Option Addr) (c1 : Nat) (l1 : List (S65)) (A2 : Option Addr) (c2 : Nat) (l2 : List Int) (A3 : Option Addr) (c3 : Nat) (l3 : List Int) (r : Bool) (w : World) (hr0 : Kd.C k77 w A0 l0.length l0) (hc0 : l0.length ≤ c0) (hr1 : Kd.C k65 w A1 l1.length l1) (hc1 : l1.length ≤ c1) (hr2 : Kd.C (Kd.int .i64) w A2 l2.length l2) (hc2 : l2.length ≤ c2) (hr3 : Kd.C (Kd.int .i64) w A3 l3.length l3) (hc3 : l3.length ≤ c3) (h : laws_FnExactSwapNeeds.f k l0 l1 l2 l3 = some r) :
  Calls Try.prog 14 #[.slice A0 l0.length c0, .slice A1 l1.length c1, .slice A2 l2.length c2, .slice A3 l3.length c3] w fun e w' => e = .returned (.bool r) ∧ Below w.heap.size w w' := by
 have HR0 := Aside0.mk hr0
 have HC0 := Aside0.mk hc0
 clear hr0 hc0
 have HR1 := Aside0.mk hr1
 have HC1 := Aside0.mk hc1
 clear hr1 hc1
 have HR2 := Aside0.mk hr2
 have HC2 := Aside0.mk hc2
 clear hr2 hc2
 have HR3 := Aside0.mk hr3
 have HC3 := Aside0.mk hc3
 clear hr3 hc3
 have HB := Aside0.mk (Below.refl w.heap.size w)
 have H : (if (l2.length : Int) > 1048576 then (some true) else (if (l3.length : Int) > 1048576 then (some true) else ((laws_szSwapS.f l0 1048576).bind fun t756 => (if t756 < 0 then (some true) else ((laws_szFoodS.f l1 t756).bind fun t757 => (if t757 < 0 then (some true) else ((laws_toSwapS.f k l0).bind fun t758 => ((laws_toFoodS.f k l1).bind fun t761 => ((laws_toIntS.f k l2).bind fun t764 => ((laws_toIntS.f k l3).bind fun t767 => ((spec_SwapNeeds.f k t758 t761 t764 t767).bind fun bt770 => ((laws_toSwapS.f k l0).bind fun t774 => ((laws_toFoodS.f k l1).bind fun t777 => ((laws_toIntS.f k l2).bind fun t780 => ((laws_toIntS.f k l3).bind fun t783 => ((impl_SwapNeeds.f k t774 t777 t780 t783).bind fun bt786 => ((laws_eqIntS.f k bt786.1 bt770.1).bind fun t790 => (if t790 = true then (laws_FnExactSwapNeeds.j0 k l0 l1 l2 l3 bt770.1 bt770.2 t774 t777 t780 t783 bt786.1 bt786.2 (bt786.2 != bt770.2)) else (laws_FnExactSwapNeeds.j0 k l0 l1 l2 l3 bt770.1 bt770.2 t774 t777 t780 t783 bt786.1 bt786.2 true))))))))))))))))))) = some r := h
 clear h
 by_cases c5 : (l2.length : Int) > 1048576
 ·rw [if_pos c5] at H
  have c5b0 : decide (1048576 < (l2.length : Int)) = true := decide_eq_true c5
  have c5b1 : decide (1048576 < l2.length) = true := decide_eq_true (by omega)
  clear c5
  obtain rfl := Option.some.inj H
  go_enter Try.func14, Try.ntmps14
  go_wp2
  go_ret
  exact ⟨pE, pB⟩
 ·rw [if_neg c5] at H
  have c5b0 : decide (1048576 < (l2.length : Int)) = false := decide_eq_false c5
  have c5b1 : decide (1048576 < l2.length) = false := decide_eq_false (by omega)
  clear c5
  by_cases c6 : (l3.length : Int) > 1048576
  ·rw [if_pos c6] at H
   have c6b0 : decide (1048576 < (l3.length : Int)) = true := decide_eq_true c6
   have c6b1 : decide (1048576 < l3.length) = true := decide_eq_true (by omega)
   clear c6
   obtain rfl := Option.some.inj H
   go_enter Try.func14, Try.ntmps14
   go_wp2
   go_ret
   exact ⟨pE, pB⟩
  ·rw [if_neg c6] at H
   have c6b0 : decide (1048576 < (l3.length : Int)) = false := decide_eq_false c6
   have c6b1 : decide (1048576 < l3.length) = false := decide_eq_false (by omega)
   clear c6
   replace H := Option.bind_eq_some_iff.mp H
   obtain ⟨t756, A70, H⟩ := H
   replace H : (if t756 < 0 then (some true) else ((laws_szFoodS.f l1 t756).bind fun t757 => (if t757 < 0 then (some true) else ((laws_toSwapS.f k l0).bind fun t758 => ((laws_toFoodS.f k l1).bind fun t761 => ((laws_toIntS.f k l2).bind fun t764 => ((laws_toIntS.f k l3).bind fun t767 => ((spec_SwapNeeds.f k t758 t761 t764 t767).bind fun bt770 => ((laws_toSwapS.f k l0).bind fun t774 => ((laws_toFoodS.f k l1).bind fun t777 => ((laws_toIntS.f k l2).bind fun t780 => ((laws_toIntS.f k l3).bind fun t783 => ((impl_SwapNeeds.f k t774 t777 t780 t783).bind fun bt786 => ((laws_eqIntS.f k bt786.1 bt770.1).bind fun t790 => (if t790 = true then (laws_FnExactSwapNeeds.j0 k l0 l1 l2 l3 bt770.1 bt770.2 t774 t777 t780 t783 bt786.1 bt786.2 (bt786.2 != bt770.2)) else (laws_FnExactSwapNeeds.j0 k l0 l1 l2 l3 bt770.1 bt770.2 t774 t777 t780 t783 bt786.1 bt786.2 true)))))))))))))))) = some r := H
   have A7 := Aside0.mk A70
   clear A70
   by_cases c8 : t756 < 0
   ·rw [if_pos c8] at H
    have c8b0 : decide (t756 < 0) = true := decide_eq_true c8
    clear c8
    obtain rfl := Option.some.inj H
    go_enter Try.func14, Try.ntmps14
    go_wp2_with (first | ((with_reducible refine gate_callee (f := 28) rfl ?_); refine goesL_ (some 31) rfl rfl Try.func28 pL rfl #[.slice A0 l0.length c0, .int .i64 1048576] rfl pM ?_; (with_reducible refine (laws_szSwapS.calls _ _ l0 1048576 t756 _ ?side1 ?side2 A7.out).mono ?_); (case side1 => exact pS (HR0.out)); (case side2 => exact HC0.out); rintro e w' ⟨rfl, ⟨nd, rfl⟩⟩; refine ⟨_, rfl, ?_⟩))
    go_ret
    exact ⟨pE, pB⟩
   ·rw [if_neg c8] at H
    have c8b0 : decide (t756 < 0) = false := decide_eq_false c8
    clear c8
    replace H := Option.bind_eq_some_iff.mp H
    obtain ⟨t757, A90, H⟩ := H
    replace H : (if t757 < 0 then (some true) else ((laws_toSwapS.f k l0).bind fun t758 => ((laws_toFoodS.f k l1).bind fun t761 => ((laws_toIntS.f k l2).bind fun t764 => ((laws_toIntS.f k l3).bind fun t767 => ((spec_SwapNeeds.f k t758 t761 t764 t767).bind fun bt770 => ((laws_toSwapS.f k l0).bind fun t774 => ((laws_toFoodS.f k l1).bind fun t777 => ((laws_toIntS.f k l2).bind fun t780 => ((laws_toIntS.f k l3).bind fun t783 => ((impl_SwapNeeds.f k t774 t777 t780 t783).bind fun bt786 => ((laws_eqIntS.f k bt786.1 bt770.1).bind fun t790 => (if t790 = true then (laws_FnExactSwapNeeds.j0 k l0 l1 l2 l3 bt770.1 bt770.2 t774 t777 t780 t783 bt786.1 bt786.2 (bt786.2 != bt770.2)) else (laws_FnExactSwapNeeds.j0 k l0 l1 l2 l3 bt770.1 bt770.2 t774 t777 t780 t783 bt786.1 bt786.2 true)))))))))))))) = some r := H
    have A9 := Aside0.mk A90
    clear A90
    by_cases c10 : t757 < 0
    ·rw [if_pos c10] at H
     have c10b0 : decide (t757 < 0) = true := decide_eq_true c10
     clear c10
     obtain rfl := Option.some.inj H
     go_enter Try.func14, Try.ntmps14
     go_wp2_with (first | ((with_reducible refine gate_callee (f := 28) rfl ?_); refine goesL_ (some 31) rfl rfl Try.func28 pL rfl #[.slice A0 l0.length c0, .int .i64 1048576] rfl pM ?_; (with_reducible refine (laws_szSwapS.calls _ _ l0 1048576 t756 _ ?side1 ?side2 A7.out).mono ?_); (case side1 => exact pS (HR0.out)); (case side2 => exact HC0.out); rintro e w' ⟨rfl, ⟨nd, rfl⟩⟩; refine ⟨_, rfl, ?_⟩) | ((with_reducible refine gate_callee (f := 15) rfl ?_); refine goesL_ (some 36) rfl rfl Try.func15 pL rfl #[.slice A1 l1.length c1, .int .i64 t756] rfl pM ?_; (with_reducible refine (laws_szFoodS.calls _ _ l1 t756 t757 _ ?side1 ?side2 A9.out).mono ?_); (case side1 => exact pS (HR1.out)); (case side2 => exact HC1.out); rintro e w' ⟨rfl, ⟨nd, rfl⟩⟩; refine ⟨_, rfl, ?_⟩))
     go_ret
     exact ⟨pE, pB⟩
    ·rw [if_neg c10] at H
     have c10b0 : decide (t757 < 0) = false := decide_eq_false c10
     clear c10
     replace H := Option.bind_eq_some_iff.mp H
     obtain ⟨t758, A110, H⟩ := H
     replace H : ((laws_toFoodS.f k l1).bind fun t761 => ((laws_toIntS.f k l2).bind fun t764 => ((laws_toIntS.f k l3).bind fun t767 => ((spec_SwapNeeds.f k t758 t761 t764 t767).bind fun bt770 => ((laws_toSwapS.f k l0).bind fun t774 => ((laws_toFoodS.f k l1).bind fun t777 => ((laws_toIntS.f k l2).bind fun t780 => ((laws_toIntS.f k l3).bind fun t783 => ((impl_SwapNeeds.f k t774 t777 t780 t783).bind fun bt786 => ((laws_eqIntS.f k bt786.1 bt770.1).bind fun t790 => (if t790 = true then (laws_FnExactSwapNeeds.j0 k l0 l1 l2 l3 bt770.1 bt770.2 t774 t777 t780 t783 bt786.1 bt786.2 (bt786.2 != bt770.2)) else (laws_FnExactSwapNeeds.j0 k l0 l1 l2 l3 bt770.1 bt770.2 t774 t777 t780 t783 bt786.1 bt786.2 true)))))))))))) = some r := H
     have A11 := Aside0.mk A110
     clear A110
     replace H := Option.bind_eq_some_iff.mp H
     obtain ⟨t761, A120, H⟩ := H
     replace H : ((laws_toIntS.f k l2).bind fun t764 => ((laws_toIntS.f k l3).bind fun t767 => ((spec_SwapNeeds.f k t758 t761 t764 t767).bind fun bt770 => ((laws_toSwapS.f k l0).bind fun t774 => ((laws_toFoodS.f k l1).bind fun t777 => ((laws_toIntS.f k l2).bind fun t780 => ((laws_toIntS.f k l3).bind fun t783 => ((impl_SwapNeeds.f k t774 t777 t780 t783).bind fun bt786 => ((laws_eqIntS.f k bt786.1 bt770.1).bind fun t790 => (if t790 = true then (laws_FnExactSwapNeeds.j0 k l0 l1 l2 l3 bt770.1 bt770.2 t774 t777 t780 t783 bt786.1 bt786.2 (bt786.2 != bt770.2)) else (laws_FnExactSwapNeeds.j0 k l0 l1 l2 l3 bt770.1 bt770.2 t774 t777 t780 t783 bt786.1 bt786.2 true))))))))))) = some r := H
     have A12 := Aside0.mk A120
     clear A120
     replace H := Option.bind_eq_some_iff.mp H
     obtain ⟨t764, A130, H⟩ := H
     replace H : ((laws_toIntS.f k l3).bind fun t767 => ((spec_SwapNeeds.f k t758 t761 t764 t767).bind fun bt770 => ((laws_toSwapS.f k l0).bind fun t774 => ((laws_toFoodS.f k l1).bind fun t777 => ((laws_toIntS.f k l2).bind fun t780 => ((laws_toIntS.f k l3).bind fun t783 => ((impl_SwapNeeds.f k t774 t777 t780 t783).bind fun bt786 => ((laws_eqIntS.f k bt786.1 bt770.1).bind fun t790 => (if t790 = true then (laws_FnExactSwapNeeds.j0 k l0 l1 l2 l3 bt770.1 bt770.2 t774 t777 t780 t783 bt786.1 bt786.2 (bt786.2 != bt770.2)) else (laws_FnExactSwapNeeds.j0 k l0 l1 l2 l3 bt770.1 bt770.2 t774 t777 t780 t783 bt786.1 bt786.2 true)))))))))) = some r := H
     have A13 := Aside0.mk A130
     clear A130
     replace H := Option.bind_eq_some_iff.mp H
     obtain ⟨t767, A140, H⟩ := H
     replace H : ((spec_SwapNeeds.f k t758 t761 t764 t767).bind fun bt770 => ((laws_toSwapS.f k l0).bind fun t774 => ((laws_toFoodS.f k l1).bind fun t777 => ((laws_toIntS.f k l2).bind fun t780 => ((laws_toIntS.f k l3).bind fun t783 => ((impl_SwapNeeds.f k t774 t777 t780 t783).bind fun bt786 => ((laws_eqIntS.f k bt786.1 bt770.1).bind fun t790 => (if t790 = true then (laws_FnExactSwapNeeds.j0 k l0 l1 l2 l3 bt770.1 bt770.2 t774 t777 t780 t783 bt786.1 bt786.2 (bt786.2 != bt770.2)) else (laws_FnExactSwapNeeds.j0 k l0 l1 l2 l3 bt770.1 bt770.2 t774 t777 t780 t783 bt786.1 bt786.2 true))))))))) = some r := H
     have A14 := Aside0.mk A140
     clear A140
     replace H := Option.bind_eq_some_iff.mp H
     obtain ⟨⟨t770, t771⟩, A150, H⟩ := H
     replace H : ((laws_toSwapS.f k l0).bind fun t774 => ((laws_toFoodS.f k l1).bind fun t777 => ((laws_toIntS.f k l2).bind fun t780 => ((laws_toIntS.f k l3).bind fun t783 => ((impl_SwapNeeds.f k t774 t777 t780 t783).bind fun bt786 => ((laws_eqIntS.f k bt786.1 t770).bind fun t790 => (if t790 = true then (laws_FnExactSwapNeeds.j0 k l0 l1 l2 l3 t770 t771 t774 t777 t780 t783 bt786.1 bt786.2 (bt786.2 != t771)) else (laws_FnExactSwapNeeds.j0 k l0 l1 l2 l3 t770 t771 t774 t777 t780 t783 bt786.1 bt786.2 true)))))))) = some r := H
     have A15 := Aside0.mk A150
     clear A150
     replace H := Option.bind_eq_some_iff.mp H
     obtain ⟨t774, A160, H⟩ := H
     replace H : ((laws_toFoodS.f k l1).bind fun t777 => ((laws_toIntS.f k l2).bind fun t780 => ((laws_toIntS.f k l3).bind fun t783 => ((impl_SwapNeeds.f k t774 t777 t780 t783).bind fun bt786 => ((laws_eqIntS.f k bt786.1 t770).bind fun t790 => (if t790 = true then (laws_FnExactSwapNeeds.j0 k l0 l1 l2 l3 t770 t771 t774 t777 t780 t783 bt786.1 bt786.2 (bt786.2 != t771)) else (laws_FnExactSwapNeeds.j0 k l0 l1 l2 l3 t770 t771 t774 t777 t780 t783 bt786.1 bt786.2 true))))))) = some r := H
     have A16 := Aside0.mk A160
     clear A160
     replace H := Option.bind_eq_some_iff.mp H
     obtain ⟨t777, A170, H⟩ := H
     replace H : ((laws_toIntS.f k l2).bind fun t780 => ((laws_toIntS.f k l3).bind fun t783 => ((impl_SwapNeeds.f k t774 t777 t780 t783).bind fun bt786 => ((laws_eqIntS.f k bt786.1 t770).bind fun t790 => (if t790 = true then (laws_FnExactSwapNeeds.j0 k l0 l1 l2 l3 t770 t771 t774 t777 t780 t783 bt786.1 bt786.2 (bt786.2 != t771)) else (laws_FnExactSwapNeeds.j0 k l0 l1 l2 l3 t770 t771 t774 t777 t780 t783 bt786.1 bt786.2 true)))))) = some r := H
     have A17 := Aside0.mk A170
     clear A170
     replace H := Option.bind_eq_some_iff.mp H
     obtain ⟨t780, A180, H⟩ := H
     replace H : ((laws_toIntS.f k l3).bind fun t783 => ((impl_SwapNeeds.f k t774 t777 t780 t783).bind fun bt786 => ((laws_eqIntS.f k bt786.1 t770).bind fun t790 => (if t790 = true then (laws_FnExactSwapNeeds.j0 k l0 l1 l2 l3 t770 t771 t774 t777 t780 t783 bt786.1 bt786.2 (bt786.2 != t771)) else (laws_FnExactSwapNeeds.j0 k l0 l1 l2 l3 t770 t771 t774 t777 t780 t783 bt786.1 bt786.2 true))))) = some r := H
     have A18 := Aside0.mk A180
     clear A180
     replace H := Option.bind_eq_some_iff.mp H
     obtain ⟨t783, A190, H⟩ := H
     replace H : ((impl_SwapNeeds.f k t774 t777 t780 t783).bind fun bt786 => ((laws_eqIntS.f k bt786.1 t770).bind fun t790 => (if t790 = true then (laws_FnExactSwapNeeds.j0 k l0 l1 l2 l3 t770 t771 t774 t777 t780 t783 bt786.1 bt786.2 (bt786.2 != t771)) else (laws_FnExactSwapNeeds.j0 k l0 l1 l2 l3 t770 t771 t774 t777 t780 t783 bt786.1 bt786.2 true)))) = some r := H
     have A19 := Aside0.mk A190
     clear A190
     replace H := Option.bind_eq_some_iff.mp H
     obtain ⟨⟨t786, t787⟩, A200, H⟩ := H
     replace H : ((laws_eqIntS.f k t786 t770).bind fun t790 => (if t790 = true then (laws_FnExactSwapNeeds.j0 k l0 l1 l2 l3 t770 t771 t774 t777 t780 t783 t786 t787 (t787 != t771)) else (laws_FnExactSwapNeeds.j0 k l0 l1 l2 l3 t770 t771 t774 t777 t780 t783 t786 t787 true))) = some r := H
     have A20 := Aside0.mk A200
     clear A200
     have HC21 := Aside0.mk H
     clear H
     go_enter Try.func14, Try.ntmps14
     go_upto_region 18 with (first | ((with_reducible refine gate_callee (f := 28) rfl ?_); refine goesL_ (some 31) rfl rfl Try.func28 pL rfl #[.slice A0 l0.length c0, .int .i64 1048576] rfl pM ?_; (with_reducible refine (laws_szSwapS.calls _ _ l0 1048576 t756 _ ?side1 ?side2 A7.out).mono ?_); (case side1 => exact pS (HR0.out)); (case side2 => exact HC0.out); rintro e w' ⟨rfl, ⟨nd, rfl⟩⟩; refine ⟨_, rfl, ?_⟩) | ((with_reducible refine gate_callee (f := 15) rfl ?_); refine goesL_ (some 36) rfl rfl Try.func15 pL rfl #[.slice A1 l1.length c1, .int .i64 t756] rfl pM ?_; (with_reducible refine (laws_szFoodS.calls _ _ l1 t756 t757 _ ?side1 ?side2 A9.out).mono ?_); (case side1 => exact pS (HR1.out)); (case side2 => exact HC1.out); rintro e w' ⟨rfl, ⟨nd, rfl⟩⟩; refine ⟨_, rfl, ?_⟩) | ((with_reducible refine gate_callee (f := 29) rfl ?_); refine goesL_ (some 41) rfl rfl Try.func29 pL rfl #[.slice A0 l0.length c0] rfl pM ?_; (with_reducible refine (laws_toSwapS.calls k _ _ l0 t758 _ ?side1 ?side2 A11.out).mono ?_); (case side1 => exact pS (HR0.out)); (case side2 => exact HC0.out); rintro e w22 ⟨v759, rfl, ho0, hb⟩; refine ⟨_, rfl, ?_⟩; have n0_ := Aside0.mk (Kd.R_lower ho0 (below_size pB)); have n1_ := Aside0.mk (below_step pB hb); clear HB; have HO760 := n0_; have HB := n1_; clear n0_ n1_; (try clear hb); (try clear hb2); (try clear hk); (try clear hi); (try clear ho0)) | ((with_reducible refine gate_callee (f := 17) rfl ?_); refine goesL_ (some 43) rfl rfl Try.func17 pL rfl #[.slice A1 l1.length c1] rfl pM ?_; (with_reducible refine (laws_toFoodS.calls k _ _ l1 t761 _ ?side1 ?side2 A12.out).mono ?_); (case side1 => exact pS ((Kd.C_below HR1.out HB.out))); (case side2 => exact HC1.out); rintro e w23 ⟨v762, rfl, ho0, hb⟩; refine ⟨_, rfl, ?_⟩; have n0_ := Aside0.mk (Kd.R_below (pR HO760) hb); have n1_ := Aside0.mk (Kd.R_lower ho0 (below_size pB)); have n2_ := Aside0.mk (below_step pB hb); clear HO760; clear HB; have HO760 := n0_; have HO763 := n1_; have HB := n2_; clear n0_ n1_ n2_; (try clear hb); (try clear hb2); (try clear hk); (try clear hi); (try clear ho0)) | ((with_reducible refine gate_callee (f := 18) rfl ?_); refine goesL_ (some 45) rfl rfl Try.func18 pL rfl #[.slice A2 l2.length c2] rfl pM ?_; (with_reducible refine (laws_toIntS.calls k _ _ l2 t764 _ ?side1 ?side2 A13.out).mono ?_); (case side1 => exact pS ((Kd.C_below HR2.out HB.out))); (case side2 => exact HC2.out); rintro e w24 ⟨v765, rfl, ho0, hb⟩; refine ⟨_, rfl, ?_⟩; have n0_ := Aside0.mk (Kd.R_below (pR HO760) hb); have n1_ := Aside0.mk (Kd.R_below (pR HO763) hb); have n2_ := Aside0.mk (Kd.R_lower ho0 (below_size pB)); have n3_ := Aside0.mk (below_step pB hb); clear HO760; clear HO763; clear HB; have HO760 := n0_; have HO763 := n1_; have HO766 := n2_; have HB := n3_; clear n0_ n1_ n2_ n3_; (try clear hb); (try clear hb2); (try clear hk); (try clear hi); (try clear ho0)) | ((with_reducible refine gate_callee (f := 18) rfl ?_); refine goesL_ (some 47) rfl rfl Try.func18 pL rfl #[.slice A3 l3.length c3] rfl pM ?_; (with_reducible refine (laws_toIntS.calls k _ _ l3 t767 _ ?side1 ?side2 A14.out).mono ?_); (case side1 => exact pS ((Kd.C_below HR3.out HB.out))); (case side2 => exact HC3.out); rintro e w25 ⟨v768, rfl, ho0, hb⟩; refine ⟨_, rfl, ?_⟩; have n0_ := Aside0.mk (Kd.R_below (pR HO760) hb); have n1_ := Aside0.mk (Kd.R_below (pR HO763) hb); have n2_ := Aside0.mk (Kd.R_elder' (pR HO766) (Kd.R_base ho0) hb); have n3_ := Aside0.mk (Kd.R_lower (Kd.R_new' ho0 (Kd.R_lt (pR HO766))) (below_size pB)); have n4_ := Aside0.mk (below_step pB hb); clear HO760; clear HO763; clear HO766; clear HB; have HO760 := n0_; have HO763 := n1_; have HO766 := n2_; have HO769 := n3_; have HB := n4_; clear n0_ n1_ n2_ n3_ n4_; (try clear hb); (try clear hb2); (try clear hk); (try clear hi); (try clear ho0); obtain ⟨Ao26, co26, eo26⟩ := Kd.R_slice HO760.out; subst eo26; obtain ⟨Ao27, co27, eo27⟩ := Kd.R_slice HO763.out; subst eo27; obtain ⟨Ao28, co28, eo28⟩ := Kd.R_slice HO766.out; subst eo28; obtain ⟨Ao29, co29, eo29⟩ := Kd.R_slice HO769.out; subst eo29) | ((with_reducible refine gate_callee (f := 42) rfl ?_); refine goesL_ (some 48) rfl rfl Try.func42 pL rfl #[.slice Ao26 t758.length co26, .slice Ao27 t761.length co27, .slice Ao28 t764.length co28, .slice Ao29 t767.length co29] rfl pM ?_; (with_reducible refine (spec_SwapNeeds.calls k _ _ t758 _ _ t761 _ _ t764 _ _ t767 t770 t771 _ ?side1 ?side2 ?side3 ?side4 ?side5 ?side6 ?side7 ?side8 A15.out).mono ?_); (case side1 => exact pS ((Kd.R_reads' HO760.out).2.2)); (case side2 => exact (Kd.R_reads' HO760.out).2.1); (case side3 => exact pS ((Kd.R_reads' HO763.out).2.2)); (case side4 => exact (Kd.R_reads' HO763.out).2.1); (case side5 => exact pS ((Kd.R_reads' HO766.out).2.2)); (case side6 => exact (Kd.R_reads' HO766.out).2.1); (case side7 => exact pS ((Kd.R_reads' HO769.out).2.2)); (case side8 => exact (Kd.R_reads' HO769.out).2.1); rintro e w30 ⟨v772, rfl, ho0, hb⟩; refine ⟨_, rfl, ?_⟩; have n0_ := Aside0.mk (Kd.R_below (pR HO760) hb); have n1_ := Aside0.mk (Kd.R_below (pR HO763) hb); have n2_ := Aside0.mk (Kd.R_elder' (pR HO766) (Kd.R_base ho0) hb); have n3_ := Aside0.mk (Kd.R_elder' (pR HO769) (Kd.R_base ho0) hb); have n4_ := Aside0.mk (Kd.R_lower (Kd.R_new' (Kd.R_new' ho0 (Kd.R_lt (pR HO766))) (Kd.R_lt (pR HO769))) (below_size pB)); have n5_ := Aside0.mk (below_step pB hb); clear HO760; clear HO763; clear HO766; clear HO769; clear HB; have HO760 := n0_; have HO763 := n1_; have HO766 := n2_; have HO769 := n3_; have HO773 := n4_; have HB := n5_; clear n0_ n1_ n2_ n3_ n4_ n5_; (try clear hb); (try clear hb2); (try clear hk); (try clear hi); (try clear ho0)) | ((with_reducible refine gate_callee (f := 29) rfl ?_); refine goesL_ (some 52) rfl rfl Try.func29 pL rfl #[.slice A0 l0.length c0] rfl pM ?_; (with_reducible refine (laws_toSwapS.calls k _ _ l0 t774 _ ?side1 ?side2 A16.out).mono ?_); (case side1 => exact pS ((Kd.C_below HR0.out HB.out))); (case side2 => exact HC0.out); rintro e w31 ⟨v775, rfl, ho0, hb⟩; refine ⟨_, rfl, ?_⟩; have n0_ := Aside0.mk (Kd.R_elder' (pR HO760) (Kd.R_base ho0) hb); have n1_ := Aside0.mk (Kd.R_below (pR HO763) hb); have n2_ := Aside0.mk (Kd.R_below (pR HO766) hb); have n3_ := Aside0.mk (Kd.R_below (pR HO769) hb); have n4_ := Aside0.mk (Kd.R_below (pR HO773) hb); have n5_ := Aside0.mk (Kd.R_lower (Kd.R_new' ho0 (Kd.R_lt (pR HO760))) (below_size pB)); have n6_ := Aside0.mk (below_step pB hb); clear HO760; clear HO763; clear HO766; clear HO769; clear HO773; clear HB; have HO760 := n0_; have HO763 := n1_; have HO766 := n2_; have HO769 := n3_; have HO773 := n4_; have HO776 := n5_; have HB := n6_; clear n0_ n1_ n2_ n3_ n4_ n5_ n6_; (try clear hb); (try clear hb2); (try clear hk); (try clear hi); (try clear ho0)) | ((with_reducible refine gate_callee (f := 17) rfl ?_); refine goesL_ (some 54) rfl rfl Try.func17 pL rfl #[.slice A1 l1.length c1] rfl pM ?_; (with_reducible refine (laws_toFoodS.calls k _ _ l1 t777 _ ?side1 ?side2 A17.out).mono ?_); (case side1 => exact pS ((Kd.C_below HR1.out HB.out))); (case side2 => exact HC1.out); rintro e w32 ⟨v778, rfl, ho0, hb⟩; refine ⟨_, rfl, ?_⟩; have n0_ := Aside0.mk (Kd.R_below (pR HO760) hb); have n1_ := Aside0.mk (Kd.R_elder' (pR HO763) (Kd.R_base ho0) hb); have n2_ := Aside0.mk (Kd.R_below (pR HO766) hb); have n3_ := Aside0.mk (Kd.R_below (pR HO769) hb); have n4_ := Aside0.mk (Kd.R_below (pR HO773) hb); have n5_ := Aside0.mk (Kd.R_below (pR HO776) hb); have n6_ := Aside0.mk (Kd.R_lower (Kd.R_new' ho0 (Kd.R_lt (pR HO763))) (below_size pB)); have n7_ := Aside0.mk (below_step pB hb); clear HO760; clear HO763; clear HO766; clear HO769; clear HO773; clear HO776; clear HB; have HO760 := n0_; have HO763 := n1_; have HO766 := n2_; have HO769 := n3_; have HO773 := n4_; have HO776 := n5_; have HO779 := n6_; have HB := n7_; clear n0_ n1_ n2_ n3_ n4_ n5_ n6_ n7_; (try clear hb); (try clear hb2); (try clear hk); (try clear hi); (try clear ho0)) | ((with_reducible refine gate_callee (f := 18) rfl ?_); refine goesL_ (some 56) rfl rfl Try.func18 pL rfl #[.slice A2 l2.length c2] rfl pM ?_; (with_reducible refine (laws_toIntS.calls k _ _ l2 t780 _ ?side1 ?side2 A18.out).mono ?_); (case side1 => exact pS ((Kd.C_below HR2.out HB.out))); (case side2 => exact HC2.out); rintro e w33 ⟨v781, rfl, ho0, hb⟩; refine ⟨_, rfl, ?_⟩; have n0_ := Aside0.mk (Kd.R_below (pR HO760) hb); have n1_ := Aside0.mk (Kd.R_below (pR HO763) hb); have n2_ := Aside0.mk (Kd.R_elder' (pR HO766) (Kd.R_base ho0) hb); have n3_ := Aside0.mk (Kd.R_elder' (pR HO769) (Kd.R_base ho0) hb); have n4_ := Aside0.mk (Kd.R_elder' (pR HO773) (Kd.R_base ho0) hb); have n5_ := Aside0.mk (Kd.R_below (pR HO776) hb); have n6_ := Aside0.mk (Kd.R_below (pR HO779) hb); have n7_ := Aside0.mk (Kd.R_lower (Kd.R_new' (Kd.R_new' (Kd.R_new' ho0 (Kd.R_lt (pR HO766))) (Kd.R_lt (pR HO769))) (Kd.R_lt (pR HO773))) (below_size pB)); have n8_ := Aside0.mk (below_step pB hb); clear HO760; clear HO763; clear HO766; clear HO769; clear HO773; clear HO776; clear HO779; clear HB; have HO760 := n0_; have HO763 := n1_; have HO766 := n2_; have HO769 := n3_; have HO773 := n4_; have HO776 := n5_; have HO779 := n6_; have HO782 := n7_; have HB := n8_; clear n0_ n1_ n2_ n3_ n4_ n5_ n6_ n7_ n8_; (try clear hb); (try clear hb2); (try clear hk); (try clear hi); (try clear ho0)) | ((with_reducible refine gate_callee (f := 18) rfl ?_); refine goesL_ (some 58) rfl rfl Try.func18 pL rfl #[.slice A3 l3.length c3] rfl pM ?_; (with_reducible refine (laws_toIntS.calls k _ _ l3 t783 _ ?side1 ?side2 A19.out).mono ?_); (case side1 => exact pS ((Kd.C_below HR3.out HB.out))); (case side2 => exact HC3.out); rintro e w34 ⟨v784, rfl, ho0, hb⟩; refine ⟨_, rfl, ?_⟩; have n0_ := Aside0.mk (Kd.R_below (pR HO760) hb); have n1_ := Aside0.mk (Kd.R_below (pR HO763) hb); have n2_ := Aside0.mk (Kd.R_elder' (pR HO766) (Kd.R_base ho0) hb); have n3_ := Aside0.mk (Kd.R_elder' (pR HO769) (Kd.R_base ho0) hb); have n4_ := Aside0.mk (Kd.R_elder' (pR HO773) (Kd.R_base ho0) hb); have n5_ := Aside0.mk (Kd.R_below (pR HO776) hb); have n6_ := Aside0.mk (Kd.R_below (pR HO779) hb); have n7_ := Aside0.mk (Kd.R_elder' (pR HO782) (Kd.R_base ho0) hb); have n8_ := Aside0.mk (Kd.R_lower (Kd.R_new' (Kd.R_new' (Kd.R_new' (Kd.R_new' ho0 (Kd.R_lt (pR HO766))) (Kd.R_lt (pR HO769))) (Kd.R_lt (pR HO773))) (Kd.R_lt (pR HO782))) (below_size pB)); have n9_ := Aside0.mk (below_step pB hb); clear HO760; clear HO763; clear HO766; clear HO769; clear HO773; clear HO776; clear HO779; clear HO782; clear HB; have HO760 := n0_; have HO763 := n1_; have HO766 := n2_; have HO769 := n3_; have HO773 := n4_; have HO776 := n5_; have HO779 := n6_; have HO782 := n7_; have HO785 := n8_; have HB := n9_; clear n0_ n1_ n2_ n3_ n4_ n5_ n6_ n7_ n8_ n9_; (try clear hb); (try clear hb2); (try clear hk); (try clear hi); (try clear ho0); obtain ⟨Ao35, co35, eo35⟩ := Kd.R_slice HO776.out; subst eo35; obtain ⟨Ao36, co36, eo36⟩ := Kd.R_slice HO779.out; subst eo36; obtain ⟨Ao37, co37, eo37⟩ := Kd.R_slice HO782.out; subst eo37; obtain ⟨Ao38, co38, eo38⟩ := Kd.R_slice HO785.out; subst eo38) | ((with_reducible refine gate_callee (f := 41) rfl ?_); refine goesL_ (some 64) rfl rfl Try.func41 pL rfl #[.slice Ao35 t774.length co35, .slice Ao36 t777.length co36, .slice Ao37 t780.length co37, .slice Ao38 t783.length co38] rfl pM ?_; (with_reducible refine (impl_SwapNeeds.calls k _ _ t774 _ _ t777 _ _ t780 _ _ t783 t786 t787 _ ?side1 ?side2 ?side3 ?side4 ?side5 ?side6 ?side7 ?side8 A20.out).mono ?_); (case side1 => exact pS ((Kd.R_reads' HO776.out).2.2)); (case side2 => exact (Kd.R_reads' HO776.out).2.1); (case side3 => exact pS ((Kd.R_reads' HO779.out).2.2)); (case side4 => exact (Kd.R_reads' HO779.out).2.1); (case side5 => exact pS ((Kd.R_reads' HO782.out).2.2)); (case side6 => exact (Kd.R_reads' HO782.out).2.1); (case side7 => exact pS ((Kd.R_reads' HO785.out).2.2)); (case side8 => exact (Kd.R_reads' HO785.out).2.1); rintro e w39 ⟨v788, rfl, ho0, hb⟩; refine ⟨_, rfl, ?_⟩; have n0_ := Aside0.mk (Kd.R_below (pR HO760) hb); have n1_ := Aside0.mk (Kd.R_below (pR HO763) hb); have n2_ := Aside0.mk (Kd.R_elder' (pR HO766) (Kd.R_base ho0) hb); have n3_ := Aside0.mk (Kd.R_elder' (pR HO769) (Kd.R_base ho0) hb); have n4_ := Aside0.mk (Kd.R_elder' (pR HO773) (Kd.R_base ho0) hb); have n5_ := Aside0.mk (Kd.R_below (pR HO776) hb); have n6_ := Aside0.mk (Kd.R_below (pR HO779) hb); have n7_ := Aside0.mk (Kd.R_elder' (pR HO782) (Kd.R_base ho0) hb); have n8_ := Aside0.mk (Kd.R_elder' (pR HO785) (Kd.R_base ho0) hb); have n9_ := Aside0.mk (Kd.R_lower (Kd.R_new' (Kd.R_new' (Kd.R_new' (Kd.R_new' (Kd.R_new' ho0 (Kd.R_lt (pR HO766))) (Kd.R_lt (pR HO769))) (Kd.R_lt (pR HO773))) (Kd.R_lt (pR HO782))) (Kd.R_lt (pR HO785))) (below_size pB)); have n10_ := Aside0.mk (below_step pB hb); clear HO760; clear HO763; clear HO766; clear HO769; clear HO773; clear HO776; clear HO779; clear HO782; clear HO785; clear HB; have HO760 := n0_; have HO763 := n1_; have HO766 := n2_; have HO769 := n3_; have HO773 := n4_; have HO776 := n5_; have HO779 := n6_; have HO782 := n7_; have HO785 := n8_; have HO789 := n9_; have HB := n10_; clear n0_ n1_ n2_ n3_ n4_ n5_ n6_ n7_ n8_ n9_ n10_; (try clear hb); (try clear hb2); (try clear hk); (try clear hi); (try clear ho0)))
     (try simp only [Act.put, List.setIfInBounds_toArray, List.set_cons_zero, List.set_cons_succ])
     go_cut [75] (fun v75 wc => ∃ (kq : Nat) (x75_20 : Bool), v75 = .bool x75_20 ∧ Aside0 (laws_FnExactSwapNeeds.j0 kq l0 l1 l2 l3 t770 t771 t774 t777 t780 t783 t786 t787 x75_20 = some r) ∧ Aside0 (kq ≤ k) ∧ Aside0 (Kd.R (Kd.int .i64) 3 wc w.heap.size (fun k_ => some k_ ≠ ((.slice Ao37 t780.length co37) : Value).ownBlock ∧ some k_ ≠ ((.slice Ao38 t783.length co38) : Value).ownBlock ∧ some k_ ≠ (v788 : Value).ownBlock) v772 t770) ∧ Aside0 (Kd.R k41 41 wc w.heap.size (fun _ => True) (.slice Ao35 t774.length co35) t774) ∧ Aside0 (Kd.R k62 62 wc w.heap.size (fun _ => True) (.slice Ao36 t777.length co36) t777) ∧ Aside0 (Kd.R (Kd.int .i64) 3 wc w.heap.size (fun k_ => some k_ ≠ (v772 : Value).ownBlock ∧ some k_ ≠ ((.slice Ao38 t783.length co38) : Value).ownBlock ∧ some k_ ≠ (v788 : Value).ownBlock) (.slice Ao37 t780.length co37) t780) ∧ Aside0 (Kd.R (Kd.int .i64) 3 wc w.heap.size (fun k_ => some k_ ≠ (v772 : Value).ownBlock ∧ some k_ ≠ ((.slice Ao37 t780.length co37) : Value).ownBlock ∧ some k_ ≠ (v788 : Value).ownBlock) (.slice Ao38 t783.length co38) t783) ∧ Aside0 (Kd.R (Kd.int .i64) 3 wc w.heap.size (fun k_ => some k_ ≠ (v772 : Value).ownBlock ∧ some k_ ≠ ((.slice Ao37 t780.length co37) : Value).ownBlock ∧ some k_ ≠ ((.slice Ao38 t783.length co38) : Value).ownBlock) v788 t786) ∧ Aside0 (Below w.heap.size w wc))
     case first =>
      have H := HC21.out
      clear HC21
      replace H := Option.bind_eq_some_iff.mp H
      obtain ⟨t790, A400, H⟩ := H
      replace H : (if t790 = true then (laws_FnExactSwapNeeds.j0 k l0 l1 l2 l3 t770 t771 t774 t777 t780 t783 t786 t787 (t787 != t771)) else (laws_FnExactSwapNeeds.j0 k l0 l1 l2 l3 t770 t771 t774 t777 t780 t783 t786 t787 true)) = some r := H
      have A40 := Aside0.mk A400
      clear A400
      by_cases c41 : t790 = true
      ·subst c41
       have H1 : (laws_FnExactSwapNeeds.j0 k l0 l1 l2 l3 t770 t771 t774 t777 t780 t783 t786 t787 (t787 != t771)) = some r := by rw [if_pos rfl] at H; exact H
       clear H
       have H := H1
       clear H1
       have H' := Aside0.mk H
       clear H
       obtain ⟨Ao42, co42, eo42⟩ := Kd.R_slice HO789.out
       subst eo42
       obtain ⟨Ao43, co43, eo43⟩ := Kd.R_slice HO773.out
       subst eo43
       go_wp2_with (first | ((with_reducible refine gate_callee (f := 21) rfl ?_); refine goesL_ (some 69) rfl rfl Try.func21 pL rfl #[.slice Ao42 t786.length co42, .slice Ao43 t770.length co43] rfl pM ?_; (with_reducible refine (laws_eqIntS.calls k _ _ t786 _ _ t770 true _ ?side1 ?side2 ?side3 ?side4 A40.out).mono ?_); (case side1 => exact pS ((Kd.R_reads' HO789.out).2.2)); (case side2 => exact (Kd.R_reads' HO789.out).2.1); (case side3 => exact pS ((Kd.R_reads' HO773.out).2.2)); (case side4 => exact (Kd.R_reads' HO773.out).2.1); rintro e w' ⟨rfl, ⟨nd, rfl⟩⟩; refine ⟨_, rfl, ?_⟩))
       go_meet
       case rel => exact ⟨_, ((t787 != t771)), pF, H', ⟨by first | omega | exact Nat.le_refl _⟩, ⟨by (with_reducible repeat (first | apply Kd.R_alloc | apply Kd.R_drewN | apply Kd.R_drew)); exact Kd.R_mono HO773.out (fun _ hk => ⟨hk.1.1.2, ⟨hk.1.2, hk.2⟩⟩)⟩, ⟨by (with_reducible repeat (first | apply Kd.R_alloc | apply Kd.R_drewN | apply Kd.R_drew)); exact Kd.R_mono HO776.out (fun _ hk => trivial)⟩, ⟨by (with_reducible repeat (first | apply Kd.R_alloc | apply Kd.R_drewN | apply Kd.R_drew)); exact Kd.R_mono HO779.out (fun _ hk => trivial)⟩, ⟨by (with_reducible repeat (first | apply Kd.R_alloc | apply Kd.R_drewN | apply Kd.R_drew)); exact Kd.R_mono HO782.out (fun _ hk => ⟨hk.1.1.2, ⟨hk.1.2, hk.2⟩⟩)⟩, ⟨by (with_reducible repeat (first | apply Kd.R_alloc | apply Kd.R_drewN | apply Kd.R_drew)); exact Kd.R_mono HO785.out (fun _ hk => ⟨hk.1.1.2, ⟨hk.1.2, hk.2⟩⟩)⟩, ⟨by (with_reducible repeat (first | apply Kd.R_alloc | apply Kd.R_drewN | apply Kd.R_drew)); exact Kd.R_mono HO789.out (fun _ hk => ⟨hk.1.1.2, ⟨hk.1.2, hk.2⟩⟩)⟩, ⟨pB⟩⟩
      ·replace c41 := Bool.eq_false_iff.mpr c41
       subst c41
       have H1 : (laws_FnExactSwapNeeds.j0 k l0 l1 l2 l3 t770 t771 t774 t777 t780 t783 t786 t787 true) = some r := by rw [if_neg (show ¬ (false = true) by decide)] at H; exact H
       clear H
       have H := H1
       clear H1
       have H' := Aside0.mk H
       clear H
       obtain ⟨Ao44, co44, eo44⟩ := Kd.R_slice HO789.out
       subst eo44
       obtain ⟨Ao45, co45, eo45⟩ := Kd.R_slice HO773.out
       subst eo45
       go_wp2_with (first | ((with_reducible refine gate_callee (f := 21) rfl ?_); refine goesL_ (some 69) rfl rfl Try.func21 pL rfl #[.slice Ao44 t786.length co44, .slice Ao45 t770.length co45] rfl pM ?_; (with_reducible refine (laws_eqIntS.calls k _ _ t786 _ _ t770 false _ ?side1 ?side2 ?side3 ?side4 A40.out).mono ?_); (case side1 => exact pS ((Kd.R_reads' HO789.out).2.2)); (case side2 => exact (Kd.R_reads' HO789.out).2.1); (case side3 => exact pS ((Kd.R_reads' HO773.out).2.2)); (case side4 => exact (Kd.R_reads' HO773.out).2.1); rintro e w' ⟨rfl, ⟨nd, rfl⟩⟩; refine ⟨_, rfl, ?_⟩))
       go_meet
       case rel => exact ⟨_, (true), pF, H', ⟨by first | omega | exact Nat.le_refl _⟩, ⟨by (with_reducible repeat (first | apply Kd.R_alloc | apply Kd.R_drewN | apply Kd.R_drew)); exact Kd.R_mono HO773.out (fun _ hk => ⟨hk.1.1.2, ⟨hk.1.2, hk.2⟩⟩)⟩, ⟨by (with_reducible repeat (first | apply Kd.R_alloc | apply Kd.R_drewN | apply Kd.R_drew)); exact Kd.R_mono HO776.out (fun _ hk => trivial)⟩, ⟨by (with_reducible repeat (first | apply Kd.R_alloc | apply Kd.R_drewN | apply Kd.R_drew)); exact Kd.R_mono HO779.out (fun _ hk => trivial)⟩, ⟨by (with_reducible repeat (first | apply Kd.R_alloc | apply Kd.R_drewN | apply Kd.R_drew)); exact Kd.R_mono HO782.out (fun _ hk => ⟨hk.1.1.2, ⟨hk.1.2, hk.2⟩⟩)⟩, ⟨by (with_reducible repeat (first | apply Kd.R_alloc | apply Kd.R_drewN | apply Kd.R_drew)); exact Kd.R_mono HO785.out (fun _ hk => ⟨hk.1.1.2, ⟨hk.1.2, hk.2⟩⟩)⟩, ⟨by (with_reducible repeat (first | apply Kd.R_alloc | apply Kd.R_drewN | apply Kd.R_drew)); exact Kd.R_mono HO789.out (fun _ hk => ⟨hk.1.1.2, ⟨hk.1.2, hk.2⟩⟩)⟩, ⟨pB⟩⟩
     case rest =>
      clear HC21
      try clear c1
      try clear c2
      try clear p2
      try clear c3
      try clear c4
      try clear c5
      try clear c5b0
      try clear c5b1
      try clear c6
      try clear c6b0
      try clear c6b1
      try clear c8
      try clear c8b0
      try clear c10
      try clear c10b0
      try clear c14
      try clear c15
      try clear c17
      try clear c18
      try clear c21
      try clear c28
      try clear c29
      try clear c41
      try clear c42
      obtain ⟨kq, x75_20, rfl, HA, HJ20, HO_10, HO_12, HO_13, HO_14, HO_15, HO_16, HB⟩ := hcut
      cases kq with
      | zero => exact absurd HA.out (by simp [laws_FnExactSwapNeeds.j0])
      | succ kj20 =>
       have H := HA.out
       clear HA
       simp only [laws_FnExactSwapNeeds.j0] at H
       by_cases c46 : x75_20 = true
       ·subst c46
        have H1 : (some false) = some r := by rw [if_pos rfl] at H; exact H
        clear H
        have H := H1
        clear H1
        obtain rfl := Option.some.inj H
        go_wp2
        go_ret
        exact ⟨pE, pB⟩
       ·replace c46 := Bool.eq_false_iff.mpr c46
        subst c46
        have H1 : ((laws_toSwapS.f kj20 l0).bind fun t791 => ((laws_eqSwapS.f kj20 t774 t791).bind fun t794 => (if t794 = true then ((laws_toFoodS.f kj20 l1).bind fun t795 => ((laws_eqFoodS.f kj20 t777 t795).bind fun t798 => (if t798 = true then ((laws_toIntS.f kj20 l2).bind fun t799 => ((laws_eqIntS.f kj20 t780 t799).bind fun t802 => (if t802 = true then ((laws_toIntS.f kj20 l3).bind fun t803 => ((laws_eqIntS.f kj20 t783 t803).bind fun t806 => (if t806 = true then ((laws_markSwapS.f kj20 t774 1).bind fun bt807 => ((laws_markFoodS.f kj20 t777 bt807.1).bind fun bt809 => ((laws_markIntS.f kj20 t780 bt809.1).bind fun bt811 => ((laws_markIntS.f kj20 t783 bt811.1).bind fun bt813 => (if bt813.1 < 0 then (laws_FnExactSwapNeeds.j1 kj20 l0 l1 l2 l3 t770 t771 t786 true) else ((laws_eqIntS.f kj20 t786 t770).bind fun t815 => (if t815 = true then (laws_FnExactSwapNeeds.j1 kj20 l0 l1 l2 l3 t770 t771 t786 (t787 != t771)) else (laws_FnExactSwapNeeds.j1 kj20 l0 l1 l2 l3 t770 t771 t786 true)))))))) else (some false)))) else (some false)))) else (some false)))) else (some false)))) = some r := by rw [if_neg (show ¬ (false = true) by decide)] at H; exact H
        clear H
        have H := H1
        clear H1
        replace H := Option.bind_eq_some_iff.mp H
        obtain ⟨t791, A470, H⟩ := H
        replace H : ((laws_eqSwapS.f kj20 t774 t791).bind fun t794 => (if t794 = true then ((laws_toFoodS.f kj20 l1).bind fun t795 => ((laws_eqFoodS.f kj20 t777 t795).bind fun t798 => (if t798 = true then ((laws_toIntS.f kj20 l2).bind fun t799 => ((laws_eqIntS.f kj20 t780 t799).bind fun t802 => (if t802 = true then ((laws_toIntS.f kj20 l3).bind fun t803 => ((laws_eqIntS.f kj20 t783 t803).bind fun t806 => (if t806 = true then ((laws_markSwapS.f kj20 t774 1).bind fun bt807 => ((laws_markFoodS.f kj20 t777 bt807.1).bind fun bt809 => ((laws_markIntS.f kj20 t780 bt809.1).bind fun bt811 => ((laws_markIntS.f kj20 t783 bt811.1).bind fun bt813 => (if bt813.1 < 0 then (laws_FnExactSwapNeeds.j1 kj20 l0 l1 l2 l3 t770 t771 t786 true) else ((laws_eqIntS.f kj20 t786 t770).bind fun t815 => (if t815 = true then (laws_FnExactSwapNeeds.j1 kj20 l0 l1 l2 l3 t770 t771 t786 (t787 != t771)) else (laws_FnExactSwapNeeds.j1 kj20 l0 l1 l2 l3 t770 t771 t786 true)))))))) else (some false)))) else (some false)))) else (some false)))) else (some false))) = some r := H
        have A47 := Aside0.mk A470
        clear A470
        replace H := Option.bind_eq_some_iff.mp H
        obtain ⟨t794, A480, H⟩ := H
        replace H : (if t794 = true then ((laws_toFoodS.f kj20 l1).bind fun t795 => ((laws_eqFoodS.f kj20 t777 t795).bind fun t798 => (if t798 = true then ((laws_toIntS.f kj20 l2).bind fun t799 => ((laws_eqIntS.f kj20 t780 t799).bind fun t802 => (if t802 = true then ((laws_toIntS.f kj20 l3).bind fun t803 => ((laws_eqIntS.f kj20 t783 t803).bind fun t806 => (if t806 = true then ((laws_markSwapS.f kj20 t774 1).bind fun bt807 => ((laws_markFoodS.f kj20 t777 bt807.1).bind fun bt809 => ((laws_markIntS.f kj20 t780 bt809.1).bind fun bt811 => ((laws_markIntS.f kj20 t783 bt811.1).bind fun bt813 => (if bt813.1 < 0 then (laws_FnExactSwapNeeds.j1 kj20 l0 l1 l2 l3 t770 t771 t786 true) else ((laws_eqIntS.f kj20 t786 t770).bind fun t815 => (if t815 = true then (laws_FnExactSwapNeeds.j1 kj20 l0 l1 l2 l3 t770 t771 t786 (t787 != t771)) else (laws_FnExactSwapNeeds.j1 kj20 l0 l1 l2 l3 t770 t771 t786 true)))))))) else (some false)))) else (some false)))) else (some false)))) else (some false)) = some r := H
        have A48 := Aside0.mk A480
        clear A480
        by_cases c49 : t794 = true
        ·subst c49
         have H1 : ((laws_toFoodS.f kj20 l1).bind fun t795 => ((laws_eqFoodS.f kj20 t777 t795).bind fun t798 => (if t798 = true then ((laws_toIntS.f kj20 l2).bind fun t799 => ((laws_eqIntS.f kj20 t780 t799).bind fun t802 => (if t802 = true then ((laws_toIntS.f kj20 l3).bind fun t803 => ((laws_eqIntS.f kj20 t783 t803).bind fun t806 => (if t806 = true then ((laws_markSwapS.f kj20 t774 1).bind fun bt807 => ((laws_markFoodS.f kj20 t777 bt807.1).bind fun bt809 => ((laws_markIntS.f kj20 t780 bt809.1).bind fun bt811 => ((laws_markIntS.f kj20 t783 bt811.1).bind fun bt813 => (if bt813.1 < 0 then (laws_FnExactSwapNeeds.j1 kj20 l0 l1 l2 l3 t770 t771 t786 true) else ((laws_eqIntS.f kj20 t786 t770).bind fun t815 => (if t815 = true then (laws_FnExactSwapNeeds.j1 kj20 l0 l1 l2 l3 t770 t771 t786 (t787 != t771)) else (laws_FnExactSwapNeeds.j1 kj20 l0 l1 l2 l3 t770 t771 t786 true)))))))) else (some false)))) else (some false)))) else (some false)))) = some r := by rw [if_pos rfl] at H; exact H
         clear H
         have H := H1
         clear H1
         replace H := Option.bind_eq_some_iff.mp H
         obtain ⟨t795, A500, H⟩ := H
         replace H : ((laws_eqFoodS.f kj20 t777 t795).bind fun t798 => (if t798 = true then ((laws_toIntS.f kj20 l2).bind fun t799 => ((laws_eqIntS.f kj20 t780 t799).bind fun t802 => (if t802 = true then ((laws_toIntS.f kj20 l3).bind fun t803 => ((laws_eqIntS.f kj20 t783 t803).bind fun t806 => (if t806 = true then ((laws_markSwapS.f kj20 t774 1).bind fun bt807 => ((laws_markFoodS.f kj20 t777 bt807.1).bind fun bt809 => ((laws_markIntS.f kj20 t780 bt809.1).bind fun bt811 => ((laws_markIntS.f kj20 t783 bt811.1).bind fun bt813 => (if bt813.1 < 0 then (laws_FnExactSwapNeeds.j1 kj20 l0 l1 l2 l3 t770 t771 t786 true) else ((laws_eqIntS.f kj20 t786 t770).bind fun t815 => (if t815 = true then (laws_FnExactSwapNeeds.j1 kj20 l0 l1 l2 l3 t770 t771 t786 (t787 != t771)) else (laws_FnExactSwapNeeds.j1 kj20 l0 l1 l2 l3 t770 t771 t786 true)))))))) else (some false)))) else (some false)))) else (some false))) = some r := H
         have A50 := Aside0.mk A500
         clear A500
         replace H := Option.bind_eq_some_iff.mp H
         obtain ⟨t798, A510, H⟩ := H
         replace H : (if t798 = true then ((laws_toIntS.f kj20 l2).bind fun t799 => ((laws_eqIntS.f kj20 t780 t799).bind fun t802 => (if t802 = true then ((laws_toIntS.f kj20 l3).bind fun t803 => ((laws_eqIntS.f kj20 t783 t803).bind fun t806 => (if t806 = true then ((laws_markSwapS.f kj20 t774 1).bind fun bt807 => ((laws_markFoodS.f kj20 t777 bt807.1).bind fun bt809 => ((laws_markIntS.f kj20 t780 bt809.1).bind fun bt811 => ((laws_markIntS.f kj20 t783 bt811.1).bind fun bt813 => (if bt813.1 < 0 then (laws_FnExactSwapNeeds.j1 kj20 l0 l1 l2 l3 t770 t771 t786 true) else ((laws_eqIntS.f kj20 t786 t770).bind fun t815 => (if t815 = true then (laws_FnExactSwapNeeds.j1 kj20 l0 l1 l2 l3 t770 t771 t786 (t787 != t771)) else (laws_FnExactSwapNeeds.j1 kj20 l0 l1 l2 l3 t770 t771 t786 true)))))))) else (some false)))) else (some false)))) else (some false)) = some r := H
         have A51 := Aside0.mk A510
         clear A510
         by_cases c52 : t798 = true
         ·subst c52
          have H1 : ((laws_toIntS.f kj20 l2).bind fun t799 => ((laws_eqIntS.f kj20 t780 t799).bind fun t802 => (if t802 = true then ((laws_toIntS.f kj20 l3).bind fun t803 => ((laws_eqIntS.f kj20 t783 t803).bind fun t806 => (if t806 = true then ((laws_markSwapS.f kj20 t774 1).bind fun bt807 => ((laws_markFoodS.f kj20 t777 bt807.1).bind fun bt809 => ((laws_markIntS.f kj20 t780 bt809.1).bind fun bt811 => ((laws_markIntS.f kj20 t783 bt811.1).bind fun bt813 => (if bt813.1 < 0 then (laws_FnExactSwapNeeds.j1 kj20 l0 l1 l2 l3 t770 t771 t786 true) else ((laws_eqIntS.f kj20 t786 t770).bind fun t815 => (if t815 = true then (laws_FnExactSwapNeeds.j1 kj20 l0 l1 l2 l3 t770 t771 t786 (t787 != t771)) else (laws_FnExactSwapNeeds.j1 kj20 l0 l1 l2 l3 t770 t771 t786 true)))))))) else (some false)))) else (some false)))) = some r := by rw [if_pos rfl] at H; exact H
          clear H
          have H := H1
          clear H1
          replace H := Option.bind_eq_some_iff.mp H
          obtain ⟨t799, A530, H⟩ := H
          replace H : ((laws_eqIntS.f kj20 t780 t799).bind fun t802 => (if t802 = true then ((laws_toIntS.f kj20 l3).bind fun t803 => ((laws_eqIntS.f kj20 t783 t803).bind fun t806 => (if t806 = true then ((laws_markSwapS.f kj20 t774 1).bind fun bt807 => ((laws_markFoodS.f kj20 t777 bt807.1).bind fun bt809 => ((laws_markIntS.f kj20 t780 bt809.1).bind fun bt811 => ((laws_markIntS.f kj20 t783 bt811.1).bind fun bt813 => (if bt813.1 < 0 then (laws_FnExactSwapNeeds.j1 kj20 l0 l1 l2 l3 t770 t771 t786 true) else ((laws_eqIntS.f kj20 t786 t770).bind fun t815 => (if t815 = true then (laws_FnExactSwapNeeds.j1 kj20 l0 l1 l2 l3 t770 t771 t786 (t787 != t771)) else (laws_FnExactSwapNeeds.j1 kj20 l0 l1 l2 l3 t770 t771 t786 true)))))))) else (some false)))) else (some false))) = some r := H
          have A53 := Aside0.mk A530
          clear A530
          replace H := Option.bind_eq_some_iff.mp H
          obtain ⟨t802, A540, H⟩ := H
          replace H : (if t802 = true then ((laws_toIntS.f kj20 l3).bind fun t803 => ((laws_eqIntS.f kj20 t783 t803).bind fun t806 => (if t806 = true then ((laws_markSwapS.f kj20 t774 1).bind fun bt807 => ((laws_markFoodS.f kj20 t777 bt807.1).bind fun bt809 => ((laws_markIntS.f kj20 t780 bt809.1).bind fun bt811 => ((laws_markIntS.f kj20 t783 bt811.1).bind fun bt813 => (if bt813.1 < 0 then (laws_FnExactSwapNeeds.j1 kj20 l0 l1 l2 l3 t770 t771 t786 true) else ((laws_eqIntS.f kj20 t786 t770).bind fun t815 => (if t815 = true then (laws_FnExactSwapNeeds.j1 kj20 l0 l1 l2 l3 t770 t771 t786 (t787 != t771)) else (laws_FnExactSwapNeeds.j1 kj20 l0 l1 l2 l3 t770 t771 t786 true)))))))) else (some false)))) else (some false)) = some r := H
          have A54 := Aside0.mk A540
          clear A540
          by_cases c55 : t802 = true
          ·subst c55
           have H1 : ((laws_toIntS.f kj20 l3).bind fun t803 => ((laws_eqIntS.f kj20 t783 t803).bind fun t806 => (if t806 = true then ((laws_markSwapS.f kj20 t774 1).bind fun bt807 => ((laws_markFoodS.f kj20 t777 bt807.1).bind fun bt809 => ((laws_markIntS.f kj20 t780 bt809.1).bind fun bt811 => ((laws_markIntS.f kj20 t783 bt811.1).bind fun bt813 => (if bt813.1 < 0 then (laws_FnExactSwapNeeds.j1 kj20 l0 l1 l2 l3 t770 t771 t786 true) else ((laws_eqIntS.f kj20 t786 t770).bind fun t815 => (if t815 = true then (laws_FnExactSwapNeeds.j1 kj20 l0 l1 l2 l3 t770 t771 t786 (t787 != t771)) else (laws_FnExactSwapNeeds.j1 kj20 l0 l1 l2 l3 t770 t771 t786 true)))))))) else (some false)))) = some r := by rw [if_pos rfl] at H; exact H
           clear H
           have H := H1
           clear H1
           replace H := Option.bind_eq_some_iff.mp H
           obtain ⟨t803, A560, H⟩ := H
           replace H : ((laws_eqIntS.f kj20 t783 t803).bind fun t806 => (if t806 = true then ((laws_markSwapS.f kj20 t774 1).bind fun bt807 => ((laws_markFoodS.f kj20 t777 bt807.1).bind fun bt809 => ((laws_markIntS.f kj20 t780 bt809.1).bind fun bt811 => ((laws_markIntS.f kj20 t783 bt811.1).bind fun bt813 => (if bt813.1 < 0 then (laws_FnExactSwapNeeds.j1 kj20 l0 l1 l2 l3 t770 t771 t786 true) else ((laws_eqIntS.f kj20 t786 t770).bind fun t815 => (if t815 = true then (laws_FnExactSwapNeeds.j1 kj20 l0 l1 l2 l3 t770 t771 t786 (t787 != t771)) else (laws_FnExactSwapNeeds.j1 kj20 l0 l1 l2 l3 t770 t771 t786 true)))))))) else (some false))) = some r := H
           have A56 := Aside0.mk A560
           clear A560
           replace H := Option.bind_eq_some_iff.mp H
           obtain ⟨t806, A570, H⟩ := H
           replace H : (if t806 = true then ((laws_markSwapS.f kj20 t774 1).bind fun bt807 => ((laws_markFoodS.f kj20 t777 bt807.1).bind fun bt809 => ((laws_markIntS.f kj20 t780 bt809.1).bind fun bt811 => ((laws_markIntS.f kj20 t783 bt811.1).bind fun bt813 => (if bt813.1 < 0 then (laws_FnExactSwapNeeds.j1 kj20 l0 l1 l2 l3 t770 t771 t786 true) else ((laws_eqIntS.f kj20 t786 t770).bind fun t815 => (if t815 = true then (laws_FnExactSwapNeeds.j1 kj20 l0 l1 l2 l3 t770 t771 t786 (t787 != t771)) else (laws_FnExactSwapNeeds.j1 kj20 l0 l1 l2 l3 t770 t771 t786 true)))))))) else (some false)) = some r := H
           have A57 := Aside0.mk A570
           clear A570
           by_cases c58 : t806 = true
           ·subst c58
            have H1 : ((laws_markSwapS.f kj20 t774 1).bind fun bt807 => ((laws_markFoodS.f kj20 t777 bt807.1).bind fun bt809 => ((laws_markIntS.f kj20 t780 bt809.1).bind fun bt811 => ((laws_markIntS.f kj20 t783 bt811.1).bind fun bt813 => (if bt813.1 < 0 then (laws_FnExactSwapNeeds.j1 kj20 l0 l1 l2 l3 t770 t771 t786 true) else ((laws_eqIntS.f kj20 t786 t770).bind fun t815 => (if t815 = true then (laws_FnExactSwapNeeds.j1 kj20 l0 l1 l2 l3 t770 t771 t786 (t787 != t771)) else (laws_FnExactSwapNeeds.j1 kj20 l0 l1 l2 l3 t770 t771 t786 true)))))))) = some r := by rw [if_pos rfl] at H; exact H
            clear H
            have H := H1
            clear H1
            replace H := Option.bind_eq_some_iff.mp H
            obtain ⟨⟨t807, t808⟩, A590, H⟩ := H
            replace H : ((laws_markFoodS.f kj20 t777 t807).bind fun bt809 => ((laws_markIntS.f kj20 t780 bt809.1).bind fun bt811 => ((laws_markIntS.f kj20 t783 bt811.1).bind fun bt813 => (if bt813.1 < 0 then (laws_FnExactSwapNeeds.j1 kj20 l0 l1 l2 l3 t770 t771 t786 true) else ((laws_eqIntS.f kj20 t786 t770).bind fun t815 => (if t815 = true then (laws_FnExactSwapNeeds.j1 kj20 l0 l1 l2 l3 t770 t771 t786 (t787 != t771)) else (laws_FnExactSwapNeeds.j1 kj20 l0 l1 l2 l3 t770 t771 t786 true))))))) = some r := H
            have A59 := Aside0.mk A590
            clear A590
            replace H := Option.bind_eq_some_iff.mp H
            obtain ⟨⟨t809, t810⟩, A600, H⟩ := H
            replace H : ((laws_markIntS.f kj20 t780 t809).bind fun bt811 => ((laws_markIntS.f kj20 t783 bt811.1).bind fun bt813 => (if bt813.1 < 0 then (laws_FnExactSwapNeeds.j1 kj20 l0 l1 l2 l3 t770 t771 t786 true) else ((laws_eqIntS.f kj20 t786 t770).bind fun t815 => (if t815 = true then (laws_FnExactSwapNeeds.j1 kj20 l0 l1 l2 l3 t770 t771 t786 (t787 != t771)) else (laws_FnExactSwapNeeds.j1 kj20 l0 l1 l2 l3 t770 t771 t786 true)))))) = some r := H
            have A60 := Aside0.mk A600
            clear A600
            replace H := Option.bind_eq_some_iff.mp H
            obtain ⟨⟨t811, t812⟩, A610, H⟩ := H
            replace H : ((laws_markIntS.f kj20 t783 t811).bind fun bt813 => (if bt813.1 < 0 then (laws_FnExactSwapNeeds.j1 kj20 l0 l1 l2 l3 t770 t771 t786 true) else ((laws_eqIntS.f kj20 t786 t770).bind fun t815 => (if t815 = true then (laws_FnExactSwapNeeds.j1 kj20 l0 l1 l2 l3 t770 t771 t786 (t787 != t771)) else (laws_FnExactSwapNeeds.j1 kj20 l0 l1 l2 l3 t770 t771 t786 true))))) = some r := H
            have A61 := Aside0.mk A610
            clear A610
            replace H := Option.bind_eq_some_iff.mp H
            obtain ⟨⟨t813, t814⟩, A620, H⟩ := H
            replace H : (if t813 < 0 then (laws_FnExactSwapNeeds.j1 kj20 l0 l1 l2 l3 t770 t771 t786 true) else ((laws_eqIntS.f kj20 t786 t770).bind fun t815 => (if t815 = true then (laws_FnExactSwapNeeds.j1 kj20 l0 l1 l2 l3 t770 t771 t786 (t787 != t771)) else (laws_FnExactSwapNeeds.j1 kj20 l0 l1 l2 l3 t770 t771 t786 true)))) = some r := H
            have A62 := Aside0.mk A620
            clear A620
            have HC63 := Aside0.mk H
            clear H
            go_upto_region 33 with (first | ((with_reducible refine gate_callee (f := 29) rfl ?_); refine goesL_ (some 78) rfl rfl Try.func29 pL rfl #[.slice A0 l0.length c0] rfl pM ?_; (with_reducible refine (laws_toSwapS.calls kj20 _ _ l0 t791 _ ?side1 ?side2 A47.out).mono ?_); (case side1 => exact pS ((Kd.C_below HR0.out HB.out))); (case side2 => exact HC0.out); rintro e w64 ⟨v792, rfl, ho0, hb⟩; refine ⟨_, rfl, ?_⟩; have n0_ := Aside0.mk (Kd.R_below (pR HO_10) hb); have n1_ := Aside0.mk (Kd.R_elder' (pR HO_12) (Kd.R_base ho0) hb); have n2_ := Aside0.mk (Kd.R_below (pR HO_13) hb); have n3_ := Aside0.mk (Kd.R_below (pR HO_14) hb); have n4_ := Aside0.mk (Kd.R_below (pR HO_15) hb); have n5_ := Aside0.mk (Kd.R_below (pR HO_16) hb); have n6_ := Aside0.mk (Kd.R_lower (Kd.R_new' ho0 (Kd.R_lt (pR HO_12))) (below_size pB)); have n7_ := Aside0.mk (below_step pB hb); clear HO_10; clear HO_12; clear HO_13; clear HO_14; clear HO_15; clear HO_16; clear HB; have HO_10 := n0_; have HO_12 := n1_; have HO_13 := n2_; have HO_14 := n3_; have HO_15 := n4_; have HO_16 := n5_; have HO793 := n6_; have HB := n7_; clear n0_ n1_ n2_ n3_ n4_ n5_ n6_ n7_; (try clear hb); (try clear hb2); (try clear hk); (try clear hi); (try clear ho0); obtain ⟨Ao65, co65, eo65⟩ := Kd.R_slice HO793.out; subst eo65) | ((with_reducible refine gate_callee (f := 30) rfl ?_); refine goesL_ (some 79) rfl rfl Try.func30 pL rfl #[.slice Ao35 t774.length co35, .slice Ao65 t791.length co65] rfl pM ?_; (with_reducible refine (laws_eqSwapS.calls kj20 _ _ t774 _ _ t791 true _ ?side1 ?side2 ?side3 ?side4 A48.out).mono ?_); (case side1 => exact pS ((Kd.R_reads' HO_12.out).2.2)); (case side2 => exact (Kd.R_reads' HO_12.out).2.1); (case side3 => exact pS ((Kd.R_reads' HO793.out).2.2)); (case side4 => exact (Kd.R_reads' HO793.out).2.1); rintro e w66 ⟨rfl, hb⟩; refine ⟨_, rfl, ?_⟩; have n0_ := Aside0.mk (Kd.R_below (pR HO_10) hb); have n1_ := Aside0.mk (Kd.R_below (pR HO_12) hb); have n2_ := Aside0.mk (Kd.R_below (pR HO_13) hb); have n3_ := Aside0.mk (Kd.R_below (pR HO_14) hb); have n4_ := Aside0.mk (Kd.R_below (pR HO_15) hb); have n5_ := Aside0.mk (Kd.R_below (pR HO_16) hb); have n6_ := Aside0.mk (Kd.R_below (pR HO793) hb); have n7_ := Aside0.mk (below_step pB hb); clear HO_10; clear HO_12; clear HO_13; clear HO_14; clear HO_15; clear HO_16; clear HO793; clear HB; have HO_10 := n0_; have HO_12 := n1_; have HO_13 := n2_; have HO_14 := n3_; have HO_15 := n4_; have HO_16 := n5_; have HO793 := n6_; have HB := n7_; clear n0_ n1_ n2_ n3_ n4_ n5_ n6_ n7_; (try clear hb); (try clear hb2); (try clear hk); (try clear hi)) | ((with_reducible refine gate_callee (f := 17) rfl ?_); refine goesL_ (some 83) rfl rfl Try.func17 pL rfl #[.slice A1 l1.length c1] rfl pM ?_; (with_reducible refine (laws_toFoodS.calls kj20 _ _ l1 t795 _ ?side1 ?side2 A50.out).mono ?_); (case side1 => exact pS ((Kd.C_below HR1.out HB.out))); (case side2 => exact HC1.out); rintro e w67 ⟨v796, rfl, ho0, hb⟩; refine ⟨_, rfl, ?_⟩; have n0_ := Aside0.mk (Kd.R_below (pR HO_10) hb); have n1_ := Aside0.mk (Kd.R_below (pR HO_12) hb); have n2_ := Aside0.mk (Kd.R_elder' (pR HO_13) (Kd.R_base ho0) hb); have n3_ := Aside0.mk (Kd.R_below (pR HO_14) hb); have n4_ := Aside0.mk (Kd.R_below (pR HO_15) hb); have n5_ := Aside0.mk (Kd.R_below (pR HO_16) hb); have n6_ := Aside0.mk (Kd.R_below (pR HO793) hb); have n7_ := Aside0.mk (Kd.R_lower (Kd.R_new' ho0 (Kd.R_lt (pR HO_13))) (below_size pB)); have n8_ := Aside0.mk (below_step pB hb); clear HO_10; clear HO_12; clear HO_13; clear HO_14; clear HO_15; clear HO_16; clear HO793; clear HB; have HO_10 := n0_; have HO_12 := n1_; have HO_13 := n2_; have HO_14 := n3_; have HO_15 := n4_; have HO_16 := n5_; have HO793 := n6_; have HO797 := n7_; have HB := n8_; clear n0_ n1_ n2_ n3_ n4_ n5_ n6_ n7_ n8_; (try clear hb); (try clear hb2); (try clear hk); (try clear hi); (try clear ho0); obtain ⟨Ao68, co68, eo68⟩ := Kd.R_slice HO797.out; subst eo68) | ((with_reducible refine gate_callee (f := 20) rfl ?_); refine goesL_ (some 84) rfl rfl Try.func20 pL rfl #[.slice Ao36 t777.length co36, .slice Ao68 t795.length co68] rfl pM ?_; (with_reducible refine (laws_eqFoodS.calls kj20 _ _ t777 _ _ t795 true _ ?side1 ?side2 ?side3 ?side4 A51.out).mono ?_); (case side1 => exact pS ((Kd.R_reads' HO_13.out).2.2)); (case side2 => exact (Kd.R_reads' HO_13.out).2.1); (case side3 => exact pS ((Kd.R_reads' HO797.out).2.2)); (case side4 => exact (Kd.R_reads' HO797.out).2.1); rintro e w69 ⟨rfl, hb⟩; refine ⟨_, rfl, ?_⟩; have n0_ := Aside0.mk (Kd.R_below (pR HO_10) hb); have n1_ := Aside0.mk (Kd.R_below (pR HO_12) hb); have n2_ := Aside0.mk (Kd.R_below (pR HO_13) hb); have n3_ := Aside0.mk (Kd.R_below (pR HO_14) hb); have n4_ := Aside0.mk (Kd.R_below (pR HO_15) hb); have n5_ := Aside0.mk (Kd.R_below (pR HO_16) hb); have n6_ := Aside0.mk (Kd.R_below (pR HO793) hb); have n7_ := Aside0.mk (Kd.R_below (pR HO797) hb); have n8_ := Aside0.mk (below_step pB hb); clear HO_10; clear HO_12; clear HO_13; clear HO_14; clear HO_15; clear HO_16; clear HO793; clear HO797; clear HB; have HO_10 := n0_; have HO_12 := n1_; have HO_13 := n2_; have HO_14 := n3_; have HO_15 := n4_; have HO_16 := n5_; have HO793 := n6_; have HO797 := n7_; have HB := n8_; clear n0_ n1_ n2_ n3_ n4_ n5_ n6_ n7_ n8_; (try clear hb); (try clear hb2); (try clear hk); (try clear hi)) | ((with_reducible refine gate_callee (f := 18) rfl ?_); refine goesL_ (some 88) rfl rfl Try.func18 pL rfl #[.slice A2 l2.length c2] rfl pM ?_; (with_reducible refine (laws_toIntS.calls kj20 _ _ l2 t799 _ ?side1 ?side2 A53.out).mono ?_); (case side1 => exact pS ((Kd.C_below HR2.out HB.out))); (case side2 => exact HC2.out); rintro e w70 ⟨v800, rfl, ho0, hb⟩; refine ⟨_, rfl, ?_⟩; have n0_ := Aside0.mk (Kd.R_elder' (pR HO_10) (Kd.R_base ho0) hb); have n1_ := Aside0.mk (Kd.R_below (pR HO_12) hb); have n2_ := Aside0.mk (Kd.R_below (pR HO_13) hb); have n3_ := Aside0.mk (Kd.R_elder' (pR HO_14) (Kd.R_base ho0) hb); have n4_ := Aside0.mk (Kd.R_elder' (pR HO_15) (Kd.R_base ho0) hb); have n5_ := Aside0.mk (Kd.R_elder' (pR HO_16) (Kd.R_base ho0) hb); have n6_ := Aside0.mk (Kd.R_below (pR HO793) hb); have n7_ := Aside0.mk (Kd.R_below (pR HO797) hb); have n8_ := Aside0.mk (Kd.R_lower (Kd.R_new' (Kd.R_new' (Kd.R_new' (Kd.R_new' ho0 (Kd.R_lt (pR HO_10))) (Kd.R_lt (pR HO_14))) (Kd.R_lt (pR HO_15))) (Kd.R_lt (pR HO_16))) (below_size pB)); have n9_ := Aside0.mk (below_step pB hb); clear HO_10; clear HO_12; clear HO_13; clear HO_14; clear HO_15; clear HO_16; clear HO793; clear HO797; clear HB; have HO_10 := n0_; have HO_12 := n1_; have HO_13 := n2_; have HO_14 := n3_; have HO_15 := n4_; have HO_16 := n5_; have HO793 := n6_; have HO797 := n7_; have HO801 := n8_; have HB := n9_; clear n0_ n1_ n2_ n3_ n4_ n5_ n6_ n7_ n8_ n9_; (try clear hb); (try clear hb2); (try clear hk); (try clear hi); (try clear ho0); obtain ⟨Ao71, co71, eo71⟩ := Kd.R_slice HO801.out; subst eo71) | ((with_reducible refine gate_callee (f := 21) rfl ?_); refine goesL_ (some 89) rfl rfl Try.func21 pL rfl #[.slice Ao37 t780.length co37, .slice Ao71 t799.length co71] rfl pM ?_; (with_reducible refine (laws_eqIntS.calls kj20 _ _ t780 _ _ t799 true _ ?side1 ?side2 ?side3 ?side4 A54.out).mono ?_); (case side1 => exact pS ((Kd.R_reads' HO_14.out).2.2)); (case side2 => exact (Kd.R_reads' HO_14.out).2.1); (case side3 => exact pS ((Kd.R_reads' HO801.out).2.2)); (case side4 => exact (Kd.R_reads' HO801.out).2.1); rintro e w' ⟨rfl, ⟨nd, rfl⟩⟩; refine ⟨_, rfl, ?_⟩) | ((with_reducible refine gate_callee (f := 18) rfl ?_); refine goesL_ (some 93) rfl rfl Try.func18 pL rfl #[.slice A3 l3.length c3] rfl pM ?_; (with_reducible refine (laws_toIntS.calls kj20 _ _ l3 t803 _ ?side1 ?side2 A56.out).mono ?_); (case side1 => exact pS ((Kd.C_below HR3.out pB))); (case side2 => exact HC3.out); rintro e w72 ⟨v804, rfl, ho0, hb⟩; refine ⟨_, rfl, ?_⟩; have n0_ := Aside0.mk (Kd.R_elder' (pR HO_10) (Kd.R_base ho0) hb); have n1_ := Aside0.mk (Kd.R_below (pR HO_12) hb); have n2_ := Aside0.mk (Kd.R_below (pR HO_13) hb); have n3_ := Aside0.mk (Kd.R_elder' (pR HO_14) (Kd.R_base ho0) hb); have n4_ := Aside0.mk (Kd.R_elder' (pR HO_15) (Kd.R_base ho0) hb); have n5_ := Aside0.mk (Kd.R_elder' (pR HO_16) (Kd.R_base ho0) hb); have n6_ := Aside0.mk (Kd.R_below (pR HO793) hb); have n7_ := Aside0.mk (Kd.R_below (pR HO797) hb); have n8_ := Aside0.mk (Kd.R_elder' (pR HO801) (Kd.R_base ho0) hb); have n9_ := Aside0.mk (Kd.R_lower (Kd.R_new' (Kd.R_new' (Kd.R_new' (Kd.R_new' (Kd.R_new' ho0 (Kd.R_lt (pR HO_10))) (Kd.R_lt (pR HO_14))) (Kd.R_lt (pR HO_15))) (Kd.R_lt (pR HO_16))) (Kd.R_lt (pR HO801))) (below_size pB)); have n10_ := Aside0.mk (below_step pB hb); clear HO_10; clear HO_12; clear HO_13; clear HO_14; clear HO_15; clear HO_16; clear HO793; clear HO797; clear HO801; clear HB; have HO_10 := n0_; have HO_12 := n1_; have HO_13 := n2_; have HO_14 := n3_; have HO_15 := n4_; have HO_16 := n5_; have HO793 := n6_; have HO797 := n7_; have HO801 := n8_; have HO805 := n9_; have HB := n10_; clear n0_ n1_ n2_ n3_ n4_ n5_ n6_ n7_ n8_ n9_ n10_; (try clear hb); (try clear hb2); (try clear hk); (try clear hi); (try clear ho0); obtain ⟨Ao73, co73, eo73⟩ := Kd.R_slice HO805.out; subst eo73) | ((with_reducible refine gate_callee (f := 21) rfl ?_); refine goesL_ (some 94) rfl rfl Try.func21 pL rfl #[.slice Ao38 t783.length co38, .slice Ao73 t803.length co73] rfl pM ?_; (with_reducible refine (laws_eqIntS.calls kj20 _ _ t783 _ _ t803 true _ ?side1 ?side2 ?side3 ?side4 A57.out).mono ?_); (case side1 => exact pS ((Kd.R_reads' HO_15.out).2.2)); (case side2 => exact (Kd.R_reads' HO_15.out).2.1); (case side3 => exact pS ((Kd.R_reads' HO805.out).2.2)); (case side4 => exact (Kd.R_reads' HO805.out).2.1); rintro e w' ⟨rfl, ⟨nd, rfl⟩⟩; refine ⟨_, rfl, ?_⟩) | ((with_reducible refine gate_callee (f := 36) rfl ?_); refine goesL_ (some 98) rfl rfl Try.func36 pL rfl #[.slice Ao35 t774.length co35, .int .i64 1] rfl pM ?_; (with_reducible refine (laws_markSwapS.calls kj20 (fun k_ => some k_ = (.slice Ao35 t774.length co35 : Value).ownBlock) (.slice Ao35 t774.length co35) t774 1 t807 t808 w _ ?side1 ?side2 A59.out).mono ?_); (case side1 => exact pB); (case side2 => exact Kd.R_tight rfl HO_12.out); rintro e w74 ⟨rfl, hy0, hb, hkp⟩; refine ⟨_, rfl, ?_⟩; have n0_ := Aside0.mk (Kd.R_mono (ok' := fun k_ => some k_ ≠ (.slice Ao37 t780.length co37 : Value).ownBlock ∧ some k_ ≠ (.slice Ao38 t783.length co38 : Value).ownBlock ∧ some k_ ≠ (v788 : Value).ownBlock ∧ some k_ ≠ (.slice Ao71 t799.length co71 : Value).ownBlock ∧ some k_ ≠ (.slice Ao73 t803.length co73 : Value).ownBlock) (Kd.R_keptB ((Kd.R_apart' HO_10.out (Kd.R_typed HO_12.out) (by decide))) hkp (fun k_ hk_ hs_ => (hk_.2) hs_)) (fun k_ hk_ => ⟨hk_.1.1.1.1.1, hk_.1.1.1.1.2.1, hk_.1.1.1.1.2.2, hk_.1.1.1.2, hk_.1.1.2⟩)); have n1_ := Aside0.mk (Kd.R_reok rfl hy0 (fun k_ e_ => HO_12.out.1 k_ e_)); have n2_ := Aside0.mk (Kd.R_mono (ok' := fun k_ => some k_ ≠ (.slice Ao68 t795.length co68 : Value).ownBlock) (Kd.R_keptB ((Kd.R_apart' HO_13.out (Kd.R_typed HO_12.out) (by decide))) hkp (fun k_ hk_ hs_ => (hk_.2) hs_)) (fun k_ hk_ => hk_.1.1.2)); have n3_ := Aside0.mk (Kd.R_mono (ok' := fun k_ => some k_ ≠ (v772 : Value).ownBlock ∧ some k_ ≠ (.slice Ao38 t783.length co38 : Value).ownBlock ∧ some k_ ≠ (v788 : Value).ownBlock ∧ some k_ ≠ (.slice Ao71 t799.length co71 : Value).ownBlock ∧ some k_ ≠ (.slice Ao73 t803.length co73 : Value).ownBlock) (Kd.R_keptB ((Kd.R_apart' HO_14.out (Kd.R_typed HO_12.out) (by decide))) hkp (fun k_ hk_ hs_ => (hk_.2) hs_)) (fun k_ hk_ => ⟨hk_.1.1.1.1.1, hk_.1.1.1.1.2.1, hk_.1.1.1.1.2.2, hk_.1.1.1.2, hk_.1.1.2⟩)); have n4_ := Aside0.mk (Kd.R_mono (ok' := fun k_ => some k_ ≠ (v772 : Value).ownBlock ∧ some k_ ≠ (.slice Ao37 t780.length co37 : Value).ownBlock ∧ some k_ ≠ (v788 : Value).ownBlock ∧ some k_ ≠ (.slice Ao71 t799.length co71 : Value).ownBlock ∧ some k_ ≠ (.slice Ao73 t803.length co73 : Value).ownBlock) (Kd.R_keptB ((Kd.R_apart' HO_15.out (Kd.R_typed HO_12.out) (by decide))) hkp (fun k_ hk_ hs_ => (hk_.2) hs_)) (fun k_ hk_ => ⟨hk_.1.1.1.1.1, hk_.1.1.1.1.2.1, hk_.1.1.1.1.2.2, hk_.1.1.1.2, hk_.1.1.2⟩)); have n5_ := Aside0.mk (Kd.R_mono (ok' := fun k_ => some k_ ≠ (v772 : Value).ownBlock ∧ some k_ ≠ (.slice Ao37 t780.length co37 : Value).ownBlock ∧ some k_ ≠ (.slice Ao38 t783.length co38 : Value).ownBlock ∧ some k_ ≠ (.slice Ao71 t799.length co71 : Value).ownBlock ∧ some k_ ≠ (.slice Ao73 t803.length co73 : Value).ownBlock) (Kd.R_keptB ((Kd.R_apart' HO_16.out (Kd.R_typed HO_12.out) (by decide))) hkp (fun k_ hk_ hs_ => (hk_.2) hs_)) (fun k_ hk_ => ⟨hk_.1.1.1.1.1, hk_.1.1.1.1.2.1, hk_.1.1.1.1.2.2, hk_.1.1.1.2, hk_.1.1.2⟩)); have n6_ := Aside0.mk (Kd.R_mono (ok' := fun k_ => some k_ ≠ (.slice Ao35 t774.length co35 : Value).ownBlock) (Kd.R_keptB (HO793.out) hkp (fun k_ hk_ hs_ => (hk_.2) hs_)) (fun k_ hk_ => hk_.1.2)); have n7_ := Aside0.mk (Kd.R_mono (ok' := fun k_ => some k_ ≠ (.slice Ao36 t777.length co36 : Value).ownBlock) (Kd.R_keptB ((Kd.R_apart' HO797.out (Kd.R_typed HO_12.out) (by decide))) hkp (fun k_ hk_ hs_ => (hk_.2) hs_)) (fun k_ hk_ => hk_.1.1.2)); have n8_ := Aside0.mk (Kd.R_mono (ok' := fun k_ => some k_ ≠ (v772 : Value).ownBlock ∧ some k_ ≠ (.slice Ao37 t780.length co37 : Value).ownBlock ∧ some k_ ≠ (.slice Ao38 t783.length co38 : Value).ownBlock ∧ some k_ ≠ (v788 : Value).ownBlock ∧ some k_ ≠ (.slice Ao73 t803.length co73 : Value).ownBlock) (Kd.R_keptB ((Kd.R_apart' HO801.out (Kd.R_typed HO_12.out) (by decide))) hkp (fun k_ hk_ hs_ => (hk_.2) hs_)) (fun k_ hk_ => ⟨hk_.1.1.1.1.1.1.2, hk_.1.1.1.1.1.2, hk_.1.1.1.1.2, hk_.1.1.1.2, hk_.1.1.2⟩)); have n9_ := Aside0.mk (Kd.R_mono (ok' := fun k_ => some k_ ≠ (v772 : Value).ownBlock ∧ some k_ ≠ (.slice Ao37 t780.length co37 : Value).ownBlock ∧ some k_ ≠ (.slice Ao38 t783.length co38 : Value).ownBlock ∧ some k_ ≠ (v788 : Value).ownBlock ∧ some k_ ≠ (.slice Ao71 t799.length co71 : Value).ownBlock) (Kd.R_keptB ((Kd.R_apart' HO805.out (Kd.R_typed HO_12.out) (by decide))) hkp (fun k_ hk_ hs_ => (hk_.2) hs_)) (fun k_ hk_ => ⟨hk_.1.1.1.1.1.1.2, hk_.1.1.1.1.1.2, hk_.1.1.1.1.2, hk_.1.1.1.2, hk_.1.1.2⟩)); have n10_ := Aside0.mk (hb); clear HO_10; clear HO_12; clear HO_13; clear HO_14; clear HO_15; clear HO_16; clear HO793; clear HO797; clear HO801; clear HO805; clear HB; have HO_10 := n0_; have HO_12 := n1_; have HO_13 := n2_; have HO_14 := n3_; have HO_15 := n4_; have HO_16 := n5_; have HO793 := n6_; have HO797 := n7_; have HO801 := n8_; have HO805 := n9_; have HB := n10_; clear n0_ n1_ n2_ n3_ n4_ n5_ n6_ n7_ n8_ n9_ n10_; (try clear hb); (try clear hkp); (try clear hy0)) | ((with_reducible refine gate_callee (f := 37) rfl ?_); refine goesL_ (some 101) rfl rfl Try.func37 pL rfl #[.slice Ao36 t777.length co36, .int .i64 t807] rfl pM ?_; (with_reducible refine (laws_markFoodS.calls kj20 (fun k_ => some k_ = (.slice Ao36 t777.length co36 : Value).ownBlock) (.slice Ao36 t777.length co36) t777 t807 t809 t810 w _ ?side1 ?side2 A60.out).mono ?_); (case side1 => exact pB); (case side2 => exact Kd.R_tight rfl HO_13.out); rintro e w75 ⟨rfl, hy0, hb, hkp⟩; refine ⟨_, rfl, ?_⟩; have n0_ := Aside0.mk (Kd.R_mono (ok' := fun k_ => some k_ ≠ (.slice Ao37 t780.length co37 : Value).ownBlock ∧ some k_ ≠ (.slice Ao38 t783.length co38 : Value).ownBlock ∧ some k_ ≠ (v788 : Value).ownBlock ∧ some k_ ≠ (.slice Ao71 t799.length co71 : Value).ownBlock ∧ some k_ ≠ (.slice Ao73 t803.length co73 : Value).ownBlock) (Kd.R_keptB ((Kd.R_apart' HO_10.out (Kd.R_typed HO_13.out) (by decide))) hkp (fun k_ hk_ hs_ => (hk_.2) hs_)) (fun k_ hk_ => ⟨hk_.1.1.1, hk_.1.1.2.1, hk_.1.1.2.2.1, hk_.1.1.2.2.2.1, hk_.1.1.2.2.2.2⟩)); have n1_ := Aside0.mk (Kd.R_mono (ok' := fun k_ => some k_ ≠ (.slice Ao65 t791.length co65 : Value).ownBlock) (Kd.R_keptB ((Kd.R_apart' HO_12.out (Kd.R_typed HO_13.out) (by decide))) hkp (fun k_ hk_ hs_ => (hk_.2) hs_)) (fun k_ hk_ => hk_.1.1.2)); have n2_ := Aside0.mk (Kd.R_reok rfl hy0 (fun k_ e_ => HO_13.out.1 k_ e_)); have n3_ := Aside0.mk (Kd.R_mono (ok' := fun k_ => some k_ ≠ (v772 : Value).ownBlock ∧ some k_ ≠ (.slice Ao38 t783.length co38 : Value).ownBlock ∧ some k_ ≠ (v788 : Value).ownBlock ∧ some k_ ≠ (.slice Ao71 t799.length co71 : Value).ownBlock ∧ some k_ ≠ (.slice Ao73 t803.length co73 : Value).ownBlock) (Kd.R_keptB ((Kd.R_apart' HO_14.out (Kd.R_typed HO_13.out) (by decide))) hkp (fun k_ hk_ hs_ => (hk_.2) hs_)) (fun k_ hk_ => ⟨hk_.1.1.1, hk_.1.1.2.1, hk_.1.1.2.2.1, hk_.1.1.2.2.2.1, hk_.1.1.2.2.2.2⟩)); have n4_ := Aside0.mk (Kd.R_mono (ok' := fun k_ => some k_ ≠ (v772 : Value).ownBlock ∧ some k_ ≠ (.slice Ao37 t780.length co37 : Value).ownBlock ∧ some k_ ≠ (v788 : Value).ownBlock ∧ some k_ ≠ (.slice Ao71 t799.length co71 : Value).ownBlock ∧ some k_ ≠ (.slice Ao73 t803.length co73 : Value).ownBlock) (Kd.R_keptB ((Kd.R_apart' HO_15.out (Kd.R_typed HO_13.out) (by decide))) hkp (fun k_ hk_ hs_ => (hk_.2) hs_)) (fun k_ hk_ => ⟨hk_.1.1.1, hk_.1.1.2.1, hk_.1.1.2.2.1, hk_.1.1.2.2.2.1, hk_.1.1.2.2.2.2⟩)); have n5_ := Aside0.mk (Kd.R_mono (ok' := fun k_ => some k_ ≠ (v772 : Value).ownBlock ∧ some k_ ≠ (.slice Ao37 t780.length co37 : Value).ownBlock ∧ some k_ ≠ (.slice Ao38 t783.length co38 : Value).ownBlock ∧ some k_ ≠ (.slice Ao71 t799.length co71 : Value).ownBlock ∧ some k_ ≠ (.slice Ao73 t803.length co73 : Value).ownBlock) (Kd.R_keptB ((Kd.R_apart' HO_16.out (Kd.R_typed HO_13.out) (by decide))) hkp (fun k_ hk_ hs_ => (hk_.2) hs_)) (fun k_ hk_ => ⟨hk_.1.1.1, hk_.1.1.2.1, hk_.1.1.2.2.1, hk_.1.1.2.2.2.1, hk_.1.1.2.2.2.2⟩)); have n6_ := Aside0.mk (Kd.R_mono (ok' := fun k_ => some k_ ≠ (.slice Ao35 t774.length co35 : Value).ownBlock) (Kd.R_keptB ((Kd.R_apart' HO793.out (Kd.R_typed HO_13.out) (by decide))) hkp (fun k_ hk_ hs_ => (hk_.2) hs_)) (fun k_ hk_ => hk_.1.1)); have n7_ := Aside0.mk (Kd.R_mono (ok' := fun k_ => some k_ ≠ (.slice Ao36 t777.length co36 : Value).ownBlock) (Kd.R_keptB (HO797.out) hkp (fun k_ hk_ hs_ => (hk_) hs_)) (fun k_ hk_ => hk_.1)); have n8_ := Aside0.mk (Kd.R_mono (ok' := fun k_ => some k_ ≠ (v772 : Value).ownBlock ∧ some k_ ≠ (.slice Ao37 t780.length co37 : Value).ownBlock ∧ some k_ ≠ (.slice Ao38 t783.length co38 : Value).ownBlock ∧ some k_ ≠ (v788 : Value).ownBlock ∧ some k_ ≠ (.slice Ao73 t803.length co73 : Value).ownBlock) (Kd.R_keptB ((Kd.R_apart' HO801.out (Kd.R_typed HO_13.out) (by decide))) hkp (fun k_ hk_ hs_ => (hk_.2) hs_)) (fun k_ hk_ => ⟨hk_.1.1.1, hk_.1.1.2.1, hk_.1.1.2.2.1, hk_.1.1.2.2.2.1, hk_.1.1.2.2.2.2⟩)); have n9_ := Aside0.mk (Kd.R_mono (ok' := fun k_ => some k_ ≠ (v772 : Value).ownBlock ∧ some k_ ≠ (.slice Ao37 t780.length co37 : Value).ownBlock ∧ some k_ ≠ (.slice Ao38 t783.length co38 : Value).ownBlock ∧ some k_ ≠ (v788 : Value).ownBlock ∧ some k_ ≠ (.slice Ao71 t799.length co71 : Value).ownBlock) (Kd.R_keptB ((Kd.R_apart' HO805.out (Kd.R_typed HO_13.out) (by decide))) hkp (fun k_ hk_ hs_ => (hk_.2) hs_)) (fun k_ hk_ => ⟨hk_.1.1.1, hk_.1.1.2.1, hk_.1.1.2.2.1, hk_.1.1.2.2.2.1, hk_.1.1.2.2.2.2⟩)); have n10_ := Aside0.mk (hb); clear HO_10; clear HO_12; clear HO_13; clear HO_14; clear HO_15; clear HO_16; clear HO793; clear HO797; clear HO801; clear HO805; clear HB; have HO_10 := n0_; have HO_12 := n1_; have HO_13 := n2_; have HO_14 := n3_; have HO_15 := n4_; have HO_16 := n5_; have HO793 := n6_; have HO797 := n7_; have HO801 := n8_; have HO805 := n9_; have HB := n10_; clear n0_ n1_ n2_ n3_ n4_ n5_ n6_ n7_ n8_ n9_ n10_; (try clear hb); (try clear hkp); (try clear hy0)) | ((with_reducible refine gate_callee (f := 38) rfl ?_); refine goesL_ (some 104) rfl rfl Try.func38 pL rfl #[.slice Ao37 t780.length co37, .int .i64 t809] rfl pM ?_; (with_reducible refine (laws_markIntS.calls kj20 (fun k_ => some k_ = (.slice Ao37 t780.length co37 : Value).ownBlock) (.slice Ao37 t780.length co37) t780 t809 t811 t812 w _ ?side1 ?side2 A61.out).mono ?_); (case side1 => exact pB); (case side2 => exact Kd.R_tight rfl HO_14.out); rintro e w76 ⟨rfl, hy0, hb, hkp⟩; refine ⟨_, rfl, ?_⟩; have n0_ := Aside0.mk (Kd.R_mono (ok' := fun k_ => some k_ ≠ (.slice Ao37 t780.length co37 : Value).ownBlock ∧ some k_ ≠ (.slice Ao38 t783.length co38 : Value).ownBlock ∧ some k_ ≠ (v788 : Value).ownBlock ∧ some k_ ≠ (.slice Ao71 t799.length co71 : Value).ownBlock ∧ some k_ ≠ (.slice Ao73 t803.length co73 : Value).ownBlock) (Kd.R_keptB (HO_10.out) hkp (fun k_ hk_ hs_ => (hk_.1) hs_)) (fun k_ hk_ => ⟨hk_.1.1, hk_.1.2.1, hk_.1.2.2.1, hk_.1.2.2.2.1, hk_.1.2.2.2.2⟩)); have n1_ := Aside0.mk (Kd.R_mono (ok' := fun k_ => some k_ ≠ (.slice Ao65 t791.length co65 : Value).ownBlock) (Kd.R_keptB ((Kd.R_apart' HO_12.out (Kd.R_typed HO_14.out) (by decide))) hkp (fun k_ hk_ hs_ => (hk_.2) hs_)) (fun k_ hk_ => hk_.1.1)); have n2_ := Aside0.mk (Kd.R_mono (ok' := fun k_ => some k_ ≠ (.slice Ao68 t795.length co68 : Value).ownBlock) (Kd.R_keptB ((Kd.R_apart' HO_13.out (Kd.R_typed HO_14.out) (by decide))) hkp (fun k_ hk_ hs_ => (hk_.2) hs_)) (fun k_ hk_ => hk_.1.1)); have n3_ := Aside0.mk (Kd.R_reok rfl hy0 (fun k_ e_ => HO_14.out.1 k_ e_)); have n4_ := Aside0.mk (Kd.R_mono (ok' := fun k_ => some k_ ≠ (v772 : Value).ownBlock ∧ some k_ ≠ (.slice Ao37 t780.length co37 : Value).ownBlock ∧ some k_ ≠ (v788 : Value).ownBlock ∧ some k_ ≠ (.slice Ao71 t799.length co71 : Value).ownBlock ∧ some k_ ≠ (.slice Ao73 t803.length co73 : Value).ownBlock) (Kd.R_keptB (HO_15.out) hkp (fun k_ hk_ hs_ => (hk_.2.1) hs_)) (fun k_ hk_ => ⟨hk_.1.1, hk_.1.2.1, hk_.1.2.2.1, hk_.1.2.2.2.1, hk_.1.2.2.2.2⟩)); have n5_ := Aside0.mk (Kd.R_mono (ok' := fun k_ => some k_ ≠ (v772 : Value).ownBlock ∧ some k_ ≠ (.slice Ao37 t780.length co37 : Value).ownBlock ∧ some k_ ≠ (.slice Ao38 t783.length co38 : Value).ownBlock ∧ some k_ ≠ (.slice Ao71 t799.length co71 : Value).ownBlock ∧ some k_ ≠ (.slice Ao73 t803.length co73 : Value).ownBlock) (Kd.R_keptB (HO_16.out) hkp (fun k_ hk_ hs_ => (hk_.2.1) hs_)) (fun k_ hk_ => ⟨hk_.1.1, hk_.1.2.1, hk_.1.2.2.1, hk_.1.2.2.2.1, hk_.1.2.2.2.2⟩)); have n6_ := Aside0.mk (Kd.R_mono (ok' := fun k_ => some k_ ≠ (.slice Ao35 t774.length co35 : Value).ownBlock) (Kd.R_keptB ((Kd.R_apart' HO793.out (Kd.R_typed HO_14.out) (by decide))) hkp (fun k_ hk_ hs_ => (hk_.2) hs_)) (fun k_ hk_ => hk_.1.1)); have n7_ := Aside0.mk (Kd.R_mono (ok' := fun k_ => some k_ ≠ (.slice Ao36 t777.length co36 : Value).ownBlock) (Kd.R_keptB ((Kd.R_apart' HO797.out (Kd.R_typed HO_14.out) (by decide))) hkp (fun k_ hk_ hs_ => (hk_.2) hs_)) (fun k_ hk_ => hk_.1.1)); have n8_ := Aside0.mk (Kd.R_mono (ok' := fun k_ => some k_ ≠ (v772 : Value).ownBlock ∧ some k_ ≠ (.slice Ao37 t780.length co37 : Value).ownBlock ∧ some k_ ≠ (.slice Ao38 t783.length co38 : Value).ownBlock ∧ some k_ ≠ (v788 : Value).ownBlock ∧ some k_ ≠ (.slice Ao73 t803.length co73 : Value).ownBlock) (Kd.R_keptB (HO801.out) hkp (fun k_ hk_ hs_ => (hk_.2.1) hs_)) (fun k_ hk_ => ⟨hk_.1.1, hk_.1.2.1, hk_.1.2.2.1, hk_.1.2.2.2.1, hk_.1.2.2.2.2⟩)); have n9_ := Aside0.mk (Kd.R_mono (ok' := fun k_ => some k_ ≠ (v772 : Value).ownBlock ∧ some k_ ≠ (.slice Ao37 t780.length co37 : Value).ownBlock ∧ some k_ ≠ (.slice Ao38 t783.length co38 : Value).ownBlock ∧ some k_ ≠ (v788 : Value).ownBlock ∧ some k_ ≠ (.slice Ao71 t799.length co71 : Value).ownBlock) (Kd.R_keptB (HO805.out) hkp (fun k_ hk_ hs_ => (hk_.2.1) hs_)) (fun k_ hk_ => ⟨hk_.1.1, hk_.1.2.1, hk_.1.2.2.1, hk_.1.2.2.2.1, hk_.1.2.2.2.2⟩)); have n10_ := Aside0.mk (hb); clear HO_10; clear HO_12; clear HO_13; clear HO_14; clear HO_15; clear HO_16; clear HO793; clear HO797; clear HO801; clear HO805; clear HB; have HO_10 := n0_; have HO_12 := n1_; have HO_13 := n2_; have HO_14 := n3_; have HO_15 := n4_; have HO_16 := n5_; have HO793 := n6_; have HO797 := n7_; have HO801 := n8_; have HO805 := n9_; have HB := n10_; clear n0_ n1_ n2_ n3_ n4_ n5_ n6_ n7_ n8_ n9_ n10_; (try clear hb); (try clear hkp); (try clear hy0)) | ((with_reducible refine gate_callee (f := 38) rfl ?_); refine goesL_ (some 107) rfl rfl Try.func38 pL rfl #[.slice Ao38 t783.length co38, .int .i64 t811] rfl pM ?_; (with_reducible refine (laws_markIntS.calls kj20 (fun k_ => some k_ = (.slice Ao38 t783.length co38 : Value).ownBlock) (.slice Ao38 t783.length co38) t783 t811 t813 t814 w _ ?side1 ?side2 A62.out).mono ?_); (case side1 => exact pB); (case side2 => exact Kd.R_tight rfl HO_15.out); rintro e w77 ⟨rfl, hy0, hb, hkp⟩; refine ⟨_, rfl, ?_⟩; have n0_ := Aside0.mk (Kd.R_mono (ok' := fun k_ => some k_ ≠ (.slice Ao37 t780.length co37 : Value).ownBlock ∧ some k_ ≠ (.slice Ao38 t783.length co38 : Value).ownBlock ∧ some k_ ≠ (v788 : Value).ownBlock ∧ some k_ ≠ (.slice Ao71 t799.length co71 : Value).ownBlock ∧ some k_ ≠ (.slice Ao73 t803.length co73 : Value).ownBlock) (Kd.R_keptB (HO_10.out) hkp (fun k_ hk_ hs_ => (hk_.2.1) hs_)) (fun k_ hk_ => ⟨hk_.1.1, hk_.1.2.1, hk_.1.2.2.1, hk_.1.2.2.2.1, hk_.1.2.2.2.2⟩)); have n1_ := Aside0.mk (Kd.R_mono (ok' := fun k_ => some k_ ≠ (.slice Ao65 t791.length co65 : Value).ownBlock) (Kd.R_keptB ((Kd.R_apart' HO_12.out (Kd.R_typed HO_15.out) (by decide))) hkp (fun k_ hk_ hs_ => (hk_.2) hs_)) (fun k_ hk_ => hk_.1.1)); have n2_ := Aside0.mk (Kd.R_mono (ok' := fun k_ => some k_ ≠ (.slice Ao68 t795.length co68 : Value).ownBlock) (Kd.R_keptB ((Kd.R_apart' HO_13.out (Kd.R_typed HO_15.out) (by decide))) hkp (fun k_ hk_ hs_ => (hk_.2) hs_)) (fun k_ hk_ => hk_.1.1)); have n3_ := Aside0.mk (Kd.R_mono (ok' := fun k_ => some k_ ≠ (v772 : Value).ownBlock ∧ some k_ ≠ (.slice Ao38 t783.length co38 : Value).ownBlock ∧ some k_ ≠ (v788 : Value).ownBlock ∧ some k_ ≠ (.slice Ao71 t799.length co71 : Value).ownBlock ∧ some k_ ≠ (.slice Ao73 t803.length co73 : Value).ownBlock) (Kd.R_keptB (HO_14.out) hkp (fun k_ hk_ hs_ => (hk_.2.1) hs_)) (fun k_ hk_ => ⟨hk_.1.1, hk_.1.2.1, hk_.1.2.2.1, hk_.1.2.2.2.1, hk_.1.2.2.2.2⟩)); have n4_ := Aside0.mk (Kd.R_reok rfl hy0 (fun k_ e_ => HO_15.out.1 k_ e_)); have n5_ := Aside0.mk (Kd.R_mono (ok' := fun k_ => some k_ ≠ (v772 : Value).ownBlock ∧ some k_ ≠ (.slice Ao37 t780.length co37 : Value).ownBlock ∧ some k_ ≠ (.slice Ao38 t783.length co38 : Value).ownBlock ∧ some k_ ≠ (.slice Ao71 t799.length co71 : Value).ownBlock ∧ some k_ ≠ (.slice Ao73 t803.length co73 : Value).ownBlock) (Kd.R_keptB (HO_16.out) hkp (fun k_ hk_ hs_ => (hk_.2.2.1) hs_)) (fun k_ hk_ => ⟨hk_.1.1, hk_.1.2.1, hk_.1.2.2.1, hk_.1.2.2.2.1, hk_.1.2.2.2.2⟩)); have n6_ := Aside0.mk (Kd.R_mono (ok' := fun k_ => some k_ ≠ (.slice Ao35 t774.length co35 : Value).ownBlock) (Kd.R_keptB ((Kd.R_apart' HO793.out (Kd.R_typed HO_15.out) (by decide))) hkp (fun k_ hk_ hs_ => (hk_.2) hs_)) (fun k_ hk_ => hk_.1.1)); have n7_ := Aside0.mk (Kd.R_mono (ok' := fun k_ => some k_ ≠ (.slice Ao36 t777.length co36 : Value).ownBlock) (Kd.R_keptB ((Kd.R_apart' HO797.out (Kd.R_typed HO_15.out) (by decide))) hkp (fun k_ hk_ hs_ => (hk_.2) hs_)) (fun k_ hk_ => hk_.1.1)); have n8_ := Aside0.mk (Kd.R_mono (ok' := fun k_ => some k_ ≠ (v772 : Value).ownBlock ∧ some k_ ≠ (.slice Ao37 t780.length co37 : Value).ownBlock ∧ some k_ ≠ (.slice Ao38 t783.length co38 : Value).ownBlock ∧ some k_ ≠ (v788 : Value).ownBlock ∧ some k_ ≠ (.slice Ao73 t803.length co73 : Value).ownBlock) (Kd.R_keptB (HO801.out) hkp (fun k_ hk_ hs_ => (hk_.2.2.1) hs_)) (fun k_ hk_ => ⟨hk_.1.1, hk_.1.2.1, hk_.1.2.2.1, hk_.1.2.2.2.1, hk_.1.2.2.2.2⟩)); have n9_ := Aside0.mk (Kd.R_mono (ok' := fun k_ => some k_ ≠ (v772 : Value).ownBlock ∧ some k_ ≠ (.slice Ao37 t780.length co37 : Value).ownBlock ∧ some k_ ≠ (.slice Ao38 t783.length co38 : Value).ownBlock ∧ some k_ ≠ (v788 : Value).ownBlock ∧ some k_ ≠ (.slice Ao71 t799.length co71 : Value).ownBlock) (Kd.R_keptB (HO805.out) hkp (fun k_ hk_ hs_ => (hk_.2.2.1) hs_)) (fun k_ hk_ => ⟨hk_.1.1, hk_.1.2.1, hk_.1.2.2.1, hk_.1.2.2.2.1, hk_.1.2.2.2.2⟩)); have n10_ := Aside0.mk (hb); clear HO_10; clear HO_12; clear HO_13; clear HO_14; clear HO_15; clear HO_16; clear HO793; clear HO797; clear HO801; clear HO805; clear HB; have HO_10 := n0_; have HO_12 := n1_; have HO_13 := n2_; have HO_14 := n3_; have HO_15 := n4_; have HO_16 := n5_; have HO793 := n6_; have HO797 := n7_; have HO801 := n8_; have HO805 := n9_; have HB := n10_; clear n0_ n1_ n2_ n3_ n4_ n5_ n6_ n7_ n8_ n9_ n10_; (try clear hb); (try clear hkp); (try clear hy0)))
            (try simp only [Act.put, List.setIfInBounds_toArray, List.set_cons_zero, List.set_cons_succ])
            go_cut [120] (fun v120 wc => ∃ (kq : Nat) (x120_62 : Bool), v120 = .bool x120_62 ∧ Aside0 (laws_FnExactSwapNeeds.j1 kq l0 l1 l2 l3 t770 t771 t786 x120_62 = some r) ∧ Aside0 (kq ≤ kj20) ∧ Aside0 (Kd.R (Kd.int .i64) 3 wc w.heap.size (fun k_ => some k_ ≠ (v788 : Value).ownBlock) v772 t770) ∧ Aside0 (Kd.R (Kd.int .i64) 3 wc w.heap.size (fun k_ => some k_ ≠ (v772 : Value).ownBlock) v788 t786) ∧ Aside0 (Below w.heap.size w wc))
            case first =>
             have H := HC63.out
             clear HC63
             by_cases c78 : t813 < 0
             ·rw [if_pos c78] at H
              have c78b0 : decide (t813 < 0) = true := decide_eq_true c78
              clear c78
              (first | rw [c78b0] | (simp only [i64_w, i32_w]; rw [c78b0]) | skip)
              have H' := Aside0.mk H
              clear H
              go_wp2
              go_meet
              case rel => exact ⟨_, (true), pF, H', ⟨by have := HJ20.out; first | omega | exact Nat.le_refl _⟩, ⟨by (with_reducible repeat (first | apply Kd.R_alloc | apply Kd.R_drewN | apply Kd.R_drew)); exact Kd.R_mono HO_10.out (fun _ hk => hk.2.2.1)⟩, ⟨by (with_reducible repeat (first | apply Kd.R_alloc | apply Kd.R_drewN | apply Kd.R_drew)); exact Kd.R_mono HO_16.out (fun _ hk => hk.1)⟩, ⟨pB⟩⟩
             ·rw [if_neg c78] at H
              have c78b0 : decide (t813 < 0) = false := decide_eq_false c78
              clear c78
              (first | rw [c78b0] | (simp only [i64_w, i32_w]; rw [c78b0]) | skip)
              replace H := Option.bind_eq_some_iff.mp H
              obtain ⟨t815, A790, H⟩ := H
              replace H : (if t815 = true then (laws_FnExactSwapNeeds.j1 kj20 l0 l1 l2 l3 t770 t771 t786 (t787 != t771)) else (laws_FnExactSwapNeeds.j1 kj20 l0 l1 l2 l3 t770 t771 t786 true)) = some r := H
              have A79 := Aside0.mk A790
              clear A790
              by_cases c80 : t815 = true
              ·subst c80
               have H1 : (laws_FnExactSwapNeeds.j1 kj20 l0 l1 l2 l3 t770 t771 t786 (t787 != t771)) = some r := by rw [if_pos rfl] at H; exact H
               clear H
               have H := H1
               clear H1
               have H' := Aside0.mk H
               clear H
               obtain ⟨Ao81, co81, eo81⟩ := Kd.R_slice HO_16.out
               subst eo81
               obtain ⟨Ao82, co82, eo82⟩ := Kd.R_slice HO_10.out
               subst eo82
               go_wp2_with (first | (go_at_call 21; (with_reducible refine (laws_eqIntS.calls kj20 _ _ t786 _ _ t770 true _ ?side1 ?side2 ?side3 ?side4 A79.out).mono ?_); (case side1 => exact pS ((Kd.R_reads' HO_16.out).2.2)); (case side2 => exact (Kd.R_reads' HO_16.out).2.1); (case side3 => exact pS ((Kd.R_reads' HO_10.out).2.2)); (case side4 => exact (Kd.R_reads' HO_10.out).2.1); rintro e w' ⟨rfl, ⟨nd, rfl⟩⟩))
               go_meet
               case rel => exact ⟨_, ((t787 != t771)), pF, H', ⟨by have := HJ20.out; first | omega | exact Nat.le_refl _⟩, ⟨by (with_reducible repeat (first | apply Kd.R_alloc | apply Kd.R_drewN | apply Kd.R_drew)); exact Kd.R_mono HO_10.out (fun _ hk => hk.2.2.1)⟩, ⟨by (with_reducible repeat (first | apply Kd.R_alloc | apply Kd.R_drewN | apply Kd.R_drew)); exact Kd.R_mono HO_16.out (fun _ hk => hk.1)⟩, ⟨pB⟩⟩
              ·replace c80 := Bool.eq_false_iff.mpr c80
               subst c80
               have H1 : (laws_FnExactSwapNeeds.j1 kj20 l0 l1 l2 l3 t770 t771 t786 true) = some r := by rw [if_neg (show ¬ (false = true) by decide)] at H; exact H
               clear H
               have H := H1
               clear H1
               have H' := Aside0.mk H
               clear H
               obtain ⟨Ao83, co83, eo83⟩ := Kd.R_slice HO_16.out
               subst eo83
               obtain ⟨Ao84, co84, eo84⟩ := Kd.R_slice HO_10.out
               subst eo84
               go_wp2_with (first | (go_at_call 21; (with_reducible refine (laws_eqIntS.calls kj20 _ _ t786 _ _ t770 false _ ?side1 ?side2 ?side3 ?side4 A79.out).mono ?_); (case side1 => exact pS ((Kd.R_reads' HO_16.out).2.2)); (case side2 => exact (Kd.R_reads' HO_16.out).2.1); (case side3 => exact pS ((Kd.R_reads' HO_10.out).2.2)); (case side4 => exact (Kd.R_reads' HO_10.out).2.1); rintro e w' ⟨rfl, ⟨nd, rfl⟩⟩))
               go_meet
               case rel => exact ⟨_, (true), pF, H', ⟨by have := HJ20.out; first | omega | exact Nat.le_refl _⟩, ⟨by (with_reducible repeat (first | apply Kd.R_alloc | apply Kd.R_drewN | apply Kd.R_drew)); exact Kd.R_mono HO_10.out (fun _ hk => hk.2.2.1)⟩, ⟨by (with_reducible repeat (first | apply Kd.R_alloc | apply Kd.R_drewN | apply Kd.R_drew)); exact Kd.R_mono HO_16.out (fun _ hk => hk.1)⟩, ⟨pB⟩⟩
            case rest =>
             clear HC63
             try clear c1
             try clear c2
             try clear p2
             try clear c3
             try clear c4
             try clear c5
             try clear c5b0
             try clear c5b1
             try clear c6
             try clear c6b0
             try clear c6b1
             try clear c7
             try clear c8
             try clear c8b0
             try clear c10
             try clear c10b0
             try clear c14
             try clear c15
             try clear c17
             try clear c18
             try clear c20
             try clear c21
             try clear c28
             try clear c29
             try clear c30
             try clear c36
             try clear c37
             try clear c38
             try clear c41
             try clear c42
             try clear c46
             try clear c49
             try clear c52
             try clear c55
             try clear c58
             try clear c78
             try clear c78b0
             try clear c80
             try clear p2
             obtain ⟨kq, x120_62, rfl, HA, HJ62, HO_10, HO_16, HB⟩ := hcut
             cases kq with
             | zero => exact absurd HA.out (by simp [laws_FnExactSwapNeeds.j1])
             | succ kj62 =>
              have H := HA.out
              clear HA
              simp only [laws_FnExactSwapNeeds.j1] at H
              by_cases c85 : x120_62 = true
              ·subst c85
               have H1 : (some false) = some r := by rw [if_pos rfl] at H; exact H
               clear H
               have H := H1
               clear H1
               obtain rfl := Option.some.inj H
               go_wp2
               go_ret
               exact ⟨pE, pB⟩
              ·replace c85 := Bool.eq_false_iff.mpr c85
               subst c85
               have H1 : ((laws_markIntS.f kj62 t786 1).bind fun bt816 => ((laws_heldIntS.f kj62 bt816.2 1).bind fun t818 => (if t818 < 0 then (some false) else (if t818 = bt816.1 then ((laws_toSwapS.f kj62 l0).bind fun t819 => ((laws_toFoodS.f kj62 l1).bind fun t822 => ((laws_toIntS.f kj62 l2).bind fun t825 => ((laws_toIntS.f kj62 l3).bind fun t828 => ((impl_SwapNeeds.f kj62 t819 t822 t825 t828).bind fun bt831 => ((laws_eqIntS.f kj62 bt831.1 t770).bind fun t835 => (if t835 = true then (laws_FnExactSwapNeeds.j2 kj62 bt816.2 bt816.1 (bt831.2 != t771)) else (laws_FnExactSwapNeeds.j2 kj62 bt816.2 bt816.1 true)))))))) else (some false))))) = some r := by rw [if_neg (show ¬ (false = true) by decide)] at H; exact H
               clear H
               have H := H1
               clear H1
               replace H := Option.bind_eq_some_iff.mp H
               obtain ⟨⟨t816, t817⟩, A860, H⟩ := H
               replace H : ((laws_heldIntS.f kj62 t817 1).bind fun t818 => (if t818 < 0 then (some false) else (if t818 = t816 then ((laws_toSwapS.f kj62 l0).bind fun t819 => ((laws_toFoodS.f kj62 l1).bind fun t822 => ((laws_toIntS.f kj62 l2).bind fun t825 => ((laws_toIntS.f kj62 l3).bind fun t828 => ((impl_SwapNeeds.f kj62 t819 t822 t825 t828).bind fun bt831 => ((laws_eqIntS.f kj62 bt831.1 t770).bind fun t835 => (if t835 = true then (laws_FnExactSwapNeeds.j2 kj62 t817 t816 (bt831.2 != t771)) else (laws_FnExactSwapNeeds.j2 kj62 t817 t816 true)))))))) else (some false)))) = some r := H
               have A86 := Aside0.mk A860
               clear A860
               replace H := Option.bind_eq_some_iff.mp H
               obtain ⟨t818, A870, H⟩ := H
               replace H : (if t818 < 0 then (some false) else (if t818 = t816 then ((laws_toSwapS.f kj62 l0).bind fun t819 => ((laws_toFoodS.f kj62 l1).bind fun t822 => ((laws_toIntS.f kj62 l2).bind fun t825 => ((laws_toIntS.f kj62 l3).bind fun t828 => ((impl_SwapNeeds.f kj62 t819 t822 t825 t828).bind fun bt831 => ((laws_eqIntS.f kj62 bt831.1 t770).bind fun t835 => (if t835 = true then (laws_FnExactSwapNeeds.j2 kj62 t817 t816 (bt831.2 != t771)) else (laws_FnExactSwapNeeds.j2 kj62 t817 t816 true)))))))) else (some false))) = some r := H
               have A87 := Aside0.mk A870
               clear A870
               by_cases c88 : t818 < 0
               ·rw [if_pos c88] at H
                have c88b0 : decide (t818 < 0) = true := decide_eq_true c88
                clear c88
                obtain rfl := Option.some.inj H
                obtain ⟨Ao89, co89, eo89⟩ := Kd.R_slice HO_16.out
                subst eo89
                go_wp2_with (first | ((with_reducible refine gate_callee (f := 38) rfl ?_); refine goesL_ (some 123) rfl rfl Try.func38 pL rfl #[.slice Ao89 t786.length co89, .int .i64 1] rfl pM ?_; (with_reducible refine (laws_markIntS.calls kj62 (fun k_ => some k_ = (.slice Ao89 t786.length co89 : Value).ownBlock) (.slice Ao89 t786.length co89) t786 1 t816 t817 w _ ?side1 ?side2 A86.out).mono ?_); (case side1 => exact pB); (case side2 => exact Kd.R_tight rfl HO_16.out); rintro e w90 ⟨rfl, hy0, hb, hkp⟩; refine ⟨_, rfl, ?_⟩; have n0_ := Aside0.mk (Kd.R_mono (ok' := fun k_ => some k_ ≠ (.slice Ao89 t786.length co89 : Value).ownBlock) (Kd.R_keptB (HO_10.out) hkp (fun k_ hk_ hs_ => (hk_) hs_)) (fun k_ hk_ => hk_.1)); have n1_ := Aside0.mk (Kd.R_reok rfl hy0 (fun k_ e_ => HO_16.out.1 k_ e_)); have n2_ := Aside0.mk (hb); clear HO_10; clear HO_16; clear HB; have HO_10 := n0_; have HO_16 := n1_; have HB := n2_; clear n0_ n1_ n2_; (try clear hb); (try clear hkp); (try clear hy0)) | ((with_reducible refine gate_callee (f := 39) rfl ?_); refine goesL_ (some 126) rfl rfl Try.func39 pL rfl #[.slice Ao89 t817.length co89, .int .i64 1] rfl (by (try simp only [List.map_toArray, List.map_cons, List.map_nil]); first | done | (rw [show t817.length = t786.length from (Kd.R_reads' HO_16.out).1.symm] <;> rfl) | rfl | (simp only [List.length_drop, List.length_take]; rfl)) ?_; (with_reducible refine (laws_heldIntS.calls kj62 _ _ t817 1 t818 _ ?side1 ?side2 A87.out).mono ?_); (case side1 => exact pS ((Kd.R_reads' HO_16.out).2.2)); (case side2 => rw [show t817.length = t786.length from (Kd.R_reads' HO_16.out).1.symm]; exact (Kd.R_reads' HO_16.out).2.1); rintro e w' ⟨rfl, ⟨nd, rfl⟩⟩; refine ⟨_, rfl, ?_⟩))
                go_ret
                exact ⟨pE, pB⟩
               ·rw [if_neg c88] at H
                have c88b0 : decide (t818 < 0) = false := decide_eq_false c88
                clear c88
                by_cases c91 : t818 = t816
                ·rw [if_pos c91] at H
                 have c91b0 : (t818 == t816) = true := beq_iff_eq.mpr c91
                 have c91b1 : (t818 != t816) = false := bne_eq_false_iff_eq.mpr c91
                 clear c91
                 replace H := Option.bind_eq_some_iff.mp H
                 obtain ⟨t819, A920, H⟩ := H
                 replace H : ((laws_toFoodS.f kj62 l1).bind fun t822 => ((laws_toIntS.f kj62 l2).bind fun t825 => ((laws_toIntS.f kj62 l3).bind fun t828 => ((impl_SwapNeeds.f kj62 t819 t822 t825 t828).bind fun bt831 => ((laws_eqIntS.f kj62 bt831.1 t770).bind fun t835 => (if t835 = true then (laws_FnExactSwapNeeds.j2 kj62 t817 t816 (bt831.2 != t771)) else (laws_FnExactSwapNeeds.j2 kj62 t817 t816 true))))))) = some r := H
                 have A92 := Aside0.mk A920
                 clear A920
                 replace H := Option.bind_eq_some_iff.mp H
                 obtain ⟨t822, A930, H⟩ := H
                 replace H : ((laws_toIntS.f kj62 l2).bind fun t825 => ((laws_toIntS.f kj62 l3).bind fun t828 => ((impl_SwapNeeds.f kj62 t819 t822 t825 t828).bind fun bt831 => ((laws_eqIntS.f kj62 bt831.1 t770).bind fun t835 => (if t835 = true then (laws_FnExactSwapNeeds.j2 kj62 t817 t816 (bt831.2 != t771)) else (laws_FnExactSwapNeeds.j2 kj62 t817 t816 true)))))) = some r := H
                 have A93 := Aside0.mk A930
                 clear A930
                 replace H := Option.bind_eq_some_iff.mp H
                 obtain ⟨t825, A940, H⟩ := H
                 replace H : ((laws_toIntS.f kj62 l3).bind fun t828 => ((impl_SwapNeeds.f kj62 t819 t822 t825 t828).bind fun bt831 => ((laws_eqIntS.f kj62 bt831.1 t770).bind fun t835 => (if t835 = true then (laws_FnExactSwapNeeds.j2 kj62 t817 t816 (bt831.2 != t771)) else (laws_FnExactSwapNeeds.j2 kj62 t817 t816 true))))) = some r := H
                 have A94 := Aside0.mk A940
                 clear A940
                 replace H := Option.bind_eq_some_iff.mp H
                 obtain ⟨t828, A950, H⟩ := H
                 replace H : ((impl_SwapNeeds.f kj62 t819 t822 t825 t828).bind fun bt831 => ((laws_eqIntS.f kj62 bt831.1 t770).bind fun t835 => (if t835 = true then (laws_FnExactSwapNeeds.j2 kj62 t817 t816 (bt831.2 != t771)) else (laws_FnExactSwapNeeds.j2 kj62 t817 t816 true)))) = some r := H
                 have A95 := Aside0.mk A950
                 clear A950
                 replace H := Option.bind_eq_some_iff.mp H
                 obtain ⟨⟨t831, t832⟩, A960, H⟩ := H
                 replace H : ((laws_eqIntS.f kj62 t831 t770).bind fun t835 => (if t835 = true then (laws_FnExactSwapNeeds.j2 kj62 t817 t816 (t832 != t771)) else (laws_FnExactSwapNeeds.j2 kj62 t817 t816 true))) = some r := H
                 have A96 := Aside0.mk A960
                 clear A960
                 have HC97 := Aside0.mk H
                 clear H
                 obtain ⟨Ao98, co98, eo98⟩ := Kd.R_slice HO_16.out
                 subst eo98
                 go_upto_region 44 with (first | ((with_reducible refine gate_callee (f := 38) rfl ?_); refine goesL_ (some 123) rfl rfl Try.func38 pL rfl #[.slice Ao98 t786.length co98, .int .i64 1] rfl pM ?_; (with_reducible refine (laws_markIntS.calls kj62 (fun k_ => some k_ = (.slice Ao98 t786.length co98 : Value).ownBlock) (.slice Ao98 t786.length co98) t786 1 t816 t817 w _ ?side1 ?side2 A86.out).mono ?_); (case side1 => exact pB); (case side2 => exact Kd.R_tight rfl HO_16.out); rintro e w99 ⟨rfl, hy0, hb, hkp⟩; refine ⟨_, rfl, ?_⟩; have n0_ := Aside0.mk (Kd.R_mono (ok' := fun k_ => some k_ ≠ (.slice Ao98 t786.length co98 : Value).ownBlock) (Kd.R_keptB (HO_10.out) hkp (fun k_ hk_ hs_ => (hk_) hs_)) (fun k_ hk_ => hk_.1)); have n1_ := Aside0.mk (Kd.R_reok rfl hy0 (fun k_ e_ => HO_16.out.1 k_ e_)); have n2_ := Aside0.mk (hb); clear HO_10; clear HO_16; clear HB; have HO_10 := n0_; have HO_16 := n1_; have HB := n2_; clear n0_ n1_ n2_; (try clear hb); (try clear hkp); (try clear hy0)) | ((with_reducible refine gate_callee (f := 39) rfl ?_); refine goesL_ (some 126) rfl rfl Try.func39 pL rfl #[.slice Ao98 t817.length co98, .int .i64 1] rfl (by (try simp only [List.map_toArray, List.map_cons, List.map_nil]); first | done | (rw [show t817.length = t786.length from (Kd.R_reads' HO_16.out).1.symm] <;> rfl) | rfl | (simp only [List.length_drop, List.length_take]; rfl)) ?_; (with_reducible refine (laws_heldIntS.calls kj62 _ _ t817 1 t818 _ ?side1 ?side2 A87.out).mono ?_); (case side1 => exact pS ((Kd.R_reads' HO_16.out).2.2)); (case side2 => rw [show t817.length = t786.length from (Kd.R_reads' HO_16.out).1.symm]; exact (Kd.R_reads' HO_16.out).2.1); rintro e w' ⟨rfl, ⟨nd, rfl⟩⟩; refine ⟨_, rfl, ?_⟩) | ((with_reducible refine gate_callee (f := 29) rfl ?_); refine goesL_ (some 134) rfl rfl Try.func29 pL rfl #[.slice A0 l0.length c0] rfl pM ?_; (with_reducible refine (laws_toSwapS.calls kj62 _ _ l0 t819 _ ?side1 ?side2 A92.out).mono ?_); (case side1 => exact pS ((Kd.C_below HR0.out pB))); (case side2 => exact HC0.out); rintro e w100 ⟨v820, rfl, ho0, hb⟩; refine ⟨_, rfl, ?_⟩; have n0_ := Aside0.mk (Kd.R_below (pR HO_10) hb); have n1_ := Aside0.mk (Kd.R_below (pR HO_16) hb); have n2_ := Aside0.mk (Kd.R_lower ho0 (below_size pB)); have n3_ := Aside0.mk (below_step pB hb); clear HO_10; clear HO_16; clear HB; have HO_10 := n0_; have HO_16 := n1_; have HO821 := n2_; have HB := n3_; clear n0_ n1_ n2_ n3_; (try clear hb); (try clear hb2); (try clear hk); (try clear hi); (try clear ho0)) | ((with_reducible refine gate_callee (f := 17) rfl ?_); refine goesL_ (some 136) rfl rfl Try.func17 pL rfl #[.slice A1 l1.length c1] rfl pM ?_; (with_reducible refine (laws_toFoodS.calls kj62 _ _ l1 t822 _ ?side1 ?side2 A93.out).mono ?_); (case side1 => exact pS ((Kd.C_below HR1.out HB.out))); (case side2 => exact HC1.out); rintro e w101 ⟨v823, rfl, ho0, hb⟩; refine ⟨_, rfl, ?_⟩; have n0_ := Aside0.mk (Kd.R_below (pR HO_10) hb); have n1_ := Aside0.mk (Kd.R_below (pR HO_16) hb); have n2_ := Aside0.mk (Kd.R_below (pR HO821) hb); have n3_ := Aside0.mk (Kd.R_lower ho0 (below_size pB)); have n4_ := Aside0.mk (below_step pB hb); clear HO_10; clear HO_16; clear HO821; clear HB; have HO_10 := n0_; have HO_16 := n1_; have HO821 := n2_; have HO824 := n3_; have HB := n4_; clear n0_ n1_ n2_ n3_ n4_; (try clear hb); (try clear hb2); (try clear hk); (try clear hi); (try clear ho0)) | ((with_reducible refine gate_callee (f := 18) rfl ?_); refine goesL_ (some 138) rfl rfl Try.func18 pL rfl #[.slice A2 l2.length c2] rfl pM ?_; (with_reducible refine (laws_toIntS.calls kj62 _ _ l2 t825 _ ?side1 ?side2 A94.out).mono ?_); (case side1 => exact pS ((Kd.C_below HR2.out HB.out))); (case side2 => exact HC2.out); rintro e w102 ⟨v826, rfl, ho0, hb⟩; refine ⟨_, rfl, ?_⟩; have n0_ := Aside0.mk (Kd.R_elder' (pR HO_10) (Kd.R_base ho0) hb); have n1_ := Aside0.mk (Kd.R_elder' (pR HO_16) (Kd.R_base ho0) hb); have n2_ := Aside0.mk (Kd.R_below (pR HO821) hb); have n3_ := Aside0.mk (Kd.R_below (pR HO824) hb); have n4_ := Aside0.mk (Kd.R_lower (Kd.R_new' (Kd.R_new' ho0 (Kd.R_lt (pR HO_10))) (Kd.R_lt (pR HO_16))) (below_size pB)); have n5_ := Aside0.mk (below_step pB hb); clear HO_10; clear HO_16; clear HO821; clear HO824; clear HB; have HO_10 := n0_; have HO_16 := n1_; have HO821 := n2_; have HO824 := n3_; have HO827 := n4_; have HB := n5_; clear n0_ n1_ n2_ n3_ n4_ n5_; (try clear hb); (try clear hb2); (try clear hk); (try clear hi); (try clear ho0)) | ((with_reducible refine gate_callee (f := 18) rfl ?_); refine goesL_ (some 140) rfl rfl Try.func18 pL rfl #[.slice A3 l3.length c3] rfl pM ?_; (with_reducible refine (laws_toIntS.calls kj62 _ _ l3 t828 _ ?side1 ?side2 A95.out).mono ?_); (case side1 => exact pS ((Kd.C_below HR3.out HB.out))); (case side2 => exact HC3.out); rintro e w103 ⟨v829, rfl, ho0, hb⟩; refine ⟨_, rfl, ?_⟩; have n0_ := Aside0.mk (Kd.R_elder' (pR HO_10) (Kd.R_base ho0) hb); have n1_ := Aside0.mk (Kd.R_elder' (pR HO_16) (Kd.R_base ho0) hb); have n2_ := Aside0.mk (Kd.R_below (pR HO821) hb); have n3_ := Aside0.mk (Kd.R_below (pR HO824) hb); have n4_ := Aside0.mk (Kd.R_elder' (pR HO827) (Kd.R_base ho0) hb); have n5_ := Aside0.mk (Kd.R_lower (Kd.R_new' (Kd.R_new' (Kd.R_new' ho0 (Kd.R_lt (pR HO_10))) (Kd.R_lt (pR HO_16))) (Kd.R_lt (pR HO827))) (below_size pB)); have n6_ := Aside0.mk (below_step pB hb); clear HO_10; clear HO_16; clear HO821; clear HO824; clear HO827; clear HB; have HO_10 := n0_; have HO_16 := n1_; have HO821 := n2_; have HO824 := n3_; have HO827 := n4_; have HO830 := n5_; have HB := n6_; clear n0_ n1_ n2_ n3_ n4_ n5_ n6_; (try clear hb); (try clear hb2); (try clear hk); (try clear hi); (try clear ho0); obtain ⟨Ao104, co104, eo104⟩ := Kd.R_slice HO821.out; subst eo104; obtain ⟨Ao105, co105, eo105⟩ := Kd.R_slice HO824.out; subst eo105; obtain ⟨Ao106, co106, eo106⟩ := Kd.R_slice HO827.out; subst eo106; obtain ⟨Ao107, co107, eo107⟩ := Kd.R_slice HO830.out; subst eo107) | ((with_reducible refine gate_callee (f := 41) rfl ?_); refine goesL_ (some 141) rfl rfl Try.func41 pL rfl #[.slice Ao104 t819.length co104, .slice Ao105 t822.length co105, .slice Ao106 t825.length co106, .slice Ao107 t828.length co107] rfl pM ?_; (with_reducible refine (impl_SwapNeeds.calls kj62 _ _ t819 _ _ t822 _ _ t825 _ _ t828 t831 t832 _ ?side1 ?side2 ?side3 ?side4 ?side5 ?side6 ?side7 ?side8 A96.out).mono ?_); (case side1 => exact pS ((Kd.R_reads' HO821.out).2.2)); (case side2 => exact (Kd.R_reads' HO821.out).2.1); (case side3 => exact pS ((Kd.R_reads' HO824.out).2.2)); (case side4 => exact (Kd.R_reads' HO824.out).2.1); (case side5 => exact pS ((Kd.R_reads' HO827.out).2.2)); (case side6 => exact (Kd.R_reads' HO827.out).2.1); (case side7 => exact pS ((Kd.R_reads' HO830.out).2.2)); (case side8 => exact (Kd.R_reads' HO830.out).2.1); rintro e w108 ⟨v833, rfl, ho0, hb⟩; refine ⟨_, rfl, ?_⟩; have n0_ := Aside0.mk (Kd.R_elder' (pR HO_10) (Kd.R_base ho0) hb); have n1_ := Aside0.mk (Kd.R_elder' (pR HO_16) (Kd.R_base ho0) hb); have n2_ := Aside0.mk (Kd.R_below (pR HO821) hb); have n3_ := Aside0.mk (Kd.R_below (pR HO824) hb); have n4_ := Aside0.mk (Kd.R_elder' (pR HO827) (Kd.R_base ho0) hb); have n5_ := Aside0.mk (Kd.R_elder' (pR HO830) (Kd.R_base ho0) hb); have n6_ := Aside0.mk (Kd.R_lower (Kd.R_new' (Kd.R_new' (Kd.R_new' (Kd.R_new' ho0 (Kd.R_lt (pR HO_10))) (Kd.R_lt (pR HO_16))) (Kd.R_lt (pR HO827))) (Kd.R_lt (pR HO830))) (below_size pB)); have n7_ := Aside0.mk (below_step pB hb); clear HO_10; clear HO_16; clear HO821; clear HO824; clear HO827; clear HO830; clear HB; have HO_10 := n0_; have HO_16 := n1_; have HO821 := n2_; have HO824 := n3_; have HO827 := n4_; have HO830 := n5_; have HO834 := n6_; have HB := n7_; clear n0_ n1_ n2_ n3_ n4_ n5_ n6_ n7_; (try clear hb); (try clear hb2); (try clear hk); (try clear hi); (try clear ho0)))
                 (try simp only [Act.put, List.setIfInBounds_toArray, List.set_cons_zero, List.set_cons_succ])
                 go_cut [152] (fun v152 wc => ∃ (kq : Nat) (x152_96 : Bool), v152 = .bool x152_96 ∧ Aside0 (laws_FnExactSwapNeeds.j2 kq t817 t816 x152_96 = some r) ∧ Aside0 (kq ≤ kj62) ∧ Aside0 (Kd.R (Kd.int .i64) 3 wc w.heap.size (fun _ => True) (.slice Ao98 t786.length co98) t817) ∧ Aside0 (Below w.heap.size w wc))
                 case first =>
                  have H := HC97.out
                  clear HC97
                  replace H := Option.bind_eq_some_iff.mp H
                  obtain ⟨t835, A1090, H⟩ := H
                  replace H : (if t835 = true then (laws_FnExactSwapNeeds.j2 kj62 t817 t816 (t832 != t771)) else (laws_FnExactSwapNeeds.j2 kj62 t817 t816 true)) = some r := H
                  have A109 := Aside0.mk A1090
                  clear A1090
                  by_cases c110 : t835 = true
                  ·subst c110
                   have H1 : (laws_FnExactSwapNeeds.j2 kj62 t817 t816 (t832 != t771)) = some r := by rw [if_pos rfl] at H; exact H
                   clear H
                   have H := H1
                   clear H1
                   have H' := Aside0.mk H
                   clear H
                   obtain ⟨Ao111, co111, eo111⟩ := Kd.R_slice HO834.out
                   subst eo111
                   obtain ⟨Ao112, co112, eo112⟩ := Kd.R_slice HO_10.out
                   subst eo112
                   go_wp2_with (first | ((with_reducible refine gate_callee (f := 21) rfl ?_); refine goesL_ (some 146) rfl rfl Try.func21 pL rfl #[.slice Ao111 t831.length co111, .slice Ao112 t770.length co112] rfl pM ?_; (with_reducible refine (laws_eqIntS.calls kj62 _ _ t831 _ _ t770 true _ ?side1 ?side2 ?side3 ?side4 A109.out).mono ?_); (case side1 => exact pS ((Kd.R_reads' HO834.out).2.2)); (case side2 => exact (Kd.R_reads' HO834.out).2.1); (case side3 => exact pS ((Kd.R_reads' HO_10.out).2.2)); (case side4 => exact (Kd.R_reads' HO_10.out).2.1); rintro e w' ⟨rfl, ⟨nd, rfl⟩⟩; refine ⟨_, rfl, ?_⟩))
                   go_meet
                   case rel => exact ⟨_, ((t832 != t771)), pF, H', ⟨by have := HJ20.out; have := HJ62.out; first | omega | exact Nat.le_refl _⟩, ⟨by (with_reducible repeat (first | apply Kd.R_alloc | apply Kd.R_drewN | apply Kd.R_drew)); exact Kd.R_mono HO_16.out (fun _ hk => trivial)⟩, ⟨pB⟩⟩
                  ·replace c110 := Bool.eq_false_iff.mpr c110
                   subst c110
                   have H1 : (laws_FnExactSwapNeeds.j2 kj62 t817 t816 true) = some r := by rw [if_neg (show ¬ (false = true) by decide)] at H; exact H
                   clear H
                   have H := H1
                   clear H1
                   have H' := Aside0.mk H
                   clear H
                   obtain ⟨Ao113, co113, eo113⟩ := Kd.R_slice HO834.out
                   subst eo113
                   obtain ⟨Ao114, co114, eo114⟩ := Kd.R_slice HO_10.out
                   subst eo114
                   go_wp2_with (first | ((with_reducible refine gate_callee (f := 21) rfl ?_); refine goesL_ (some 146) rfl rfl Try.func21 pL rfl #[.slice Ao113 t831.length co113, .slice Ao114 t770.length co114] rfl pM ?_; (with_reducible refine (laws_eqIntS.calls kj62 _ _ t831 _ _ t770 false _ ?side1 ?side2 ?side3 ?side4 A109.out).mono ?_); (case side1 => exact pS ((Kd.R_reads' HO834.out).2.2)); (case side2 => exact (Kd.R_reads' HO834.out).2.1); (case side3 => exact pS ((Kd.R_reads' HO_10.out).2.2)); (case side4 => exact (Kd.R_reads' HO_10.out).2.1); rintro e w' ⟨rfl, ⟨nd, rfl⟩⟩; refine ⟨_, rfl, ?_⟩))
                   go_meet
                   case rel => exact ⟨_, (true), pF, H', ⟨by have := HJ20.out; have := HJ62.out; first | omega | exact Nat.le_refl _⟩, ⟨by (with_reducible repeat (first | apply Kd.R_alloc | apply Kd.R_drewN | apply Kd.R_drew)); exact Kd.R_mono HO_16.out (fun _ hk => trivial)⟩, ⟨pB⟩⟩
                 case rest =>
                  clear HC97
                  try clear c1
                  try clear c2
                  try clear p2
                  try clear c3
                  try clear c4
                  try clear c5
                  try clear c5b0
                  try clear c5b1
                  try clear c6
                  try clear c6b0
                  try clear c6b1
                  try clear c7
                  try clear c8
                  try clear c8b0
                  try clear c9
                  try clear c10
                  try clear c10b0
                  try clear c11
                  try clear c14
                  try clear c15
                  try clear c17
                  try clear c18
                  try clear c20
                  try clear c21
                  try clear c28
                  try clear c29
                  try clear c30
                  try clear c36
                  try clear c37
                  try clear c38
                  try clear c39
                  try clear c41
                  try clear c42
                  try clear c46
                  try clear c49
                  try clear c52
                  try clear c55
                  try clear c58
                  try clear c78
                  try clear c78b0
                  try clear c80
                  try clear c85
                  try clear c88
                  try clear c88b0
                  try clear c91
                  try clear c91b0
                  try clear c91b1
                  try clear c110
                  try clear p2
                  obtain ⟨kq, x152_96, rfl, HA, HJ96, HO_16, HB⟩ := hcut
                  have hl16_96 := (Kd.R_reads' HO_16.out).1
                  rw [hl16_96] at HO_16
                  (try simp only [hl16_96])
                  cases kq with
                  | zero => exact absurd HA.out (by simp [laws_FnExactSwapNeeds.j2])
                  | succ kj96 =>
                   have H := HA.out
                   clear HA
                   simp only [laws_FnExactSwapNeeds.j2] at H
                   by_cases c115 : x152_96 = true
                   ·subst c115
                    have H1 : (some false) = some r := by rw [if_pos rfl] at H; exact H
                    clear H
                    have H := H1
                    clear H1
                    obtain rfl := Option.some.inj H
                    go_wp2
                    go_ret
                    exact ⟨pE, pB⟩
                   ·replace c115 := Bool.eq_false_iff.mpr c115
                    subst c115
                    have H1 : ((laws_heldIntS.f kj96 t817 1).bind fun t836 => (if t836 < 0 then (some false) else (if t836 = t816 then (some true) else (some false)))) = some r := by rw [if_neg (show ¬ (false = true) by decide)] at H; exact H
                    clear H
                    have H := H1
                    clear H1
                    replace H := Option.bind_eq_some_iff.mp H
                    obtain ⟨t836, A1160, H⟩ := H
                    replace H : (if t836 < 0 then (some false) else (if t836 = t816 then (some true) else (some false))) = some r := H
                    have A116 := Aside0.mk A1160
                    clear A1160
                    by_cases c117 : t836 < 0
                    ·rw [if_pos c117] at H
                     have c117b0 : decide (t836 < 0) = true := decide_eq_true c117
                     clear c117
                     obtain rfl := Option.some.inj H
                     go_wp2_with (first | ((with_reducible refine gate_callee (f := 39) rfl ?_); refine goesL_ (some 155) rfl rfl Try.func39 pL rfl #[.slice Ao98 t817.length co98, .int .i64 1] rfl pM ?_; (with_reducible refine (laws_heldIntS.calls kj96 _ _ t817 1 t836 _ ?side1 ?side2 A116.out).mono ?_); (case side1 => exact pS ((Kd.R_reads' HO_16.out).2.2)); (case side2 => exact (Kd.R_reads' HO_16.out).2.1); rintro e w' ⟨rfl, ⟨nd, rfl⟩⟩; refine ⟨_, rfl, ?_⟩))
                     go_ret
                     exact ⟨pE, pB⟩
                    ·rw [if_neg c117] at H
                     have c117b0 : decide (t836 < 0) = false := decide_eq_false c117
                     clear c117
                     by_cases c118 : t836 = t816
                     ·rw [if_pos c118] at H
                      have c118b0 : (t836 == t816) = true := beq_iff_eq.mpr c118
                      have c118b1 : (t836 != t816) = false := bne_eq_false_iff_eq.mpr c118
                      clear c118
                      obtain rfl := Option.some.inj H
                      go_wp2_with (first | ((with_reducible refine gate_callee (f := 39) rfl ?_); refine goesL_ (some 155) rfl rfl Try.func39 pL rfl #[.slice Ao98 t817.length co98, .int .i64 1] rfl pM ?_; (with_reducible refine (laws_heldIntS.calls kj96 _ _ t817 1 t836 _ ?side1 ?side2 A116.out).mono ?_); (case side1 => exact pS ((Kd.R_reads' HO_16.out).2.2)); (case side2 => exact (Kd.R_reads' HO_16.out).2.1); rintro e w' ⟨rfl, ⟨nd, rfl⟩⟩; refine ⟨_, rfl, ?_⟩))
                      go_ret
                      exact ⟨pE, pB⟩
                     ·rw [if_neg c118] at H
                      have c118b0 : (t836 == t816) = false := beq_eq_false_iff_ne.mpr c118
                      have c118b1 : (t836 != t816) = true := bne_iff_ne.mpr c118
                      obtain rfl := Option.some.inj H
                      go_wp2_with (first | ((with_reducible refine gate_callee (f := 39) rfl ?_); refine goesL_ (some 155) rfl rfl Try.func39 pL rfl #[.slice Ao98 t817.length co98, .int .i64 1] rfl pM ?_; (with_reducible refine (laws_heldIntS.calls kj96 _ _ t817 1 t836 _ ?side1 ?side2 A116.out).mono ?_); (case side1 => exact pS ((Kd.R_reads' HO_16.out).2.2)); (case side2 => exact (Kd.R_reads' HO_16.out).2.1); rintro e w' ⟨rfl, ⟨nd, rfl⟩⟩; refine ⟨_, rfl, ?_⟩))
                      go_ret
                      exact ⟨pE, pB⟩
                ·rw [if_neg c91] at H
                 have c91b0 : (t818 == t816) = false := beq_eq_false_iff_ne.mpr c91
                 have c91b1 : (t818 != t816) = true := bne_iff_ne.mpr c91
                 obtain rfl := Option.some.inj H
                 obtain ⟨Ao119, co119, eo119⟩ := Kd.R_slice HO_16.out
                 subst eo119
                 go_wp2_with (first | ((with_reducible refine gate_callee (f := 38) rfl ?_); refine goesL_ (some 123) rfl rfl Try.func38 pL rfl #[.slice Ao119 t786.length co119, .int .i64 1] rfl pM ?_; (with_reducible refine (laws_markIntS.calls kj62 (fun k_ => some k_ = (.slice Ao119 t786.length co119 : Value).ownBlock) (.slice Ao119 t786.length co119) t786 1 t816 t817 w _ ?side1 ?side2 A86.out).mono ?_); (case side1 => exact pB); (case side2 => exact Kd.R_tight rfl HO_16.out); rintro e w120 ⟨rfl, hy0, hb, hkp⟩; refine ⟨_, rfl, ?_⟩; have n0_ := Aside0.mk (Kd.R_mono (ok' := fun k_ => some k_ ≠ (.slice Ao119 t786.length co119 : Value).ownBlock) (Kd.R_keptB (HO_10.out) hkp (fun k_ hk_ hs_ => (hk_) hs_)) (fun k_ hk_ => hk_.1)); have n1_ := Aside0.mk (Kd.R_reok rfl hy0 (fun k_ e_ => HO_16.out.1 k_ e_)); have n2_ := Aside0.mk (hb); clear HO_10; clear HO_16; clear HB; have HO_10 := n0_; have HO_16 := n1_; have HB := n2_; clear n0_ n1_ n2_; (try clear hb); (try clear hkp); (try clear hy0)) | ((with_reducible refine gate_callee (f := 39) rfl ?_); refine goesL_ (some 126) rfl rfl Try.func39 pL rfl #[.slice Ao119 t817.length co119, .int .i64 1] rfl (by (try simp only [List.map_toArray, List.map_cons, List.map_nil]); first | done | (rw [show t817.length = t786.length from (Kd.R_reads' HO_16.out).1.symm] <;> rfl) | rfl | (simp only [List.length_drop, List.length_take]; rfl)) ?_; (with_reducible refine (laws_heldIntS.calls kj62 _ _ t817 1 t818 _ ?side1 ?side2 A87.out).mono ?_); (case side1 => exact pS ((Kd.R_reads' HO_16.out).2.2)); (case side2 => rw [show t817.length = t786.length from (Kd.R_reads' HO_16.out).1.symm]; exact (Kd.R_reads' HO_16.out).2.1); rintro e w' ⟨rfl, ⟨nd, rfl⟩⟩; refine ⟨_, rfl, ?_⟩))
                 go_ret
                 exact ⟨pE, pB⟩
           ·replace c58 := Bool.eq_false_iff.mpr c58
            subst c58
            have H1 : (some false) = some r := by rw [if_neg (show ¬ (false = true) by decide)] at H; exact H
            clear H
            have H := H1
            clear H1
            obtain rfl := Option.some.inj H
            go_wp2_with (first | ((with_reducible refine gate_callee (f := 29) rfl ?_); refine goesL_ (some 78) rfl rfl Try.func29 pL rfl #[.slice A0 l0.length c0] rfl pM ?_; (with_reducible refine (laws_toSwapS.calls kj20 _ _ l0 t791 _ ?side1 ?side2 A47.out).mono ?_); (case side1 => exact pS ((Kd.C_below HR0.out HB.out))); (case side2 => exact HC0.out); rintro e w121 ⟨v792, rfl, ho0, hb⟩; refine ⟨_, rfl, ?_⟩; have n0_ := Aside0.mk (Kd.R_below (pR HO_10) hb); have n1_ := Aside0.mk (Kd.R_elder' (pR HO_12) (Kd.R_base ho0) hb); have n2_ := Aside0.mk (Kd.R_below (pR HO_13) hb); have n3_ := Aside0.mk (Kd.R_below (pR HO_14) hb); have n4_ := Aside0.mk (Kd.R_below (pR HO_15) hb); have n5_ := Aside0.mk (Kd.R_below (pR HO_16) hb); have n6_ := Aside0.mk (Kd.R_lower (Kd.R_new' ho0 (Kd.R_lt (pR HO_12))) (below_size pB)); have n7_ := Aside0.mk (below_step pB hb); clear HO_10; clear HO_12; clear HO_13; clear HO_14; clear HO_15; clear HO_16; clear HB; have HO_10 := n0_; have HO_12 := n1_; have HO_13 := n2_; have HO_14 := n3_; have HO_15 := n4_; have HO_16 := n5_; have HO793 := n6_; have HB := n7_; clear n0_ n1_ n2_ n3_ n4_ n5_ n6_ n7_; (try clear hb); (try clear hb2); (try clear hk); (try clear hi); (try clear ho0); obtain ⟨Ao122, co122, eo122⟩ := Kd.R_slice HO793.out; subst eo122) | ((with_reducible refine gate_callee (f := 30) rfl ?_); refine goesL_ (some 79) rfl rfl Try.func30 pL rfl #[.slice Ao35 t774.length co35, .slice Ao122 t791.length co122] rfl pM ?_; (with_reducible refine (laws_eqSwapS.calls kj20 _ _ t774 _ _ t791 true _ ?side1 ?side2 ?side3 ?side4 A48.out).mono ?_); (case side1 => exact pS ((Kd.R_reads' HO_12.out).2.2)); (case side2 => exact (Kd.R_reads' HO_12.out).2.1); (case side3 => exact pS ((Kd.R_reads' HO793.out).2.2)); (case side4 => exact (Kd.R_reads' HO793.out).2.1); rintro e w123 ⟨rfl, hb⟩; refine ⟨_, rfl, ?_⟩; have n0_ := Aside0.mk (Kd.R_below (pR HO_10) hb); have n1_ := Aside0.mk (Kd.R_below (pR HO_12) hb); have n2_ := Aside0.mk (Kd.R_below (pR HO_13) hb); have n3_ := Aside0.mk (Kd.R_below (pR HO_14) hb); have n4_ := Aside0.mk (Kd.R_below (pR HO_15) hb); have n5_ := Aside0.mk (Kd.R_below (pR HO_16) hb); have n6_ := Aside0.mk (Kd.R_below (pR HO793) hb); have n7_ := Aside0.mk (below_step pB hb); clear HO_10; clear HO_12; clear HO_13; clear HO_14; clear HO_15; clear HO_16; clear HO793; clear HB; have HO_10 := n0_; have HO_12 := n1_; have HO_13 := n2_; have HO_14 := n3_; have HO_15 := n4_; have HO_16 := n5_; have HO793 := n6_; have HB := n7_; clear n0_ n1_ n2_ n3_ n4_ n5_ n6_ n7_; (try clear hb); (try clear hb2); (try clear hk); (try clear hi)) | ((with_reducible refine gate_callee (f := 17) rfl ?_); refine goesL_ (some 83) rfl rfl Try.func17 pL rfl #[.slice A1 l1.length c1] rfl pM ?_; (with_reducible refine (laws_toFoodS.calls kj20 _ _ l1 t795 _ ?side1 ?side2 A50.out).mono ?_); (case side1 => exact pS ((Kd.C_below HR1.out HB.out))); (case side2 => exact HC1.out); rintro e w124 ⟨v796, rfl, ho0, hb⟩; refine ⟨_, rfl, ?_⟩; have n0_ := Aside0.mk (Kd.R_below (pR HO_10) hb); have n1_ := Aside0.mk (Kd.R_below (pR HO_12) hb); have n2_ := Aside0.mk (Kd.R_elder' (pR HO_13) (Kd.R_base ho0) hb); have n3_ := Aside0.mk (Kd.R_below (pR HO_14) hb); have n4_ := Aside0.mk (Kd.R_below (pR HO_15) hb); have n5_ := Aside0.mk (Kd.R_below (pR HO_16) hb); have n6_ := Aside0.mk (Kd.R_below (pR HO793) hb); have n7_ := Aside0.mk (Kd.R_lower (Kd.R_new' ho0 (Kd.R_lt (pR HO_13))) (below_size pB)); have n8_ := Aside0.mk (below_step pB hb); clear HO_10; clear HO_12; clear HO_13; clear HO_14; clear HO_15; clear HO_16; clear HO793; clear HB; have HO_10 := n0_; have HO_12 := n1_; have HO_13 := n2_; have HO_14 := n3_; have HO_15 := n4_; have HO_16 := n5_; have HO793 := n6_; have HO797 := n7_; have HB := n8_; clear n0_ n1_ n2_ n3_ n4_ n5_ n6_ n7_ n8_; (try clear hb); (try clear hb2); (try clear hk); (try clear hi); (try clear ho0); obtain ⟨Ao125, co125, eo125⟩ := Kd.R_slice HO797.out; subst eo125) | ((with_reducible refine gate_callee (f := 20) rfl ?_); refine goesL_ (some 84) rfl rfl Try.func20 pL rfl #[.slice Ao36 t777.length co36, .slice Ao125 t795.length co125] rfl pM ?_; (with_reducible refine (laws_eqFoodS.calls kj20 _ _ t777 _ _ t795 true _ ?side1 ?side2 ?side3 ?side4 A51.out).mono ?_); (case side1 => exact pS ((Kd.R_reads' HO_13.out).2.2)); (case side2 => exact (Kd.R_reads' HO_13.out).2.1); (case side3 => exact pS ((Kd.R_reads' HO797.out).2.2)); (case side4 => exact (Kd.R_reads' HO797.out).2.1); rintro e w126 ⟨rfl, hb⟩; refine ⟨_, rfl, ?_⟩; have n0_ := Aside0.mk (Kd.R_below (pR HO_10) hb); have n1_ := Aside0.mk (Kd.R_below (pR HO_12) hb); have n2_ := Aside0.mk (Kd.R_below (pR HO_13) hb); have n3_ := Aside0.mk (Kd.R_below (pR HO_14) hb); have n4_ := Aside0.mk (Kd.R_below (pR HO_15) hb); have n5_ := Aside0.mk (Kd.R_below (pR HO_16) hb); have n6_ := Aside0.mk (Kd.R_below (pR HO793) hb); have n7_ := Aside0.mk (Kd.R_below (pR HO797) hb); have n8_ := Aside0.mk (below_step pB hb); clear HO_10; clear HO_12; clear HO_13; clear HO_14; clear HO_15; clear HO_16; clear HO793; clear HO797; clear HB; have HO_10 := n0_; have HO_12 := n1_; have HO_13 := n2_; have HO_14 := n3_; have HO_15 := n4_; have HO_16 := n5_; have HO793 := n6_; have HO797 := n7_; have HB := n8_; clear n0_ n1_ n2_ n3_ n4_ n5_ n6_ n7_ n8_; (try clear hb); (try clear hb2); (try clear hk); (try clear hi)) | ((with_reducible refine gate_callee (f := 18) rfl ?_); refine goesL_ (some 88) rfl rfl Try.func18 pL rfl #[.slice A2 l2.length c2] rfl pM ?_; (with_reducible refine (laws_toIntS.calls kj20 _ _ l2 t799 _ ?side1 ?side2 A53.out).mono ?_); (case side1 => exact pS ((Kd.C_below HR2.out HB.out))); (case side2 => exact HC2.out); rintro e w127 ⟨v800, rfl, ho0, hb⟩; refine ⟨_, rfl, ?_⟩; have n0_ := Aside0.mk (Kd.R_elder' (pR HO_10) (Kd.R_base ho0) hb); have n1_ := Aside0.mk (Kd.R_below (pR HO_12) hb); have n2_ := Aside0.mk (Kd.R_below (pR HO_13) hb); have n3_ := Aside0.mk (Kd.R_elder' (pR HO_14) (Kd.R_base ho0) hb); have n4_ := Aside0.mk (Kd.R_elder' (pR HO_15) (Kd.R_base ho0) hb); have n5_ := Aside0.mk (Kd.R_elder' (pR HO_16) (Kd.R_base ho0) hb); have n6_ := Aside0.mk (Kd.R_below (pR HO793) hb); have n7_ := Aside0.mk (Kd.R_below (pR HO797) hb); have n8_ := Aside0.mk (Kd.R_lower (Kd.R_new' (Kd.R_new' (Kd.R_new' (Kd.R_new' ho0 (Kd.R_lt (pR HO_10))) (Kd.R_lt (pR HO_14))) (Kd.R_lt (pR HO_15))) (Kd.R_lt (pR HO_16))) (below_size pB)); have n9_ := Aside0.mk (below_step pB hb); clear HO_10; clear HO_12; clear HO_13; clear HO_14; clear HO_15; clear HO_16; clear HO793; clear HO797; clear HB; have HO_10 := n0_; have HO_12 := n1_; have HO_13 := n2_; have HO_14 := n3_; have HO_15 := n4_; have HO_16 := n5_; have HO793 := n6_; have HO797 := n7_; have HO801 := n8_; have HB := n9_; clear n0_ n1_ n2_ n3_ n4_ n5_ n6_ n7_ n8_ n9_; (try clear hb); (try clear hb2); (try clear hk); (try clear hi); (try clear ho0); obtain ⟨Ao128, co128, eo128⟩ := Kd.R_slice HO801.out; subst eo128) | ((with_reducible refine gate_callee (f := 21) rfl ?_); refine goesL_ (some 89) rfl rfl Try.func21 pL rfl #[.slice Ao37 t780.length co37, .slice Ao128 t799.length co128] rfl pM ?_; (with_reducible refine (laws_eqIntS.calls kj20 _ _ t780 _ _ t799 true _ ?side1 ?side2 ?side3 ?side4 A54.out).mono ?_); (case side1 => exact pS ((Kd.R_reads' HO_14.out).2.2)); (case side2 => exact (Kd.R_reads' HO_14.out).2.1); (case side3 => exact pS ((Kd.R_reads' HO801.out).2.2)); (case side4 => exact (Kd.R_reads' HO801.out).2.1); rintro e w' ⟨rfl, ⟨nd, rfl⟩⟩; refine ⟨_, rfl, ?_⟩) | ((with_reducible refine gate_callee (f := 18) rfl ?_); refine goesL_ (some 93) rfl rfl Try.func18 pL rfl #[.slice A3 l3.length c3] rfl pM ?_; (with_reducible refine (laws_toIntS.calls kj20 _ _ l3 t803 _ ?side1 ?side2 A56.out).mono ?_); (case side1 => exact pS ((Kd.C_below HR3.out pB))); (case side2 => exact HC3.out); rintro e w129 ⟨v804, rfl, ho0, hb⟩; refine ⟨_, rfl, ?_⟩; have n0_ := Aside0.mk (Kd.R_elder' (pR HO_10) (Kd.R_base ho0) hb); have n1_ := Aside0.mk (Kd.R_below (pR HO_12) hb); have n2_ := Aside0.mk (Kd.R_below (pR HO_13) hb); have n3_ := Aside0.mk (Kd.R_elder' (pR HO_14) (Kd.R_base ho0) hb); have n4_ := Aside0.mk (Kd.R_elder' (pR HO_15) (Kd.R_base ho0) hb); have n5_ := Aside0.mk (Kd.R_elder' (pR HO_16) (Kd.R_base ho0) hb); have n6_ := Aside0.mk (Kd.R_below (pR HO793) hb); have n7_ := Aside0.mk (Kd.R_below (pR HO797) hb); have n8_ := Aside0.mk (Kd.R_elder' (pR HO801) (Kd.R_base ho0) hb); have n9_ := Aside0.mk (Kd.R_lower (Kd.R_new' (Kd.R_new' (Kd.R_new' (Kd.R_new' (Kd.R_new' ho0 (Kd.R_lt (pR HO_10))) (Kd.R_lt (pR HO_14))) (Kd.R_lt (pR HO_15))) (Kd.R_lt (pR HO_16))) (Kd.R_lt (pR HO801))) (below_size pB)); have n10_ := Aside0.mk (below_step pB hb); clear HO_10; clear HO_12; clear HO_13; clear HO_14; clear HO_15; clear HO_16; clear HO793; clear HO797; clear HO801; clear HB; have HO_10 := n0_; have HO_12 := n1_; have HO_13 := n2_; have HO_14 := n3_; have HO_15 := n4_; have HO_16 := n5_; have HO793 := n6_; have HO797 := n7_; have HO801 := n8_; have HO805 := n9_; have HB := n10_; clear n0_ n1_ n2_ n3_ n4_ n5_ n6_ n7_ n8_ n9_ n10_; (try clear hb); (try clear hb2); (try clear hk); (try clear hi); (try clear ho0); obtain ⟨Ao130, co130, eo130⟩ := Kd.R_slice HO805.out; subst eo130) | ((with_reducible refine gate_callee (f := 21) rfl ?_); refine goesL_ (some 94) rfl rfl Try.func21 pL rfl #[.slice Ao38 t783.length co38, .slice Ao130 t803.length co130] rfl pM ?_; (with_reducible refine (laws_eqIntS.calls kj20 _ _ t783 _ _ t803 false _ ?side1 ?side2 ?side3 ?side4 A57.out).mono ?_); (case side1 => exact pS ((Kd.R_reads' HO_15.out).2.2)); (case side2 => exact (Kd.R_reads' HO_15.out).2.1); (case side3 => exact pS ((Kd.R_reads' HO805.out).2.2)); (case side4 => exact (Kd.R_reads' HO805.out).2.1); rintro e w' ⟨rfl, ⟨nd, rfl⟩⟩; refine ⟨_, rfl, ?_⟩))
            go_ret
            exact ⟨pE, pB⟩
          ·replace c55 := Bool.eq_false_iff.mpr c55
           subst c55
           have H1 : (some false) = some r := by rw [if_neg (show ¬ (false = true) by decide)] at H; exact H
           clear H
           have H := H1
           clear H1
           obtain rfl := Option.some.inj H
           go_wp2_with (first | ((with_reducible refine gate_callee (f := 29) rfl ?_); refine goesL_ (some 78) rfl rfl Try.func29 pL rfl #[.slice A0 l0.length c0] rfl pM ?_; (with_reducible refine (laws_toSwapS.calls kj20 _ _ l0 t791 _ ?side1 ?side2 A47.out).mono ?_); (case side1 => exact pS ((Kd.C_below HR0.out HB.out))); (case side2 => exact HC0.out); rintro e w131 ⟨v792, rfl, ho0, hb⟩; refine ⟨_, rfl, ?_⟩; have n0_ := Aside0.mk (Kd.R_below (pR HO_10) hb); have n1_ := Aside0.mk (Kd.R_elder' (pR HO_12) (Kd.R_base ho0) hb); have n2_ := Aside0.mk (Kd.R_below (pR HO_13) hb); have n3_ := Aside0.mk (Kd.R_below (pR HO_14) hb); have n4_ := Aside0.mk (Kd.R_below (pR HO_15) hb); have n5_ := Aside0.mk (Kd.R_below (pR HO_16) hb); have n6_ := Aside0.mk (Kd.R_lower (Kd.R_new' ho0 (Kd.R_lt (pR HO_12))) (below_size pB)); have n7_ := Aside0.mk (below_step pB hb); clear HO_10; clear HO_12; clear HO_13; clear HO_14; clear HO_15; clear HO_16; clear HB; have HO_10 := n0_; have HO_12 := n1_; have HO_13 := n2_; have HO_14 := n3_; have HO_15 := n4_; have HO_16 := n5_; have HO793 := n6_; have HB := n7_; clear n0_ n1_ n2_ n3_ n4_ n5_ n6_ n7_; (try clear hb); (try clear hb2); (try clear hk); (try clear hi); (try clear ho0); obtain ⟨Ao132, co132, eo132⟩ := Kd.R_slice HO793.out; subst eo132) | ((with_reducible refine gate_callee (f := 30) rfl ?_); refine goesL_ (some 79) rfl rfl Try.func30 pL rfl #[.slice Ao35 t774.length co35, .slice Ao132 t791.length co132] rfl pM ?_; (with_reducible refine (laws_eqSwapS.calls kj20 _ _ t774 _ _ t791 true _ ?side1 ?side2 ?side3 ?side4 A48.out).mono ?_); (case side1 => exact pS ((Kd.R_reads' HO_12.out).2.2)); (case side2 => exact (Kd.R_reads' HO_12.out).2.1); (case side3 => exact pS ((Kd.R_reads' HO793.out).2.2)); (case side4 => exact (Kd.R_reads' HO793.out).2.1); rintro e w133 ⟨rfl, hb⟩; refine ⟨_, rfl, ?_⟩; have n0_ := Aside0.mk (Kd.R_below (pR HO_10) hb); have n1_ := Aside0.mk (Kd.R_below (pR HO_12) hb); have n2_ := Aside0.mk (Kd.R_below (pR HO_13) hb); have n3_ := Aside0.mk (Kd.R_below (pR HO_14) hb); have n4_ := Aside0.mk (Kd.R_below (pR HO_15) hb); have n5_ := Aside0.mk (Kd.R_below (pR HO_16) hb); have n6_ := Aside0.mk (Kd.R_below (pR HO793) hb); have n7_ := Aside0.mk (below_step pB hb); clear HO_10; clear HO_12; clear HO_13; clear HO_14; clear HO_15; clear HO_16; clear HO793; clear HB; have HO_10 := n0_; have HO_12 := n1_; have HO_13 := n2_; have HO_14 := n3_; have HO_15 := n4_; have HO_16 := n5_; have HO793 := n6_; have HB := n7_; clear n0_ n1_ n2_ n3_ n4_ n5_ n6_ n7_; (try clear hb); (try clear hb2); (try clear hk); (try clear hi)) | ((with_reducible refine gate_callee (f := 17) rfl ?_); refine goesL_ (some 83) rfl rfl Try.func17 pL rfl #[.slice A1 l1.length c1] rfl pM ?_; (with_reducible refine (laws_toFoodS.calls kj20 _ _ l1 t795 _ ?side1 ?side2 A50.out).mono ?_); (case side1 => exact pS ((Kd.C_below HR1.out HB.out))); (case side2 => exact HC1.out); rintro e w134 ⟨v796, rfl, ho0, hb⟩; refine ⟨_, rfl, ?_⟩; have n0_ := Aside0.mk (Kd.R_below (pR HO_10) hb); have n1_ := Aside0.mk (Kd.R_below (pR HO_12) hb); have n2_ := Aside0.mk (Kd.R_elder' (pR HO_13) (Kd.R_base ho0) hb); have n3_ := Aside0.mk (Kd.R_below (pR HO_14) hb); have n4_ := Aside0.mk (Kd.R_below (pR HO_15) hb); have n5_ := Aside0.mk (Kd.R_below (pR HO_16) hb); have n6_ := Aside0.mk (Kd.R_below (pR HO793) hb); have n7_ := Aside0.mk (Kd.R_lower (Kd.R_new' ho0 (Kd.R_lt (pR HO_13))) (below_size pB)); have n8_ := Aside0.mk (below_step pB hb); clear HO_10; clear HO_12; clear HO_13; clear HO_14; clear HO_15; clear HO_16; clear HO793; clear HB; have HO_10 := n0_; have HO_12 := n1_; have HO_13 := n2_; have HO_14 := n3_; have HO_15 := n4_; have HO_16 := n5_; have HO793 := n6_; have HO797 := n7_; have HB := n8_; clear n0_ n1_ n2_ n3_ n4_ n5_ n6_ n7_ n8_; (try clear hb); (try clear hb2); (try clear hk); (try clear hi); (try clear ho0); obtain ⟨Ao135, co135, eo135⟩ := Kd.R_slice HO797.out; subst eo135) | ((with_reducible refine gate_callee (f := 20) rfl ?_); refine goesL_ (some 84) rfl rfl Try.func20 pL rfl #[.slice Ao36 t777.length co36, .slice Ao135 t795.length co135] rfl pM ?_; (with_reducible refine (laws_eqFoodS.calls kj20 _ _ t777 _ _ t795 true _ ?side1 ?side2 ?side3 ?side4 A51.out).mono ?_); (case side1 => exact pS ((Kd.R_reads' HO_13.out).2.2)); (case side2 => exact (Kd.R_reads' HO_13.out).2.1); (case side3 => exact pS ((Kd.R_reads' HO797.out).2.2)); (case side4 => exact (Kd.R_reads' HO797.out).2.1); rintro e w136 ⟨rfl, hb⟩; refine ⟨_, rfl, ?_⟩; have n0_ := Aside0.mk (Kd.R_below (pR HO_10) hb); have n1_ := Aside0.mk (Kd.R_below (pR HO_12) hb); have n2_ := Aside0.mk (Kd.R_below (pR HO_13) hb); have n3_ := Aside0.mk (Kd.R_below (pR HO_14) hb); have n4_ := Aside0.mk (Kd.R_below (pR HO_15) hb); have n5_ := Aside0.mk (Kd.R_below (pR HO_16) hb); have n6_ := Aside0.mk (Kd.R_below (pR HO793) hb); have n7_ := Aside0.mk (Kd.R_below (pR HO797) hb); have n8_ := Aside0.mk (below_step pB hb); clear HO_10; clear HO_12; clear HO_13; clear HO_14; clear HO_15; clear HO_16; clear HO793; clear HO797; clear HB; have HO_10 := n0_; have HO_12 := n1_; have HO_13 := n2_; have HO_14 := n3_; have HO_15 := n4_; have HO_16 := n5_; have HO793 := n6_; have HO797 := n7_; have HB := n8_; clear n0_ n1_ n2_ n3_ n4_ n5_ n6_ n7_ n8_; (try clear hb); (try clear hb2); (try clear hk); (try clear hi)) | ((with_reducible refine gate_callee (f := 18) rfl ?_); refine goesL_ (some 88) rfl rfl Try.func18 pL rfl #[.slice A2 l2.length c2] rfl pM ?_; (with_reducible refine (laws_toIntS.calls kj20 _ _ l2 t799 _ ?side1 ?side2 A53.out).mono ?_); (case side1 => exact pS ((Kd.C_below HR2.out HB.out))); (case side2 => exact HC2.out); rintro e w137 ⟨v800, rfl, ho0, hb⟩; refine ⟨_, rfl, ?_⟩; have n0_ := Aside0.mk (Kd.R_elder' (pR HO_10) (Kd.R_base ho0) hb); have n1_ := Aside0.mk (Kd.R_below (pR HO_12) hb); have n2_ := Aside0.mk (Kd.R_below (pR HO_13) hb); have n3_ := Aside0.mk (Kd.R_elder' (pR HO_14) (Kd.R_base ho0) hb); have n4_ := Aside0.mk (Kd.R_elder' (pR HO_15) (Kd.R_base ho0) hb); have n5_ := Aside0.mk (Kd.R_elder' (pR HO_16) (Kd.R_base ho0) hb); have n6_ := Aside0.mk (Kd.R_below (pR HO793) hb); have n7_ := Aside0.mk (Kd.R_below (pR HO797) hb); have n8_ := Aside0.mk (Kd.R_lower (Kd.R_new' (Kd.R_new' (Kd.R_new' (Kd.R_new' ho0 (Kd.R_lt (pR HO_10))) (Kd.R_lt (pR HO_14))) (Kd.R_lt (pR HO_15))) (Kd.R_lt (pR HO_16))) (below_size pB)); have n9_ := Aside0.mk (below_step pB hb); clear HO_10; clear HO_12; clear HO_13; clear HO_14; clear HO_15; clear HO_16; clear HO793; clear HO797; clear HB; have HO_10 := n0_; have HO_12 := n1_; have HO_13 := n2_; have HO_14 := n3_; have HO_15 := n4_; have HO_16 := n5_; have HO793 := n6_; have HO797 := n7_; have HO801 := n8_; have HB := n9_; clear n0_ n1_ n2_ n3_ n4_ n5_ n6_ n7_ n8_ n9_; (try clear hb); (try clear hb2); (try clear hk); (try clear hi); (try clear ho0); obtain ⟨Ao138, co138, eo138⟩ := Kd.R_slice HO801.out; subst eo138) | ((with_reducible refine gate_callee (f := 21) rfl ?_); refine goesL_ (some 89) rfl rfl Try.func21 pL rfl #[.slice Ao37 t780.length co37, .slice Ao138 t799.length co138] rfl pM ?_; (with_reducible refine (laws_eqIntS.calls kj20 _ _ t780 _ _ t799 false _ ?side1 ?side2 ?side3 ?side4 A54.out).mono ?_); (case side1 => exact pS ((Kd.R_reads' HO_14.out).2.2)); (case side2 => exact (Kd.R_reads' HO_14.out).2.1); (case side3 => exact pS ((Kd.R_reads' HO801.out).2.2)); (case side4 => exact (Kd.R_reads' HO801.out).2.1); rintro e w' ⟨rfl, ⟨nd, rfl⟩⟩; refine ⟨_, rfl, ?_⟩))
           go_ret
           exact ⟨pE, pB⟩
         ·replace c52 := Bool.eq_false_iff.mpr c52
          subst c52
          have H1 : (some false) = some r := by rw [if_neg (show ¬ (false = true) by decide)] at H; exact H
          clear H
          have H := H1
          clear H1
          obtain rfl := Option.some.inj H
          go_wp2_with (first | ((with_reducible refine gate_callee (f := 29) rfl ?_); refine goesL_ (some 78) rfl rfl Try.func29 pL rfl #[.slice A0 l0.length c0] rfl pM ?_; (with_reducible refine (laws_toSwapS.calls kj20 _ _ l0 t791 _ ?side1 ?side2 A47.out).mono ?_); (case side1 => exact pS ((Kd.C_below HR0.out HB.out))); (case side2 => exact HC0.out); rintro e w139 ⟨v792, rfl, ho0, hb⟩; refine ⟨_, rfl, ?_⟩; have n0_ := Aside0.mk (Kd.R_below (pR HO_10) hb); have n1_ := Aside0.mk (Kd.R_elder' (pR HO_12) (Kd.R_base ho0) hb); have n2_ := Aside0.mk (Kd.R_below (pR HO_13) hb); have n3_ := Aside0.mk (Kd.R_below (pR HO_14) hb); have n4_ := Aside0.mk (Kd.R_below (pR HO_15) hb); have n5_ := Aside0.mk (Kd.R_below (pR HO_16) hb); have n6_ := Aside0.mk (Kd.R_lower (Kd.R_new' ho0 (Kd.R_lt (pR HO_12))) (below_size pB)); have n7_ := Aside0.mk (below_step pB hb); clear HO_10; clear HO_12; clear HO_13; clear HO_14; clear HO_15; clear HO_16; clear HB; have HO_10 := n0_; have HO_12 := n1_; have HO_13 := n2_; have HO_14 := n3_; have HO_15 := n4_; have HO_16 := n5_; have HO793 := n6_; have HB := n7_; clear n0_ n1_ n2_ n3_ n4_ n5_ n6_ n7_; (try clear hb); (try clear hb2); (try clear hk); (try clear hi); (try clear ho0); obtain ⟨Ao140, co140, eo140⟩ := Kd.R_slice HO793.out; subst eo140) | ((with_reducible refine gate_callee (f := 30) rfl ?_); refine goesL_ (some 79) rfl rfl Try.func30 pL rfl #[.slice Ao35 t774.length co35, .slice Ao140 t791.length co140] rfl pM ?_; (with_reducible refine (laws_eqSwapS.calls kj20 _ _ t774 _ _ t791 true _ ?side1 ?side2 ?side3 ?side4 A48.out).mono ?_); (case side1 => exact pS ((Kd.R_reads' HO_12.out).2.2)); (case side2 => exact (Kd.R_reads' HO_12.out).2.1); (case side3 => exact pS ((Kd.R_reads' HO793.out).2.2)); (case side4 => exact (Kd.R_reads' HO793.out).2.1); rintro e w141 ⟨rfl, hb⟩; refine ⟨_, rfl, ?_⟩; have n0_ := Aside0.mk (Kd.R_below (pR HO_10) hb); have n1_ := Aside0.mk (Kd.R_below (pR HO_12) hb); have n2_ := Aside0.mk (Kd.R_below (pR HO_13) hb); have n3_ := Aside0.mk (Kd.R_below (pR HO_14) hb); have n4_ := Aside0.mk (Kd.R_below (pR HO_15) hb); have n5_ := Aside0.mk (Kd.R_below (pR HO_16) hb); have n6_ := Aside0.mk (Kd.R_below (pR HO793) hb); have n7_ := Aside0.mk (below_step pB hb); clear HO_10; clear HO_12; clear HO_13; clear HO_14; clear HO_15; clear HO_16; clear HO793; clear HB; have HO_10 := n0_; have HO_12 := n1_; have HO_13 := n2_; have HO_14 := n3_; have HO_15 := n4_; have HO_16 := n5_; have HO793 := n6_; have HB := n7_; clear n0_ n1_ n2_ n3_ n4_ n5_ n6_ n7_; (try clear hb); (try clear hb2); (try clear hk); (try clear hi)) | ((with_reducible refine gate_callee (f := 17) rfl ?_); refine goesL_ (some 83) rfl rfl Try.func17 pL rfl #[.slice A1 l1.length c1] rfl pM ?_; (with_reducible refine (laws_toFoodS.calls kj20 _ _ l1 t795 _ ?side1 ?side2 A50.out).mono ?_); (case side1 => exact pS ((Kd.C_below HR1.out HB.out))); (case side2 => exact HC1.out); rintro e w142 ⟨v796, rfl, ho0, hb⟩; refine ⟨_, rfl, ?_⟩; have n0_ := Aside0.mk (Kd.R_below (pR HO_10) hb); have n1_ := Aside0.mk (Kd.R_below (pR HO_12) hb); have n2_ := Aside0.mk (Kd.R_elder' (pR HO_13) (Kd.R_base ho0) hb); have n3_ := Aside0.mk (Kd.R_below (pR HO_14) hb); have n4_ := Aside0.mk (Kd.R_below (pR HO_15) hb); have n5_ := Aside0.mk (Kd.R_below (pR HO_16) hb); have n6_ := Aside0.mk (Kd.R_below (pR HO793) hb); have n7_ := Aside0.mk (Kd.R_lower (Kd.R_new' ho0 (Kd.R_lt (pR HO_13))) (below_size pB)); have n8_ := Aside0.mk (below_step pB hb); clear HO_10; clear HO_12; clear HO_13; clear HO_14; clear HO_15; clear HO_16; clear HO793; clear HB; have HO_10 := n0_; have HO_12 := n1_; have HO_13 := n2_; have HO_14 := n3_; have HO_15 := n4_; have HO_16 := n5_; have HO793 := n6_; have HO797 := n7_; have HB := n8_; clear n0_ n1_ n2_ n3_ n4_ n5_ n6_ n7_ n8_; (try clear hb); (try clear hb2); (try clear hk); (try clear hi); (try clear ho0); obtain ⟨Ao143, co143, eo143⟩ := Kd.R_slice HO797.out; subst eo143) | ((with_reducible refine gate_callee (f := 20) rfl ?_); refine goesL_ (some 84) rfl rfl Try.func20 pL rfl #[.slice Ao36 t777.length co36, .slice Ao143 t795.length co143] rfl pM ?_; (with_reducible refine (laws_eqFoodS.calls kj20 _ _ t777 _ _ t795 false _ ?side1 ?side2 ?side3 ?side4 A51.out).mono ?_); (case side1 => exact pS ((Kd.R_reads' HO_13.out).2.2)); (case side2 => exact (Kd.R_reads' HO_13.out).2.1); (case side3 => exact pS ((Kd.R_reads' HO797.out).2.2)); (case side4 => exact (Kd.R_reads' HO797.out).2.1); rintro e w144 ⟨rfl, hb⟩; refine ⟨_, rfl, ?_⟩; have n0_ := Aside0.mk (Kd.R_below (pR HO_10) hb); have n1_ := Aside0.mk (Kd.R_below (pR HO_12) hb); have n2_ := Aside0.mk (Kd.R_below (pR HO_13) hb); have n3_ := Aside0.mk (Kd.R_below (pR HO_14) hb); have n4_ := Aside0.mk (Kd.R_below (pR HO_15) hb); have n5_ := Aside0.mk (Kd.R_below (pR HO_16) hb); have n6_ := Aside0.mk (Kd.R_below (pR HO793) hb); have n7_ := Aside0.mk (Kd.R_below (pR HO797) hb); have n8_ := Aside0.mk (below_step pB hb); clear HO_10; clear HO_12; clear HO_13; clear HO_14; clear HO_15; clear HO_16; clear HO793; clear HO797; clear HB; have HO_10 := n0_; have HO_12 := n1_; have HO_13 := n2_; have HO_14 := n3_; have HO_15 := n4_; have HO_16 := n5_; have HO793 := n6_; have HO797 := n7_; have HB := n8_; clear n0_ n1_ n2_ n3_ n4_ n5_ n6_ n7_ n8_; (try clear hb); (try clear hb2); (try clear hk); (try clear hi)))
          go_ret
          exact ⟨pE, pB⟩
        ·replace c49 := Bool.eq_false_iff.mpr c49
         subst c49
         have H1 : (some false) = some r := by rw [if_neg (show ¬ (false = true) by decide)] at H; exact H
         clear H
         have H := H1
         clear H1
         obtain rfl := Option.some.inj H
         go_wp2_with (first | ((with_reducible refine gate_callee (f := 29) rfl ?_); refine goesL_ (some 78) rfl rfl Try.func29 pL rfl #[.slice A0 l0.length c0] rfl pM ?_; (with_reducible refine (laws_toSwapS.calls kj20 _ _ l0 t791 _ ?side1 ?side2 A47.out).mono ?_); (case side1 => exact pS ((Kd.C_below HR0.out HB.out))); (case side2 => exact HC0.out); rintro e w145 ⟨v792, rfl, ho0, hb⟩; refine ⟨_, rfl, ?_⟩; have n0_ := Aside0.mk (Kd.R_below (pR HO_10) hb); have n1_ := Aside0.mk (Kd.R_elder' (pR HO_12) (Kd.R_base ho0) hb); have n2_ := Aside0.mk (Kd.R_below (pR HO_13) hb); have n3_ := Aside0.mk (Kd.R_below (pR HO_14) hb); have n4_ := Aside0.mk (Kd.R_below (pR HO_15) hb); have n5_ := Aside0.mk (Kd.R_below (pR HO_16) hb); have n6_ := Aside0.mk (Kd.R_lower (Kd.R_new' ho0 (Kd.R_lt (pR HO_12))) (below_size pB)); have n7_ := Aside0.mk (below_step pB hb); clear HO_10; clear HO_12; clear HO_13; clear HO_14; clear HO_15; clear HO_16; clear HB; have HO_10 := n0_; have HO_12 := n1_; have HO_13 := n2_; have HO_14 := n3_; have HO_15 := n4_; have HO_16 := n5_; have HO793 := n6_; have HB := n7_; clear n0_ n1_ n2_ n3_ n4_ n5_ n6_ n7_; (try clear hb); (try clear hb2); (try clear hk); (try clear hi); (try clear ho0); obtain ⟨Ao146, co146, eo146⟩ := Kd.R_slice HO793.out; subst eo146) | ((with_reducible refine gate_callee (f := 30) rfl ?_); refine goesL_ (some 79) rfl rfl Try.func30 pL rfl #[.slice Ao35 t774.length co35, .slice Ao146 t791.length co146] rfl pM ?_; (with_reducible refine (laws_eqSwapS.calls kj20 _ _ t774 _ _ t791 false _ ?side1 ?side2 ?side3 ?side4 A48.out).mono ?_); (case side1 => exact pS ((Kd.R_reads' HO_12.out).2.2)); (case side2 => exact (Kd.R_reads' HO_12.out).2.1); (case side3 => exact pS ((Kd.R_reads' HO793.out).2.2)); (case side4 => exact (Kd.R_reads' HO793.out).2.1); rintro e w147 ⟨rfl, hb⟩; refine ⟨_, rfl, ?_⟩; have n0_ := Aside0.mk (Kd.R_below (pR HO_10) hb); have n1_ := Aside0.mk (Kd.R_below (pR HO_12) hb); have n2_ := Aside0.mk (Kd.R_below (pR HO_13) hb); have n3_ := Aside0.mk (Kd.R_below (pR HO_14) hb); have n4_ := Aside0.mk (Kd.R_below (pR HO_15) hb); have n5_ := Aside0.mk (Kd.R_below (pR HO_16) hb); have n6_ := Aside0.mk (Kd.R_below (pR HO793) hb); have n7_ := Aside0.mk (below_step pB hb); clear HO_10; clear HO_12; clear HO_13; clear HO_14; clear HO_15; clear HO_16; clear HO793; clear HB; have HO_10 := n0_; have HO_12 := n1_; have HO_13 := n2_; have HO_14 := n3_; have HO_15 := n4_; have HO_16 := n5_; have HO793 := n6_; have HB := n7_; clear n0_ n1_ n2_ n3_ n4_ n5_ n6_ n7_; (try clear hb); (try clear hb2); (try clear hk); (try clear hi)))
         go_ret
         exact ⟨pE, pB⟩

end Go.Proofs.Ytglddjbcaknnaaa.Q
