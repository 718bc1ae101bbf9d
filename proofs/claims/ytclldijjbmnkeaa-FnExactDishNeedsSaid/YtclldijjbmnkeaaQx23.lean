-- Written by the kit's print.py for all laws of the seat at once (one namespace), by a program of this session.
import Derived.Test.YtclldijjbmnkeaaQx0
import Derived.Test.YtclldijjbmnkeaaQx7
import Derived.Test.YtclldijjbmnkeaaQx9
import Derived.Test.YtclldijjbmnkeaaQx19
import Derived.Test.YtclldijjbmnkeaaQx21
import Derived.Test.YtclldijjbmnkeaaQx22
namespace Go.Proofs.Ytclldijjbmnkeaa.Q
open Go.RowKit Go.Proofs.YtclldijjbmnkeaaW.PrintWords Go.Proofs.YtclldijjbmnkeaaW.PrintLast Go.Proofs.YtclldijjbmnkeaaW.PrintMore
attribute [local go_sem] max2_int min2_int max_two min_two max_three min_three max_four min_four   -- for this text's walks alone
set_option linter.unusedVariables false
set_option linter.unusedSimpArgs false

/-! ### laws_FnExactDishNeeds: function 7 -/
mutual
def laws_FnExactDishNeeds.j0 : Nat → List (S76) → List (S81) → Int → Int → List Int → Bool → List (S29) → List (S63) → List Int → Bool → Bool → Option (Bool)
 | 0, _, _, _, _, _, _, _, _, _, _, _ => none
 | k + 1, x0, x1, x2, x3, x10, x11, x12, x13, x14, x15, x61 => if x61 = true then (some false) else ((laws_toDishS.f k x0).bind fun t643 => ((laws_eqDishS.f k x12 t643).bind fun t646 => (if t646 = true then ((laws_toFoodS.f k x1).bind fun t647 => ((laws_eqFoodS.f k x13 t647).bind fun t650 => (if t650 = true then ((laws_markDishS.f k x12 1).bind fun t651 => ((laws_markFoodS.f k x13 t651).bind fun bt652 => (if bt652.1 < 0 then (laws_FnExactDishNeeds.j1 k x0 x1 x2 x3 x10 x11 x14 true) else ((laws_eqIntS.f k x14 x10).bind fun t654 => (if t654 = true then (laws_FnExactDishNeeds.j1 k x0 x1 x2 x3 x10 x11 x14 (x15 != x11)) else (laws_FnExactDishNeeds.j1 k x0 x1 x2 x3 x10 x11 x14 true)))))) else (some false)))) else (some false))))
def laws_FnExactDishNeeds.j1 : Nat → List (S76) → List (S81) → Int → Int → List Int → Bool → List Int → Bool → Option (Bool)
 | 0, _, _, _, _, _, _, _, _ => none
 | k + 1, x0, x1, x2, x3, x10, x11, x14, x90 => if x90 = true then (some false) else ((laws_markIntS.f k x14 1).bind fun bt655 => ((laws_heldIntS.f k bt655.2 1).bind fun t657 => (if t657 < 0 then (some false) else (if t657 = bt655.1 then ((laws_toDishS.f k x0).bind fun t658 => ((laws_toFoodS.f k x1).bind fun t661 => ((impl_DishNeeds.f k t658 t661 x2 x3).bind fun bt664 => ((laws_eqIntS.f k bt664.1 x10).bind fun t668 => (if t668 = true then (laws_FnExactDishNeeds.j2 k bt655.2 bt655.1 (bt664.2 != x11)) else (laws_FnExactDishNeeds.j2 k bt655.2 bt655.1 true)))))) else (some false)))))
def laws_FnExactDishNeeds.j2 : Nat → List Int → Int → Bool → Option (Bool)
 | 0, _, _, _ => none
 | k + 1, x14, x17, x120 => if x120 = true then (some false) else ((laws_heldIntS.f k x14 1).bind fun t669 => (if t669 < 0 then (some false) else (if t669 = x17 then (some true) else (some false))))
end
def laws_FnExactDishNeeds.f (k : Nat) (l0 : List (S76)) (l1 : List (S81)) (a2 : Int) (a3 : Int) : Option (Bool) := (laws_szDishS.f k l0 1048576).bind fun t620 => (if t620 < 0 then (some true) else ((laws_szFoodS.f l1 t620).bind fun t621 => (if t621 < 0 then (some true) else ((laws_toDishS.f k l0).bind fun t622 => ((laws_toFoodS.f k l1).bind fun t625 => ((spec_DishNeeds.f k t622 t625 a2 a3).bind fun bt628 => ((laws_toDishS.f k l0).bind fun t632 => ((laws_toFoodS.f k l1).bind fun t635 => ((impl_DishNeeds.f k t632 t635 a2 a3).bind fun bt638 => ((laws_eqIntS.f k bt638.1 bt628.1).bind fun t642 => (if t642 = true then (laws_FnExactDishNeeds.j0 k l0 l1 a2 a3 bt628.1 bt628.2 t632 t635 bt638.1 bt638.2 (bt638.2 != bt628.2)) else (laws_FnExactDishNeeds.j0 k l0 l1 a2 a3 bt628.1 bt628.2 t632 t635 bt638.1 bt638.2 true))))))))))))
theorem laws_FnExactDishNeeds.mono_l : ∀ k, (∀ y0 y1 y2 y3 y4 y5 y6 y7 y8 y9 y10, LeO (laws_FnExactDishNeeds.j0 k y0 y1 y2 y3 y4 y5 y6 y7 y8 y9 y10) (laws_FnExactDishNeeds.j0 (k + 1) y0 y1 y2 y3 y4 y5 y6 y7 y8 y9 y10)) ∧ (∀ y0 y1 y2 y3 y4 y5 y6 y7, LeO (laws_FnExactDishNeeds.j1 k y0 y1 y2 y3 y4 y5 y6 y7) (laws_FnExactDishNeeds.j1 (k + 1) y0 y1 y2 y3 y4 y5 y6 y7)) ∧ (∀ y0 y1 y2, LeO (laws_FnExactDishNeeds.j2 k y0 y1 y2) (laws_FnExactDishNeeds.j2 (k + 1) y0 y1 y2))
 | 0 => ⟨fun _ _ _ _ _ _ _ _ _ _ _ r h => by simp [laws_FnExactDishNeeds.j0] at h, fun _ _ _ _ _ _ _ _ r h => by simp [laws_FnExactDishNeeds.j1] at h, fun _ _ _ r h => by simp [laws_FnExactDishNeeds.j2] at h⟩
 | k + 1 => by
  obtain ⟨ih0, ih1, ih2⟩ := laws_FnExactDishNeeds.mono_l k
  refine ⟨?_, ?_, ?_⟩
  ·intro y0 y1 y2 y3 y4 y5 y6 y7 y8 y9 y10
   unfold laws_FnExactDishNeeds.j0
   repeat' first
   | (with_reducible exact ih0 _ _ _ _ _ _ _ _ _ _ _)
   | (with_reducible exact ih1 _ _ _ _ _ _ _ _)
   | (with_reducible exact ih2 _ _ _)
   | (with_reducible exact impl_DishNeeds.mono _ _ _ _ _)
   | (with_reducible exact laws_eqDishS.mono _ _ _)
   | (with_reducible exact laws_eqFoodS.mono _ _ _)
   | (with_reducible exact laws_eqIntS.mono _ _ _)
   | (with_reducible exact laws_heldIntS.mono _ _ _)
   | (with_reducible exact laws_markDishS.mono _ _ _)
   | (with_reducible exact laws_markFoodS.mono _ _ _)
   | (with_reducible exact laws_markIntS.mono _ _ _)
   | (with_reducible exact laws_szDishS.mono _ _ _)
   | (with_reducible exact laws_toDishS.mono _ _)
   | (with_reducible exact laws_toFoodS.mono _ _)
   | (with_reducible exact spec_DishNeeds.mono _ _ _ _ _)
   | (with_reducible exact LeO.refl _)
   | (with_reducible exact LeO.none _)
   | (with_reducible refine LeO.ite ?_ ?_)
   | (with_reducible refine LeO.bind ?_ (fun _ => ?_))
   | exact ih0 _ _ _ _ _ _ _ _ _ _ _
   | exact ih1 _ _ _ _ _ _ _ _
   | exact ih2 _ _ _
   | exact impl_DishNeeds.mono _ _ _ _ _
   | exact laws_eqDishS.mono _ _ _
   | exact laws_eqFoodS.mono _ _ _
   | exact laws_eqIntS.mono _ _ _
   | exact laws_heldIntS.mono _ _ _
   | exact laws_markDishS.mono _ _ _
   | exact laws_markFoodS.mono _ _ _
   | exact laws_markIntS.mono _ _ _
   | exact laws_szDishS.mono _ _ _
   | exact laws_toDishS.mono _ _
   | exact laws_toFoodS.mono _ _
   | exact spec_DishNeeds.mono _ _ _ _ _
   | exact LeO.none _
   | refine LeO.ite ?_ ?_
   | refine LeO.bind ?_ (fun _ => ?_)
  ·intro y0 y1 y2 y3 y4 y5 y6 y7
   unfold laws_FnExactDishNeeds.j1
   repeat' first
   | (with_reducible exact ih0 _ _ _ _ _ _ _ _ _ _ _)
   | (with_reducible exact ih1 _ _ _ _ _ _ _ _)
   | (with_reducible exact ih2 _ _ _)
   | (with_reducible exact impl_DishNeeds.mono _ _ _ _ _)
   | (with_reducible exact laws_eqDishS.mono _ _ _)
   | (with_reducible exact laws_eqFoodS.mono _ _ _)
   | (with_reducible exact laws_eqIntS.mono _ _ _)
   | (with_reducible exact laws_heldIntS.mono _ _ _)
   | (with_reducible exact laws_markDishS.mono _ _ _)
   | (with_reducible exact laws_markFoodS.mono _ _ _)
   | (with_reducible exact laws_markIntS.mono _ _ _)
   | (with_reducible exact laws_szDishS.mono _ _ _)
   | (with_reducible exact laws_toDishS.mono _ _)
   | (with_reducible exact laws_toFoodS.mono _ _)
   | (with_reducible exact spec_DishNeeds.mono _ _ _ _ _)
   | (with_reducible exact LeO.refl _)
   | (with_reducible exact LeO.none _)
   | (with_reducible refine LeO.ite ?_ ?_)
   | (with_reducible refine LeO.bind ?_ (fun _ => ?_))
   | exact ih0 _ _ _ _ _ _ _ _ _ _ _
   | exact ih1 _ _ _ _ _ _ _ _
   | exact ih2 _ _ _
   | exact impl_DishNeeds.mono _ _ _ _ _
   | exact laws_eqDishS.mono _ _ _
   | exact laws_eqFoodS.mono _ _ _
   | exact laws_eqIntS.mono _ _ _
   | exact laws_heldIntS.mono _ _ _
   | exact laws_markDishS.mono _ _ _
   | exact laws_markFoodS.mono _ _ _
   | exact laws_markIntS.mono _ _ _
   | exact laws_szDishS.mono _ _ _
   | exact laws_toDishS.mono _ _
   | exact laws_toFoodS.mono _ _
   | exact spec_DishNeeds.mono _ _ _ _ _
   | exact LeO.none _
   | refine LeO.ite ?_ ?_
   | refine LeO.bind ?_ (fun _ => ?_)
  ·intro y0 y1 y2
   unfold laws_FnExactDishNeeds.j2
   repeat' first
   | (with_reducible exact ih0 _ _ _ _ _ _ _ _ _ _ _)
   | (with_reducible exact ih1 _ _ _ _ _ _ _ _)
   | (with_reducible exact ih2 _ _ _)
   | (with_reducible exact impl_DishNeeds.mono _ _ _ _ _)
   | (with_reducible exact laws_eqDishS.mono _ _ _)
   | (with_reducible exact laws_eqFoodS.mono _ _ _)
   | (with_reducible exact laws_eqIntS.mono _ _ _)
   | (with_reducible exact laws_heldIntS.mono _ _ _)
   | (with_reducible exact laws_markDishS.mono _ _ _)
   | (with_reducible exact laws_markFoodS.mono _ _ _)
   | (with_reducible exact laws_markIntS.mono _ _ _)
   | (with_reducible exact laws_szDishS.mono _ _ _)
   | (with_reducible exact laws_toDishS.mono _ _)
   | (with_reducible exact laws_toFoodS.mono _ _)
   | (with_reducible exact spec_DishNeeds.mono _ _ _ _ _)
   | (with_reducible exact LeO.refl _)
   | (with_reducible exact LeO.none _)
   | (with_reducible refine LeO.ite ?_ ?_)
   | (with_reducible refine LeO.bind ?_ (fun _ => ?_))
   | exact ih0 _ _ _ _ _ _ _ _ _ _ _
   | exact ih1 _ _ _ _ _ _ _ _
   | exact ih2 _ _ _
   | exact impl_DishNeeds.mono _ _ _ _ _
   | exact laws_eqDishS.mono _ _ _
   | exact laws_eqFoodS.mono _ _ _
   | exact laws_eqIntS.mono _ _ _
   | exact laws_heldIntS.mono _ _ _
   | exact laws_markDishS.mono _ _ _
   | exact laws_markFoodS.mono _ _ _
   | exact laws_markIntS.mono _ _ _
   | exact laws_szDishS.mono _ _ _
   | exact laws_toDishS.mono _ _
   | exact laws_toFoodS.mono _ _
   | exact spec_DishNeeds.mono _ _ _ _ _
   | exact LeO.none _
   | refine LeO.ite ?_ ?_
   | refine LeO.bind ?_ (fun _ => ?_)
theorem laws_FnExactDishNeeds.mono : ∀ a0 a1 a2 a3 k, LeO (laws_FnExactDishNeeds.f k a0 a1 a2 a3) (laws_FnExactDishNeeds.f (k + 1) a0 a1 a2 a3) := by
 intro a0 a1 a2 a3 k
 obtain ⟨ih0, ih1, ih2⟩ := laws_FnExactDishNeeds.mono_l k
 unfold laws_FnExactDishNeeds.f
 repeat' first
   | (with_reducible exact ih0 _ _ _ _ _ _ _ _ _ _ _)
   | (with_reducible exact ih1 _ _ _ _ _ _ _ _)
   | (with_reducible exact ih2 _ _ _)
   | (with_reducible exact impl_DishNeeds.mono _ _ _ _ _)
   | (with_reducible exact laws_eqDishS.mono _ _ _)
   | (with_reducible exact laws_eqFoodS.mono _ _ _)
   | (with_reducible exact laws_eqIntS.mono _ _ _)
   | (with_reducible exact laws_heldIntS.mono _ _ _)
   | (with_reducible exact laws_markDishS.mono _ _ _)
   | (with_reducible exact laws_markFoodS.mono _ _ _)
   | (with_reducible exact laws_markIntS.mono _ _ _)
   | (with_reducible exact laws_szDishS.mono _ _ _)
   | (with_reducible exact laws_toDishS.mono _ _)
   | (with_reducible exact laws_toFoodS.mono _ _)
   | (with_reducible exact spec_DishNeeds.mono _ _ _ _ _)
   | (with_reducible exact LeO.refl _)
   | (with_reducible exact LeO.none _)
   | (with_reducible refine LeO.ite ?_ ?_)
   | (with_reducible refine LeO.bind ?_ (fun _ => ?_))
   | exact ih0 _ _ _ _ _ _ _ _ _ _ _
   | exact ih1 _ _ _ _ _ _ _ _
   | exact ih2 _ _ _
   | exact impl_DishNeeds.mono _ _ _ _ _
   | exact laws_eqDishS.mono _ _ _
   | exact laws_eqFoodS.mono _ _ _
   | exact laws_eqIntS.mono _ _ _
   | exact laws_heldIntS.mono _ _ _
   | exact laws_markDishS.mono _ _ _
   | exact laws_markFoodS.mono _ _ _
   | exact laws_markIntS.mono _ _ _
   | exact laws_szDishS.mono _ _ _
   | exact laws_toDishS.mono _ _
   | exact laws_toFoodS.mono _ _
   | exact spec_DishNeeds.mono _ _ _ _ _
   | exact LeO.none _
   | refine LeO.ite ?_ ?_
   | refine LeO.bind ?_ (fun _ => ?_)
theorem F7.q0 {P : Prop} (h : P := by (with_reducible repeat (first | apply Kd.S_alloc | apply Kd.S_drewN | apply Kd.S_drew)); exact HO_12.out) : P := h
theorem F7.q1 {P : Prop} (h : P := by (with_reducible repeat (first | apply Kd.S_alloc | apply Kd.S_drewN | apply Kd.S_drew)); exact HO645.out) : P := h
theorem F7.q2 {P : Prop} (h : P := by (with_reducible repeat (first | apply Kd.S_alloc | apply Kd.S_drewN | apply Kd.S_drew)); exact HO624.out) : P := h
set_option maxHeartbeats 8000000 in
set_option maxRecDepth 100000 in
theorem laws_FnExactDishNeeds.calls (k : Nat) (A0 : Option Addr) (c0 : Nat) (l0 : List (S76)) (A1 : Option Addr) (c1 : Nat) (l1 : List (S81)) (a2 : Int) (a3 : Int) (r : Bool) (w : World) (hr0 : Kd.C k76 w A0 l0.length l0) (hc0 : l0.length ≤ c0) (hr1 : Kd.C k81 w A1 l1.length l1) (hc1 : l1.length ≤ c1) (h : laws_FnExactDishNeeds.f k l0 l1 a2 a3 = some r) :
  Calls Try.prog 7 #[.slice A0 l0.length c0, .slice A1 l1.length c1, .int .i64 a2, .int .i64 a3] w fun e w' => e = .returned (.bool r) ∧ Below w.heap.size w w' := by
 have HR0 := Aside0.mk hr0
 have HC0 := Aside0.mk hc0
 clear hr0 hc0
 have HR1 := Aside0.mk hr1
 have HC1 := Aside0.mk hc1
 clear hr1 hc1
 have HB := Aside0.mk (Below.refl w.heap.size w)
 have H : ((laws_szDishS.f k l0 1048576).bind fun t620 => (if t620 < 0 then (some true) else ((laws_szFoodS.f l1 t620).bind fun t621 => (if t621 < 0 then (some true) else ((laws_toDishS.f k l0).bind fun t622 => ((laws_toFoodS.f k l1).bind fun t625 => ((spec_DishNeeds.f k t622 t625 a2 a3).bind fun bt628 => ((laws_toDishS.f k l0).bind fun t632 => ((laws_toFoodS.f k l1).bind fun t635 => ((impl_DishNeeds.f k t632 t635 a2 a3).bind fun bt638 => ((laws_eqIntS.f k bt638.1 bt628.1).bind fun t642 => (if t642 = true then (laws_FnExactDishNeeds.j0 k l0 l1 a2 a3 bt628.1 bt628.2 t632 t635 bt638.1 bt638.2 (bt638.2 != bt628.2)) else (laws_FnExactDishNeeds.j0 k l0 l1 a2 a3 bt628.1 bt628.2 t632 t635 bt638.1 bt638.2 true))))))))))))) = some r := h
 clear h
 replace H := Option.bind_eq_some_iff.mp H
 obtain ⟨t620, A50, H⟩ := H
 replace H : (if t620 < 0 then (some true) else ((laws_szFoodS.f l1 t620).bind fun t621 => (if t621 < 0 then (some true) else ((laws_toDishS.f k l0).bind fun t622 => ((laws_toFoodS.f k l1).bind fun t625 => ((spec_DishNeeds.f k t622 t625 a2 a3).bind fun bt628 => ((laws_toDishS.f k l0).bind fun t632 => ((laws_toFoodS.f k l1).bind fun t635 => ((impl_DishNeeds.f k t632 t635 a2 a3).bind fun bt638 => ((laws_eqIntS.f k bt638.1 bt628.1).bind fun t642 => (if t642 = true then (laws_FnExactDishNeeds.j0 k l0 l1 a2 a3 bt628.1 bt628.2 t632 t635 bt638.1 bt638.2 (bt638.2 != bt628.2)) else (laws_FnExactDishNeeds.j0 k l0 l1 a2 a3 bt628.1 bt628.2 t632 t635 bt638.1 bt638.2 true)))))))))))) = some r := H
 have A5 := Aside0.mk A50
 clear A50
 by_cases c6 : t620 < 0
 ·rw [if_pos c6] at H
  have c6b0 : decide (t620 < 0) = true := decide_eq_true c6
  clear c6
  obtain rfl := Option.some.inj H
  go_enter Try.func7, Try.ntmps7
  go_wp2_with (first | ((with_reducible refine gate_callee (f := 22) rfl ?_); refine goesL_ (some 23) rfl rfl Try.func22 pL rfl #[.slice A0 l0.length c0, .int .i64 1048576] rfl pM ?_; (with_reducible refine (laws_szDishS.calls k _ _ l0 1048576 t620 _ ?side1 ?side2 A5.out).mono ?_); (case side1 => exact pS (HR0.out)); (case side2 => exact HC0.out); rintro e w7 ⟨rfl, hb⟩; refine ⟨_, rfl, ?_⟩; have n0_ := Aside0.mk (below_step pB hb); clear HB; have HB := n0_; clear n0_; (try clear hb); (try clear hb2); (try clear hk); (try clear hi)))
  go_ret
  exact ⟨pE, pB⟩
 rw [if_neg c6] at H
 have c6b0 : decide (t620 < 0) = false := decide_eq_false c6
 clear c6
 replace H := Option.bind_eq_some_iff.mp H
 obtain ⟨t621, A80, H⟩ := H
 replace H : (if t621 < 0 then (some true) else ((laws_toDishS.f k l0).bind fun t622 => ((laws_toFoodS.f k l1).bind fun t625 => ((spec_DishNeeds.f k t622 t625 a2 a3).bind fun bt628 => ((laws_toDishS.f k l0).bind fun t632 => ((laws_toFoodS.f k l1).bind fun t635 => ((impl_DishNeeds.f k t632 t635 a2 a3).bind fun bt638 => ((laws_eqIntS.f k bt638.1 bt628.1).bind fun t642 => (if t642 = true then (laws_FnExactDishNeeds.j0 k l0 l1 a2 a3 bt628.1 bt628.2 t632 t635 bt638.1 bt638.2 (bt638.2 != bt628.2)) else (laws_FnExactDishNeeds.j0 k l0 l1 a2 a3 bt628.1 bt628.2 t632 t635 bt638.1 bt638.2 true)))))))))) = some r := H
 have A8 := Aside0.mk A80
 clear A80
 by_cases c9 : t621 < 0
 ·rw [if_pos c9] at H
  have c9b0 : decide (t621 < 0) = true := decide_eq_true c9
  clear c9
  obtain rfl := Option.some.inj H
  go_enter Try.func7, Try.ntmps7
  go_wp2_with (first | ((with_reducible refine gate_callee (f := 22) rfl ?_); refine goesL_ (some 23) rfl rfl Try.func22 pL rfl #[.slice A0 l0.length c0, .int .i64 1048576] rfl pM ?_; (with_reducible refine (laws_szDishS.calls k _ _ l0 1048576 t620 _ ?side1 ?side2 A5.out).mono ?_); (case side1 => exact pS (HR0.out)); (case side2 => exact HC0.out); rintro e w10 ⟨rfl, hb⟩; refine ⟨_, rfl, ?_⟩; have n0_ := Aside0.mk (below_step pB hb); clear HB; have HB := n0_; clear n0_; (try clear hb); (try clear hb2); (try clear hk); (try clear hi)) | ((with_reducible refine gate_callee (f := 25) rfl ?_); refine goesL_ (some 28) rfl rfl Try.func25 pL rfl #[.slice A1 l1.length c1, .int .i64 t620] rfl pM ?_; (with_reducible refine (laws_szFoodS.calls _ _ l1 t620 t621 _ ?side1 ?side2 A8.out).mono ?_); (case side1 => exact pS ((Kd.C_below HR1.out HB.out))); (case side2 => exact HC1.out); rintro e w' ⟨rfl, ⟨nd, rfl⟩⟩; refine ⟨_, rfl, ?_⟩))
  go_ret
  exact ⟨pE, pB⟩
 rw [if_neg c9] at H
 have c9b0 : decide (t621 < 0) = false := decide_eq_false c9
 clear c9
 replace H := Option.bind_eq_some_iff.mp H
 obtain ⟨t622, A110, H⟩ := H
 replace H : ((laws_toFoodS.f k l1).bind fun t625 => ((spec_DishNeeds.f k t622 t625 a2 a3).bind fun bt628 => ((laws_toDishS.f k l0).bind fun t632 => ((laws_toFoodS.f k l1).bind fun t635 => ((impl_DishNeeds.f k t632 t635 a2 a3).bind fun bt638 => ((laws_eqIntS.f k bt638.1 bt628.1).bind fun t642 => (if t642 = true then (laws_FnExactDishNeeds.j0 k l0 l1 a2 a3 bt628.1 bt628.2 t632 t635 bt638.1 bt638.2 (bt638.2 != bt628.2)) else (laws_FnExactDishNeeds.j0 k l0 l1 a2 a3 bt628.1 bt628.2 t632 t635 bt638.1 bt638.2 true)))))))) = some r := H
 have A11 := Aside0.mk A110
 clear A110
 replace H := Option.bind_eq_some_iff.mp H
 obtain ⟨t625, A120, H⟩ := H
 replace H : ((spec_DishNeeds.f k t622 t625 a2 a3).bind fun bt628 => ((laws_toDishS.f k l0).bind fun t632 => ((laws_toFoodS.f k l1).bind fun t635 => ((impl_DishNeeds.f k t632 t635 a2 a3).bind fun bt638 => ((laws_eqIntS.f k bt638.1 bt628.1).bind fun t642 => (if t642 = true then (laws_FnExactDishNeeds.j0 k l0 l1 a2 a3 bt628.1 bt628.2 t632 t635 bt638.1 bt638.2 (bt638.2 != bt628.2)) else (laws_FnExactDishNeeds.j0 k l0 l1 a2 a3 bt628.1 bt628.2 t632 t635 bt638.1 bt638.2 true))))))) = some r := H
 have A12 := Aside0.mk A120
 clear A120
 replace H := Option.bind_eq_some_iff.mp H
 obtain ⟨⟨t628, t629⟩, A130, H⟩ := H
 replace H : ((laws_toDishS.f k l0).bind fun t632 => ((laws_toFoodS.f k l1).bind fun t635 => ((impl_DishNeeds.f k t632 t635 a2 a3).bind fun bt638 => ((laws_eqIntS.f k bt638.1 t628).bind fun t642 => (if t642 = true then (laws_FnExactDishNeeds.j0 k l0 l1 a2 a3 t628 t629 t632 t635 bt638.1 bt638.2 (bt638.2 != t629)) else (laws_FnExactDishNeeds.j0 k l0 l1 a2 a3 t628 t629 t632 t635 bt638.1 bt638.2 true)))))) = some r := H
 have A13 := Aside0.mk A130
 clear A130
 replace H := Option.bind_eq_some_iff.mp H
 obtain ⟨t632, A140, H⟩ := H
 replace H : ((laws_toFoodS.f k l1).bind fun t635 => ((impl_DishNeeds.f k t632 t635 a2 a3).bind fun bt638 => ((laws_eqIntS.f k bt638.1 t628).bind fun t642 => (if t642 = true then (laws_FnExactDishNeeds.j0 k l0 l1 a2 a3 t628 t629 t632 t635 bt638.1 bt638.2 (bt638.2 != t629)) else (laws_FnExactDishNeeds.j0 k l0 l1 a2 a3 t628 t629 t632 t635 bt638.1 bt638.2 true))))) = some r := H
 have A14 := Aside0.mk A140
 clear A140
 replace H := Option.bind_eq_some_iff.mp H
 obtain ⟨t635, A150, H⟩ := H
 replace H : ((impl_DishNeeds.f k t632 t635 a2 a3).bind fun bt638 => ((laws_eqIntS.f k bt638.1 t628).bind fun t642 => (if t642 = true then (laws_FnExactDishNeeds.j0 k l0 l1 a2 a3 t628 t629 t632 t635 bt638.1 bt638.2 (bt638.2 != t629)) else (laws_FnExactDishNeeds.j0 k l0 l1 a2 a3 t628 t629 t632 t635 bt638.1 bt638.2 true)))) = some r := H
 have A15 := Aside0.mk A150
 clear A150
 replace H := Option.bind_eq_some_iff.mp H
 obtain ⟨⟨t638, t639⟩, A160, H⟩ := H
 replace H : ((laws_eqIntS.f k t638 t628).bind fun t642 => (if t642 = true then (laws_FnExactDishNeeds.j0 k l0 l1 a2 a3 t628 t629 t632 t635 t638 t639 (t639 != t629)) else (laws_FnExactDishNeeds.j0 k l0 l1 a2 a3 t628 t629 t632 t635 t638 t639 true))) = some r := H
 have A16 := Aside0.mk A160
 clear A160
 have HC17 := Aside0.mk H
 clear H
 go_enter Try.func7, Try.ntmps7
 go_upto_region 12 with (first | ((with_reducible refine gate_callee (f := 22) rfl ?_); refine goesL_ (some 23) rfl rfl Try.func22 pL rfl #[.slice A0 l0.length c0, .int .i64 1048576] rfl pM ?_; (with_reducible refine (laws_szDishS.calls k _ _ l0 1048576 t620 _ ?side1 ?side2 A5.out).mono ?_); (case side1 => exact pS (HR0.out)); (case side2 => exact HC0.out); rintro e w18 ⟨rfl, hb⟩; refine ⟨_, rfl, ?_⟩; have n0_ := Aside0.mk (below_step pB hb); clear HB; have HB := n0_; clear n0_; (try clear hb); (try clear hb2); (try clear hk); (try clear hi)) | ((with_reducible refine gate_callee (f := 25) rfl ?_); refine goesL_ (some 28) rfl rfl Try.func25 pL rfl #[.slice A1 l1.length c1, .int .i64 t620] rfl pM ?_; (with_reducible refine (laws_szFoodS.calls _ _ l1 t620 t621 _ ?side1 ?side2 A8.out).mono ?_); (case side1 => exact pS ((Kd.C_below HR1.out HB.out))); (case side2 => exact HC1.out); rintro e w' ⟨rfl, ⟨nd, rfl⟩⟩; refine ⟨_, rfl, ?_⟩) | ((with_reducible refine gate_callee (f := 23) rfl ?_); refine goesL_ (some 33) rfl rfl Try.func23 pL rfl #[.slice A0 l0.length c0] rfl pM ?_; (with_reducible refine (laws_toDishS.calls k _ _ l0 t622 _ ?side1 ?side2 A11.out).mono ?_); (case side1 => exact pS ((Kd.C_below HR0.out pB))); (case side2 => exact HC0.out); rintro e w19 ⟨v623, rfl, ho0, hb⟩; refine ⟨_, rfl, ?_⟩; have n0_ := Aside0.mk (Kd.S_lower ho0 (below_size pB)); have n1_ := Aside0.mk (below_step pB hb); clear HB; have HO624 := n0_; have HB := n1_; clear n0_ n1_; (try clear hb); (try clear hb2); (try clear hk); (try clear hi); (try clear ho0)) | ((with_reducible refine gate_callee (f := 27) rfl ?_); refine goesL_ (some 35) rfl rfl Try.func27 pL rfl #[.slice A1 l1.length c1] rfl pM ?_; (with_reducible refine (laws_toFoodS.calls k _ _ l1 t625 _ ?side1 ?side2 A12.out).mono ?_); (case side1 => exact pS ((Kd.C_below HR1.out HB.out))); (case side2 => exact HC1.out); rintro e w20 ⟨v626, rfl, ho0, hb⟩; refine ⟨_, rfl, ?_⟩; have n0_ := Aside0.mk (Kd.S_below F7.q2 hb); have n1_ := Aside0.mk (Kd.R_lower ho0 (below_size pB)); have n2_ := Aside0.mk (below_step pB hb); clear HO624; clear HB; have HO624 := n0_; have HO627 := n1_; have HB := n2_; clear n0_ n1_ n2_; (try clear hb); (try clear hb2); (try clear hk); (try clear hi); (try clear ho0); obtain ⟨Ao21, co21, eo21⟩ := Kd.S_slice HO624.out; subst eo21; obtain ⟨Ao22, co22, eo22⟩ := Kd.R_slice HO627.out; subst eo22) | ((with_reducible refine gate_callee (f := 37) rfl ?_); refine goesL_ (some 38) rfl rfl Try.func37 pL rfl #[.slice Ao21 t622.length co21, .slice Ao22 t625.length co22, .int .i64 a2, .int .i64 a3] rfl pM ?_; (with_reducible refine (spec_DishNeeds.calls k _ _ t622 _ _ t625 a2 a3 t628 t629 _ ?side1 ?side2 ?side3 ?side4 A13.out).mono ?_); (case side1 => exact pS ((Kd.S_reads' HO624.out).2.2)); (case side2 => exact (Kd.S_reads' HO624.out).2.1); (case side3 => exact pS ((Kd.R_reads' HO627.out).2.2)); (case side4 => exact (Kd.R_reads' HO627.out).2.1); rintro e w23 ⟨v630, rfl, ho0, hb⟩; refine ⟨_, rfl, ?_⟩; have n0_ := Aside0.mk (Kd.S_below F7.q2 hb); have n1_ := Aside0.mk (Kd.R_below (pR HO627) hb); have n2_ := Aside0.mk (Kd.R_lower ho0 (below_size pB)); have n3_ := Aside0.mk (below_step pB hb); clear HO624; clear HO627; clear HB; have HO624 := n0_; have HO627 := n1_; have HO631 := n2_; have HB := n3_; clear n0_ n1_ n2_ n3_; (try clear hb); (try clear hb2); (try clear hk); (try clear hi); (try clear ho0)) | ((with_reducible refine gate_callee (f := 23) rfl ?_); refine goesL_ (some 42) rfl rfl Try.func23 pL rfl #[.slice A0 l0.length c0] rfl pM ?_; (with_reducible refine (laws_toDishS.calls k _ _ l0 t632 _ ?side1 ?side2 A14.out).mono ?_); (case side1 => exact pS ((Kd.C_below HR0.out HB.out))); (case side2 => exact HC0.out); rintro e w24 ⟨v633, rfl, ho0, hb⟩; refine ⟨_, rfl, ?_⟩; have n0_ := Aside0.mk (Kd.S_elder' F7.q2 (Kd.S_base ho0) hb); have n1_ := Aside0.mk (Kd.R_below (pR HO627) hb); have n2_ := Aside0.mk (Kd.R_below (pR HO631) hb); have n3_ := Aside0.mk (Kd.S_lower (Kd.S_new' ho0 (Kd.S_lt F7.q2)) (below_size pB)); have n4_ := Aside0.mk (below_step pB hb); clear HO624; clear HO627; clear HO631; clear HB; have HO624 := n0_; have HO627 := n1_; have HO631 := n2_; have HO634 := n3_; have HB := n4_; clear n0_ n1_ n2_ n3_ n4_; (try clear hb); (try clear hb2); (try clear hk); (try clear hi); (try clear ho0)) | ((with_reducible refine gate_callee (f := 27) rfl ?_); refine goesL_ (some 44) rfl rfl Try.func27 pL rfl #[.slice A1 l1.length c1] rfl pM ?_; (with_reducible refine (laws_toFoodS.calls k _ _ l1 t635 _ ?side1 ?side2 A15.out).mono ?_); (case side1 => exact pS ((Kd.C_below HR1.out HB.out))); (case side2 => exact HC1.out); rintro e w25 ⟨v636, rfl, ho0, hb⟩; refine ⟨_, rfl, ?_⟩; have n0_ := Aside0.mk (Kd.S_below F7.q2 hb); have n1_ := Aside0.mk (Kd.R_elder' (pR HO627) (Kd.R_base ho0) hb); have n2_ := Aside0.mk (Kd.R_below (pR HO631) hb); have n3_ := Aside0.mk (Kd.S_below (by (with_reducible repeat (first | apply Kd.S_alloc | apply Kd.S_drewN | apply Kd.S_drew)); exact HO634.out) hb); have n4_ := Aside0.mk (Kd.R_lower (Kd.R_new' ho0 (Kd.R_lt (pR HO627))) (below_size pB)); have n5_ := Aside0.mk (below_step pB hb); clear HO624; clear HO627; clear HO631; clear HO634; clear HB; have HO624 := n0_; have HO627 := n1_; have HO631 := n2_; have HO634 := n3_; have HO637 := n4_; have HB := n5_; clear n0_ n1_ n2_ n3_ n4_ n5_; (try clear hb); (try clear hb2); (try clear hk); (try clear hi); (try clear ho0); obtain ⟨Ao26, co26, eo26⟩ := Kd.S_slice HO634.out; subst eo26; obtain ⟨Ao27, co27, eo27⟩ := Kd.R_slice HO637.out; subst eo27) | ((with_reducible refine gate_callee (f := 38) rfl ?_); refine goesL_ (some 50) rfl rfl Try.func38 pL rfl #[.slice Ao26 t632.length co26, .slice Ao27 t635.length co27, .int .i64 a2, .int .i64 a3] rfl pM ?_; (with_reducible refine (impl_DishNeeds.calls k _ _ t632 _ _ t635 a2 a3 t638 t639 _ ?side1 ?side2 ?side3 ?side4 A16.out).mono ?_); (case side1 => exact pS ((Kd.S_reads' HO634.out).2.2)); (case side2 => exact (Kd.S_reads' HO634.out).2.1); (case side3 => exact pS ((Kd.R_reads' HO637.out).2.2)); (case side4 => exact (Kd.R_reads' HO637.out).2.1); rintro e w28 ⟨v640, rfl, ho0, hb⟩; refine ⟨_, rfl, ?_⟩; have n0_ := Aside0.mk (Kd.S_below F7.q2 hb); have n1_ := Aside0.mk (Kd.R_below (pR HO627) hb); have n2_ := Aside0.mk (Kd.R_elder' (pR HO631) (Kd.R_base ho0) hb); have n3_ := Aside0.mk (Kd.S_below (by (with_reducible repeat (first | apply Kd.S_alloc | apply Kd.S_drewN | apply Kd.S_drew)); exact HO634.out) hb); have n4_ := Aside0.mk (Kd.R_below (pR HO637) hb); have n5_ := Aside0.mk (Kd.R_lower (Kd.R_new' ho0 (Kd.R_lt (pR HO631))) (below_size pB)); have n6_ := Aside0.mk (below_step pB hb); clear HO624; clear HO627; clear HO631; clear HO634; clear HO637; clear HB; have HO624 := n0_; have HO627 := n1_; have HO631 := n2_; have HO634 := n3_; have HO637 := n4_; have HO641 := n5_; have HB := n6_; clear n0_ n1_ n2_ n3_ n4_ n5_ n6_; (try clear hb); (try clear hb2); (try clear hk); (try clear hi); (try clear ho0)))
 (try simp only [Act.put, List.setIfInBounds_toArray, List.set_cons_zero, List.set_cons_succ])
 go_cut [61] (fun v61 wc => ∃ (kq : Nat) (x61_16 : Bool), v61 = .bool x61_16 ∧ Aside0 (laws_FnExactDishNeeds.j0 kq l0 l1 a2 a3 t628 t629 t632 t635 t638 t639 x61_16 = some r) ∧ Aside0 (kq ≤ k) ∧ Aside0 (Kd.R (Kd.int .i64) 3 wc w.heap.size (fun k_ => some k_ ≠ (v640 : Value).ownBlock) v630 t628) ∧ Aside0 (Kd.S k29 29 wc w.heap.size (fun _ => True) (.slice Ao26 t632.length co26) t632) ∧ Aside0 (Kd.R k63 63 wc w.heap.size (fun _ => True) (.slice Ao27 t635.length co27) t635) ∧ Aside0 (Kd.R (Kd.int .i64) 3 wc w.heap.size (fun k_ => some k_ ≠ (v630 : Value).ownBlock) v640 t638) ∧ Aside0 (Below w.heap.size w wc))
 case first =>
  have H := HC17.out
  clear HC17
  replace H := Option.bind_eq_some_iff.mp H
  obtain ⟨t642, A290, H⟩ := H
  replace H : (if t642 = true then (laws_FnExactDishNeeds.j0 k l0 l1 a2 a3 t628 t629 t632 t635 t638 t639 (t639 != t629)) else (laws_FnExactDishNeeds.j0 k l0 l1 a2 a3 t628 t629 t632 t635 t638 t639 true)) = some r := H
  have A29 := Aside0.mk A290
  clear A290
  by_cases c30 : t642 = true
  ·subst c30
   have H1 : (laws_FnExactDishNeeds.j0 k l0 l1 a2 a3 t628 t629 t632 t635 t638 t639 (t639 != t629)) = some r := by rw [if_pos rfl] at H; exact H
   clear H
   have H := H1
   clear H1
   have H' := Aside0.mk H
   clear H
   obtain ⟨Ao31, co31, eo31⟩ := Kd.R_slice HO641.out
   subst eo31
   obtain ⟨Ao32, co32, eo32⟩ := Kd.R_slice HO631.out
   subst eo32
   go_wp2_with (first | ((with_reducible refine gate_callee (f := 32) rfl ?_); refine goesL_ (some 55) rfl rfl Try.func32 pL rfl #[.slice Ao31 t638.length co31, .slice Ao32 t628.length co32] rfl pM ?_; (with_reducible refine (laws_eqIntS.calls k _ _ t638 _ _ t628 true _ ?side1 ?side2 ?side3 ?side4 A29.out).mono ?_); (case side1 => exact pS ((Kd.R_reads' HO641.out).2.2)); (case side2 => exact (Kd.R_reads' HO641.out).2.1); (case side3 => exact pS ((Kd.R_reads' HO631.out).2.2)); (case side4 => exact (Kd.R_reads' HO631.out).2.1); rintro e w' ⟨rfl, ⟨nd, rfl⟩⟩; refine ⟨_, rfl, ?_⟩))
   go_meet
   case rel => exact ⟨_, ((t639 != t629)), pF, H', ⟨by first | omega | exact Nat.le_refl _⟩, ⟨by (with_reducible repeat (first | apply Kd.R_alloc | apply Kd.R_drewN | apply Kd.R_drew)); exact Kd.R_mono HO631.out (fun _ hk => hk.2)⟩, ⟨by (with_reducible repeat (first | apply Kd.S_alloc | apply Kd.S_drewN | apply Kd.S_drew)); exact Kd.S_mono HO634.out (fun _ hk => trivial)⟩, ⟨by (with_reducible repeat (first | apply Kd.R_alloc | apply Kd.R_drewN | apply Kd.R_drew)); exact Kd.R_mono HO637.out (fun _ hk => trivial)⟩, ⟨by (with_reducible repeat (first | apply Kd.R_alloc | apply Kd.R_drewN | apply Kd.R_drew)); exact Kd.R_mono HO641.out (fun _ hk => hk.2)⟩, ⟨pB⟩⟩
  replace c30 := Bool.eq_false_iff.mpr c30
  subst c30
  have H1 : (laws_FnExactDishNeeds.j0 k l0 l1 a2 a3 t628 t629 t632 t635 t638 t639 true) = some r := by rw [if_neg (show ¬ (false = true) by decide)] at H; exact H
  clear H
  have H := H1
  clear H1
  have H' := Aside0.mk H
  clear H
  obtain ⟨Ao33, co33, eo33⟩ := Kd.R_slice HO641.out
  subst eo33
  obtain ⟨Ao34, co34, eo34⟩ := Kd.R_slice HO631.out
  subst eo34
  go_wp2_with (first | ((with_reducible refine gate_callee (f := 32) rfl ?_); refine goesL_ (some 55) rfl rfl Try.func32 pL rfl #[.slice Ao33 t638.length co33, .slice Ao34 t628.length co34] rfl pM ?_; (with_reducible refine (laws_eqIntS.calls k _ _ t638 _ _ t628 false _ ?side1 ?side2 ?side3 ?side4 A29.out).mono ?_); (case side1 => exact pS ((Kd.R_reads' HO641.out).2.2)); (case side2 => exact (Kd.R_reads' HO641.out).2.1); (case side3 => exact pS ((Kd.R_reads' HO631.out).2.2)); (case side4 => exact (Kd.R_reads' HO631.out).2.1); rintro e w' ⟨rfl, ⟨nd, rfl⟩⟩; refine ⟨_, rfl, ?_⟩))
  go_meet
  case rel => exact ⟨_, (true), pF, H', ⟨by first | omega | exact Nat.le_refl _⟩, ⟨by (with_reducible repeat (first | apply Kd.R_alloc | apply Kd.R_drewN | apply Kd.R_drew)); exact Kd.R_mono HO631.out (fun _ hk => hk.2)⟩, ⟨by (with_reducible repeat (first | apply Kd.S_alloc | apply Kd.S_drewN | apply Kd.S_drew)); exact Kd.S_mono HO634.out (fun _ hk => trivial)⟩, ⟨by (with_reducible repeat (first | apply Kd.R_alloc | apply Kd.R_drewN | apply Kd.R_drew)); exact Kd.R_mono HO637.out (fun _ hk => trivial)⟩, ⟨by (with_reducible repeat (first | apply Kd.R_alloc | apply Kd.R_drewN | apply Kd.R_drew)); exact Kd.R_mono HO641.out (fun _ hk => hk.2)⟩, ⟨pB⟩⟩
 case rest =>
  clear HC17
  try clear c1
  try clear c2
  try clear p2
  try clear c3
  try clear c6
  try clear c6b0
  try clear c7
  try clear c9
  try clear c9b0
  try clear c22
  try clear c23
  try clear c25
  try clear c27
  try clear c30
  try clear c32
  obtain ⟨kq, x61_16, rfl, HA, HJ16, HO_10, HO_12, HO_13, HO_14, HB⟩ := hcut
  cases kq with
  | zero => exact absurd HA.out (by simp [laws_FnExactDishNeeds.j0])
  | succ kj16 =>
   have H := HA.out
   clear HA
   simp only [laws_FnExactDishNeeds.j0] at H
   by_cases c35 : x61_16 = true
   ·subst c35
    have H1 : (some false) = some r := by rw [if_pos rfl] at H; exact H
    clear H
    have H := H1
    clear H1
    obtain rfl := Option.some.inj H
    go_wp2
    go_ret
    exact ⟨pE, pB⟩
   replace c35 := Bool.eq_false_iff.mpr c35
   subst c35
   have H1 : ((laws_toDishS.f kj16 l0).bind fun t643 => ((laws_eqDishS.f kj16 t632 t643).bind fun t646 => (if t646 = true then ((laws_toFoodS.f kj16 l1).bind fun t647 => ((laws_eqFoodS.f kj16 t635 t647).bind fun t650 => (if t650 = true then ((laws_markDishS.f kj16 t632 1).bind fun t651 => ((laws_markFoodS.f kj16 t635 t651).bind fun bt652 => (if bt652.1 < 0 then (laws_FnExactDishNeeds.j1 kj16 l0 l1 a2 a3 t628 t629 t638 true) else ((laws_eqIntS.f kj16 t638 t628).bind fun t654 => (if t654 = true then (laws_FnExactDishNeeds.j1 kj16 l0 l1 a2 a3 t628 t629 t638 (t639 != t629)) else (laws_FnExactDishNeeds.j1 kj16 l0 l1 a2 a3 t628 t629 t638 true)))))) else (some false)))) else (some false)))) = some r := by rw [if_neg (show ¬ (false = true) by decide)] at H; exact H
   clear H
   have H := H1
   clear H1
   replace H := Option.bind_eq_some_iff.mp H
   obtain ⟨t643, A360, H⟩ := H
   replace H : ((laws_eqDishS.f kj16 t632 t643).bind fun t646 => (if t646 = true then ((laws_toFoodS.f kj16 l1).bind fun t647 => ((laws_eqFoodS.f kj16 t635 t647).bind fun t650 => (if t650 = true then ((laws_markDishS.f kj16 t632 1).bind fun t651 => ((laws_markFoodS.f kj16 t635 t651).bind fun bt652 => (if bt652.1 < 0 then (laws_FnExactDishNeeds.j1 kj16 l0 l1 a2 a3 t628 t629 t638 true) else ((laws_eqIntS.f kj16 t638 t628).bind fun t654 => (if t654 = true then (laws_FnExactDishNeeds.j1 kj16 l0 l1 a2 a3 t628 t629 t638 (t639 != t629)) else (laws_FnExactDishNeeds.j1 kj16 l0 l1 a2 a3 t628 t629 t638 true)))))) else (some false)))) else (some false))) = some r := H
   have A36 := Aside0.mk A360
   clear A360
   replace H := Option.bind_eq_some_iff.mp H
   obtain ⟨t646, A370, H⟩ := H
   replace H : (if t646 = true then ((laws_toFoodS.f kj16 l1).bind fun t647 => ((laws_eqFoodS.f kj16 t635 t647).bind fun t650 => (if t650 = true then ((laws_markDishS.f kj16 t632 1).bind fun t651 => ((laws_markFoodS.f kj16 t635 t651).bind fun bt652 => (if bt652.1 < 0 then (laws_FnExactDishNeeds.j1 kj16 l0 l1 a2 a3 t628 t629 t638 true) else ((laws_eqIntS.f kj16 t638 t628).bind fun t654 => (if t654 = true then (laws_FnExactDishNeeds.j1 kj16 l0 l1 a2 a3 t628 t629 t638 (t639 != t629)) else (laws_FnExactDishNeeds.j1 kj16 l0 l1 a2 a3 t628 t629 t638 true)))))) else (some false)))) else (some false)) = some r := H
   have A37 := Aside0.mk A370
   clear A370
   rcases (Classical.em (t646 = true)).symm with c38 | c38
   ·replace c38 := Bool.eq_false_iff.mpr c38
    subst c38
    have H1 : (some false) = some r := by rw [if_neg (show ¬ (false = true) by decide)] at H; exact H
    clear H
    have H := H1
    clear H1
    obtain rfl := Option.some.inj H
    go_wp2_with (first | ((with_reducible refine gate_callee (f := 23) rfl ?_); refine goesL_ (some 64) rfl rfl Try.func23 pL rfl #[.slice A0 l0.length c0] rfl pM ?_; (with_reducible refine (laws_toDishS.calls kj16 _ _ l0 t643 _ ?side1 ?side2 A36.out).mono ?_); (case side1 => exact pS ((Kd.C_below HR0.out HB.out))); (case side2 => exact HC0.out); rintro e w96 ⟨v644, rfl, ho0, hb⟩; refine ⟨_, rfl, ?_⟩; have n0_ := Aside0.mk (Kd.R_below (pR HO_10) hb); have n1_ := Aside0.mk (Kd.S_elder' F7.q0 (Kd.S_base ho0) hb); have n2_ := Aside0.mk (Kd.R_below (pR HO_13) hb); have n3_ := Aside0.mk (Kd.R_below (pR HO_14) hb); have n4_ := Aside0.mk (Kd.S_lower (Kd.S_new' ho0 (Kd.S_lt F7.q0)) (below_size pB)); have n5_ := Aside0.mk (below_step pB hb); clear HO_10; clear HO_12; clear HO_13; clear HO_14; clear HB; have HO_10 := n0_; have HO_12 := n1_; have HO_13 := n2_; have HO_14 := n3_; have HO645 := n4_; have HB := n5_; clear n0_ n1_ n2_ n3_ n4_ n5_; (try clear hb); (try clear hb2); (try clear hk); (try clear hi); (try clear ho0); obtain ⟨Ao97, co97, eo97⟩ := Kd.S_slice HO645.out; subst eo97) | ((with_reducible refine gate_callee (f := 24) rfl ?_); refine goesL_ (some 65) rfl rfl Try.func24 pL rfl #[.slice Ao26 t632.length co26, .slice Ao97 t643.length co97] rfl pM ?_; (with_reducible refine (laws_eqDishS.calls kj16 _ _ t632 _ _ t643 false _ ?side1 ?side2 ?side3 ?side4 A37.out).mono ?_); (case side1 => exact pS ((Kd.S_reads' HO_12.out).2.2)); (case side2 => exact (Kd.S_reads' HO_12.out).2.1); (case side3 => exact pS ((Kd.S_reads' HO645.out).2.2)); (case side4 => exact (Kd.S_reads' HO645.out).2.1); rintro e w98 ⟨rfl, hb⟩; refine ⟨_, rfl, ?_⟩; have n0_ := Aside0.mk (Kd.R_below (pR HO_10) hb); have n1_ := Aside0.mk (Kd.S_below F7.q0 hb); have n2_ := Aside0.mk (Kd.R_below (pR HO_13) hb); have n3_ := Aside0.mk (Kd.R_below (pR HO_14) hb); have n4_ := Aside0.mk (Kd.S_below F7.q1 hb); have n5_ := Aside0.mk (below_step pB hb); clear HO_10; clear HO_12; clear HO_13; clear HO_14; clear HO645; clear HB; have HO_10 := n0_; have HO_12 := n1_; have HO_13 := n2_; have HO_14 := n3_; have HO645 := n4_; have HB := n5_; clear n0_ n1_ n2_ n3_ n4_ n5_; (try clear hb); (try clear hb2); (try clear hk); (try clear hi)))
    go_ret
    exact ⟨pE, pB⟩

   subst c38
   have H1 : ((laws_toFoodS.f kj16 l1).bind fun t647 => ((laws_eqFoodS.f kj16 t635 t647).bind fun t650 => (if t650 = true then ((laws_markDishS.f kj16 t632 1).bind fun t651 => ((laws_markFoodS.f kj16 t635 t651).bind fun bt652 => (if bt652.1 < 0 then (laws_FnExactDishNeeds.j1 kj16 l0 l1 a2 a3 t628 t629 t638 true) else ((laws_eqIntS.f kj16 t638 t628).bind fun t654 => (if t654 = true then (laws_FnExactDishNeeds.j1 kj16 l0 l1 a2 a3 t628 t629 t638 (t639 != t629)) else (laws_FnExactDishNeeds.j1 kj16 l0 l1 a2 a3 t628 t629 t638 true)))))) else (some false)))) = some r := by rw [if_pos rfl] at H; exact H
   clear H
   have H := H1
   clear H1
   replace H := Option.bind_eq_some_iff.mp H
   obtain ⟨t647, A390, H⟩ := H
   replace H : ((laws_eqFoodS.f kj16 t635 t647).bind fun t650 => (if t650 = true then ((laws_markDishS.f kj16 t632 1).bind fun t651 => ((laws_markFoodS.f kj16 t635 t651).bind fun bt652 => (if bt652.1 < 0 then (laws_FnExactDishNeeds.j1 kj16 l0 l1 a2 a3 t628 t629 t638 true) else ((laws_eqIntS.f kj16 t638 t628).bind fun t654 => (if t654 = true then (laws_FnExactDishNeeds.j1 kj16 l0 l1 a2 a3 t628 t629 t638 (t639 != t629)) else (laws_FnExactDishNeeds.j1 kj16 l0 l1 a2 a3 t628 t629 t638 true)))))) else (some false))) = some r := H
   have A39 := Aside0.mk A390
   clear A390
   replace H := Option.bind_eq_some_iff.mp H
   obtain ⟨t650, A400, H⟩ := H
   replace H : (if t650 = true then ((laws_markDishS.f kj16 t632 1).bind fun t651 => ((laws_markFoodS.f kj16 t635 t651).bind fun bt652 => (if bt652.1 < 0 then (laws_FnExactDishNeeds.j1 kj16 l0 l1 a2 a3 t628 t629 t638 true) else ((laws_eqIntS.f kj16 t638 t628).bind fun t654 => (if t654 = true then (laws_FnExactDishNeeds.j1 kj16 l0 l1 a2 a3 t628 t629 t638 (t639 != t629)) else (laws_FnExactDishNeeds.j1 kj16 l0 l1 a2 a3 t628 t629 t638 true)))))) else (some false)) = some r := H
   have A40 := Aside0.mk A400
   clear A400
   rcases (Classical.em (t650 = true)).symm with c41 | c41
   ·replace c41 := Bool.eq_false_iff.mpr c41
    subst c41
    have H1 : (some false) = some r := by rw [if_neg (show ¬ (false = true) by decide)] at H; exact H
    clear H
    have H := H1
    clear H1
    obtain rfl := Option.some.inj H
    go_wp2_with (first | ((with_reducible refine gate_callee (f := 23) rfl ?_); refine goesL_ (some 64) rfl rfl Try.func23 pL rfl #[.slice A0 l0.length c0] rfl pM ?_; (with_reducible refine (laws_toDishS.calls kj16 _ _ l0 t643 _ ?side1 ?side2 A36.out).mono ?_); (case side1 => exact pS ((Kd.C_below HR0.out HB.out))); (case side2 => exact HC0.out); rintro e w90 ⟨v644, rfl, ho0, hb⟩; refine ⟨_, rfl, ?_⟩; have n0_ := Aside0.mk (Kd.R_below (pR HO_10) hb); have n1_ := Aside0.mk (Kd.S_elder' F7.q0 (Kd.S_base ho0) hb); have n2_ := Aside0.mk (Kd.R_below (pR HO_13) hb); have n3_ := Aside0.mk (Kd.R_below (pR HO_14) hb); have n4_ := Aside0.mk (Kd.S_lower (Kd.S_new' ho0 (Kd.S_lt F7.q0)) (below_size pB)); have n5_ := Aside0.mk (below_step pB hb); clear HO_10; clear HO_12; clear HO_13; clear HO_14; clear HB; have HO_10 := n0_; have HO_12 := n1_; have HO_13 := n2_; have HO_14 := n3_; have HO645 := n4_; have HB := n5_; clear n0_ n1_ n2_ n3_ n4_ n5_; (try clear hb); (try clear hb2); (try clear hk); (try clear hi); (try clear ho0); obtain ⟨Ao91, co91, eo91⟩ := Kd.S_slice HO645.out; subst eo91) | ((with_reducible refine gate_callee (f := 24) rfl ?_); refine goesL_ (some 65) rfl rfl Try.func24 pL rfl #[.slice Ao26 t632.length co26, .slice Ao91 t643.length co91] rfl pM ?_; (with_reducible refine (laws_eqDishS.calls kj16 _ _ t632 _ _ t643 true _ ?side1 ?side2 ?side3 ?side4 A37.out).mono ?_); (case side1 => exact pS ((Kd.S_reads' HO_12.out).2.2)); (case side2 => exact (Kd.S_reads' HO_12.out).2.1); (case side3 => exact pS ((Kd.S_reads' HO645.out).2.2)); (case side4 => exact (Kd.S_reads' HO645.out).2.1); rintro e w92 ⟨rfl, hb⟩; refine ⟨_, rfl, ?_⟩; have n0_ := Aside0.mk (Kd.R_below (pR HO_10) hb); have n1_ := Aside0.mk (Kd.S_below F7.q0 hb); have n2_ := Aside0.mk (Kd.R_below (pR HO_13) hb); have n3_ := Aside0.mk (Kd.R_below (pR HO_14) hb); have n4_ := Aside0.mk (Kd.S_below F7.q1 hb); have n5_ := Aside0.mk (below_step pB hb); clear HO_10; clear HO_12; clear HO_13; clear HO_14; clear HO645; clear HB; have HO_10 := n0_; have HO_12 := n1_; have HO_13 := n2_; have HO_14 := n3_; have HO645 := n4_; have HB := n5_; clear n0_ n1_ n2_ n3_ n4_ n5_; (try clear hb); (try clear hb2); (try clear hk); (try clear hi)) | ((with_reducible refine gate_callee (f := 27) rfl ?_); refine goesL_ (some 69) rfl rfl Try.func27 pL rfl #[.slice A1 l1.length c1] rfl pM ?_; (with_reducible refine (laws_toFoodS.calls kj16 _ _ l1 t647 _ ?side1 ?side2 A39.out).mono ?_); (case side1 => exact pS ((Kd.C_below HR1.out HB.out))); (case side2 => exact HC1.out); rintro e w93 ⟨v648, rfl, ho0, hb⟩; refine ⟨_, rfl, ?_⟩; have n0_ := Aside0.mk (Kd.R_below (pR HO_10) hb); have n1_ := Aside0.mk (Kd.S_below F7.q0 hb); have n2_ := Aside0.mk (Kd.R_elder' (pR HO_13) (Kd.R_base ho0) hb); have n3_ := Aside0.mk (Kd.R_below (pR HO_14) hb); have n4_ := Aside0.mk (Kd.S_below F7.q1 hb); have n5_ := Aside0.mk (Kd.R_lower (Kd.R_new' ho0 (Kd.R_lt (pR HO_13))) (below_size pB)); have n6_ := Aside0.mk (below_step pB hb); clear HO_10; clear HO_12; clear HO_13; clear HO_14; clear HO645; clear HB; have HO_10 := n0_; have HO_12 := n1_; have HO_13 := n2_; have HO_14 := n3_; have HO645 := n4_; have HO649 := n5_; have HB := n6_; clear n0_ n1_ n2_ n3_ n4_ n5_ n6_; (try clear hb); (try clear hb2); (try clear hk); (try clear hi); (try clear ho0); obtain ⟨Ao94, co94, eo94⟩ := Kd.R_slice HO649.out; subst eo94) | ((with_reducible refine gate_callee (f := 29) rfl ?_); refine goesL_ (some 70) rfl rfl Try.func29 pL rfl #[.slice Ao27 t635.length co27, .slice Ao94 t647.length co94] rfl pM ?_; (with_reducible refine (laws_eqFoodS.calls kj16 _ _ t635 _ _ t647 false _ ?side1 ?side2 ?side3 ?side4 A40.out).mono ?_); (case side1 => exact pS ((Kd.R_reads' HO_13.out).2.2)); (case side2 => exact (Kd.R_reads' HO_13.out).2.1); (case side3 => exact pS ((Kd.R_reads' HO649.out).2.2)); (case side4 => exact (Kd.R_reads' HO649.out).2.1); rintro e w95 ⟨rfl, hb⟩; refine ⟨_, rfl, ?_⟩; have n0_ := Aside0.mk (Kd.R_below (pR HO_10) hb); have n1_ := Aside0.mk (Kd.S_below F7.q0 hb); have n2_ := Aside0.mk (Kd.R_below (pR HO_13) hb); have n3_ := Aside0.mk (Kd.R_below (pR HO_14) hb); have n4_ := Aside0.mk (Kd.S_below F7.q1 hb); have n5_ := Aside0.mk (Kd.R_below (pR HO649) hb); have n6_ := Aside0.mk (below_step pB hb); clear HO_10; clear HO_12; clear HO_13; clear HO_14; clear HO645; clear HO649; clear HB; have HO_10 := n0_; have HO_12 := n1_; have HO_13 := n2_; have HO_14 := n3_; have HO645 := n4_; have HO649 := n5_; have HB := n6_; clear n0_ n1_ n2_ n3_ n4_ n5_ n6_; (try clear hb); (try clear hb2); (try clear hk); (try clear hi)))
    go_ret
    exact ⟨pE, pB⟩
   subst c41
   have H1 : ((laws_markDishS.f kj16 t632 1).bind fun t651 => ((laws_markFoodS.f kj16 t635 t651).bind fun bt652 => (if bt652.1 < 0 then (laws_FnExactDishNeeds.j1 kj16 l0 l1 a2 a3 t628 t629 t638 true) else ((laws_eqIntS.f kj16 t638 t628).bind fun t654 => (if t654 = true then (laws_FnExactDishNeeds.j1 kj16 l0 l1 a2 a3 t628 t629 t638 (t639 != t629)) else (laws_FnExactDishNeeds.j1 kj16 l0 l1 a2 a3 t628 t629 t638 true)))))) = some r := by rw [if_pos rfl] at H; exact H
   clear H
   have H := H1
   clear H1
   replace H := Option.bind_eq_some_iff.mp H
   obtain ⟨t651, A420, H⟩ := H
   replace H : ((laws_markFoodS.f kj16 t635 t651).bind fun bt652 => (if bt652.1 < 0 then (laws_FnExactDishNeeds.j1 kj16 l0 l1 a2 a3 t628 t629 t638 true) else ((laws_eqIntS.f kj16 t638 t628).bind fun t654 => (if t654 = true then (laws_FnExactDishNeeds.j1 kj16 l0 l1 a2 a3 t628 t629 t638 (t639 != t629)) else (laws_FnExactDishNeeds.j1 kj16 l0 l1 a2 a3 t628 t629 t638 true))))) = some r := H
   have A42 := Aside0.mk A420
   clear A420
   replace H := Option.bind_eq_some_iff.mp H
   obtain ⟨⟨t652, t653⟩, A430, H⟩ := H
   replace H : (if t652 < 0 then (laws_FnExactDishNeeds.j1 kj16 l0 l1 a2 a3 t628 t629 t638 true) else ((laws_eqIntS.f kj16 t638 t628).bind fun t654 => (if t654 = true then (laws_FnExactDishNeeds.j1 kj16 l0 l1 a2 a3 t628 t629 t638 (t639 != t629)) else (laws_FnExactDishNeeds.j1 kj16 l0 l1 a2 a3 t628 t629 t638 true)))) = some r := H
   have A43 := Aside0.mk A430
   clear A430
   have HC44 := Aside0.mk H
   clear H
   go_upto_region 21 with (first | ((with_reducible refine gate_callee (f := 23) rfl ?_); refine goesL_ (some 64) rfl rfl Try.func23 pL rfl #[.slice A0 l0.length c0] rfl pM ?_; (with_reducible refine (laws_toDishS.calls kj16 _ _ l0 t643 _ ?side1 ?side2 A36.out).mono ?_); (case side1 => exact pS ((Kd.C_below HR0.out HB.out))); (case side2 => exact HC0.out); rintro e w45 ⟨v644, rfl, ho0, hb⟩; refine ⟨_, rfl, ?_⟩; have n0_ := Aside0.mk (Kd.R_below (pR HO_10) hb); have n1_ := Aside0.mk (Kd.S_elder' F7.q0 (Kd.S_base ho0) hb); have n2_ := Aside0.mk (Kd.R_below (pR HO_13) hb); have n3_ := Aside0.mk (Kd.R_below (pR HO_14) hb); have n4_ := Aside0.mk (Kd.S_lower (Kd.S_new' ho0 (Kd.S_lt F7.q0)) (below_size pB)); have n5_ := Aside0.mk (below_step pB hb); clear HO_10; clear HO_12; clear HO_13; clear HO_14; clear HB; have HO_10 := n0_; have HO_12 := n1_; have HO_13 := n2_; have HO_14 := n3_; have HO645 := n4_; have HB := n5_; clear n0_ n1_ n2_ n3_ n4_ n5_; (try clear hb); (try clear hb2); (try clear hk); (try clear hi); (try clear ho0); obtain ⟨Ao46, co46, eo46⟩ := Kd.S_slice HO645.out; subst eo46) | ((with_reducible refine gate_callee (f := 24) rfl ?_); refine goesL_ (some 65) rfl rfl Try.func24 pL rfl #[.slice Ao26 t632.length co26, .slice Ao46 t643.length co46] rfl pM ?_; (with_reducible refine (laws_eqDishS.calls kj16 _ _ t632 _ _ t643 true _ ?side1 ?side2 ?side3 ?side4 A37.out).mono ?_); (case side1 => exact pS ((Kd.S_reads' HO_12.out).2.2)); (case side2 => exact (Kd.S_reads' HO_12.out).2.1); (case side3 => exact pS ((Kd.S_reads' HO645.out).2.2)); (case side4 => exact (Kd.S_reads' HO645.out).2.1); rintro e w47 ⟨rfl, hb⟩; refine ⟨_, rfl, ?_⟩; have n0_ := Aside0.mk (Kd.R_below (pR HO_10) hb); have n1_ := Aside0.mk (Kd.S_below F7.q0 hb); have n2_ := Aside0.mk (Kd.R_below (pR HO_13) hb); have n3_ := Aside0.mk (Kd.R_below (pR HO_14) hb); have n4_ := Aside0.mk (Kd.S_below F7.q1 hb); have n5_ := Aside0.mk (below_step pB hb); clear HO_10; clear HO_12; clear HO_13; clear HO_14; clear HO645; clear HB; have HO_10 := n0_; have HO_12 := n1_; have HO_13 := n2_; have HO_14 := n3_; have HO645 := n4_; have HB := n5_; clear n0_ n1_ n2_ n3_ n4_ n5_; (try clear hb); (try clear hb2); (try clear hk); (try clear hi)) | ((with_reducible refine gate_callee (f := 27) rfl ?_); refine goesL_ (some 69) rfl rfl Try.func27 pL rfl #[.slice A1 l1.length c1] rfl pM ?_; (with_reducible refine (laws_toFoodS.calls kj16 _ _ l1 t647 _ ?side1 ?side2 A39.out).mono ?_); (case side1 => exact pS ((Kd.C_below HR1.out HB.out))); (case side2 => exact HC1.out); rintro e w48 ⟨v648, rfl, ho0, hb⟩; refine ⟨_, rfl, ?_⟩; have n0_ := Aside0.mk (Kd.R_below (pR HO_10) hb); have n1_ := Aside0.mk (Kd.S_below F7.q0 hb); have n2_ := Aside0.mk (Kd.R_elder' (pR HO_13) (Kd.R_base ho0) hb); have n3_ := Aside0.mk (Kd.R_below (pR HO_14) hb); have n4_ := Aside0.mk (Kd.S_below F7.q1 hb); have n5_ := Aside0.mk (Kd.R_lower (Kd.R_new' ho0 (Kd.R_lt (pR HO_13))) (below_size pB)); have n6_ := Aside0.mk (below_step pB hb); clear HO_10; clear HO_12; clear HO_13; clear HO_14; clear HO645; clear HB; have HO_10 := n0_; have HO_12 := n1_; have HO_13 := n2_; have HO_14 := n3_; have HO645 := n4_; have HO649 := n5_; have HB := n6_; clear n0_ n1_ n2_ n3_ n4_ n5_ n6_; (try clear hb); (try clear hb2); (try clear hk); (try clear hi); (try clear ho0); obtain ⟨Ao49, co49, eo49⟩ := Kd.R_slice HO649.out; subst eo49) | ((with_reducible refine gate_callee (f := 29) rfl ?_); refine goesL_ (some 70) rfl rfl Try.func29 pL rfl #[.slice Ao27 t635.length co27, .slice Ao49 t647.length co49] rfl pM ?_; (with_reducible refine (laws_eqFoodS.calls kj16 _ _ t635 _ _ t647 true _ ?side1 ?side2 ?side3 ?side4 A40.out).mono ?_); (case side1 => exact pS ((Kd.R_reads' HO_13.out).2.2)); (case side2 => exact (Kd.R_reads' HO_13.out).2.1); (case side3 => exact pS ((Kd.R_reads' HO649.out).2.2)); (case side4 => exact (Kd.R_reads' HO649.out).2.1); rintro e w50 ⟨rfl, hb⟩; refine ⟨_, rfl, ?_⟩; have n0_ := Aside0.mk (Kd.R_below (pR HO_10) hb); have n1_ := Aside0.mk (Kd.S_below F7.q0 hb); have n2_ := Aside0.mk (Kd.R_below (pR HO_13) hb); have n3_ := Aside0.mk (Kd.R_below (pR HO_14) hb); have n4_ := Aside0.mk (Kd.S_below F7.q1 hb); have n5_ := Aside0.mk (Kd.R_below (pR HO649) hb); have n6_ := Aside0.mk (below_step pB hb); clear HO_10; clear HO_12; clear HO_13; clear HO_14; clear HO645; clear HO649; clear HB; have HO_10 := n0_; have HO_12 := n1_; have HO_13 := n2_; have HO_14 := n3_; have HO645 := n4_; have HO649 := n5_; have HB := n6_; clear n0_ n1_ n2_ n3_ n4_ n5_ n6_; (try clear hb); (try clear hb2); (try clear hk); (try clear hi)) | ((with_reducible refine gate_callee (f := 33) rfl ?_); refine goesL_ (some 74) rfl rfl Try.func33 pL rfl #[.slice Ao26 t632.length co26, .int .i64 1] rfl pM ?_; (with_reducible refine (laws_markDishS.calls kj16 ?okm _ t632 1 t651 w _ ?side1 ?side2 A42.out).mono ?_); (case side1 => exact pB); (case side2 => exact F7.q0); rintro e w51 ⟨rfl, hd⟩; refine ⟨_, rfl, ?_⟩; have n0_ := Aside0.mk (laws_markDishS.did_R (pR HO_10) hd (by decide)); have n2_ := Aside0.mk (laws_markDishS.did_R (pR HO_13) hd (by decide)); have n3_ := Aside0.mk (laws_markDishS.did_R (pR HO_14) hd (by decide)); have n5_ := Aside0.mk (laws_markDishS.did_R (pR HO649) hd (by decide)); have n6_ := Aside0.mk hd.2; clear HO_10; clear HO_12; clear HO_13; clear HO_14; clear HO645; clear HO649; clear HB; have HO_10 := n0_; have HO_13 := n2_; have HO_14 := n3_; have HO649 := n5_; have HB := n6_; clear n0_ n2_ n3_ n5_ n6_; (try clear hd); (try clear hb2); (try clear hk); (try clear hi)) | ((with_reducible refine gate_callee (f := 34) rfl ?_); refine goesL_ (some 77) rfl rfl Try.func34 pL rfl #[.slice Ao27 t635.length co27, .int .i64 t651] rfl pM ?_; (with_reducible refine (laws_markFoodS.calls kj16 (fun k_ => some k_ = (.slice Ao27 t635.length co27 : Value).ownBlock) (.slice Ao27 t635.length co27) t635 t651 t652 t653 w _ ?side1 ?side2 A43.out).mono ?_); (case side1 => exact pB); (case side2 => exact Kd.R_tight rfl HO_13.out); rintro e w52 ⟨rfl, hy0, hb, hkp⟩; refine ⟨_, rfl, ?_⟩; have n0_ := Aside0.mk (Kd.R_mono (ok' := fun k_ => some k_ ≠ (v640 : Value).ownBlock) (Kd.R_keptB ((Kd.R_apart' HO_10.out (Kd.R_typed HO_13.out) (by decide))) hkp (fun k_ hk_ hs_ => (hk_.2) hs_)) (fun k_ hk_ => hk_.1.1)); have n2_ := Aside0.mk (Kd.R_reok rfl hy0 (fun k_ e_ => HO_13.out.1 k_ e_)); have n3_ := Aside0.mk (Kd.R_mono (ok' := fun k_ => some k_ ≠ (v630 : Value).ownBlock) (Kd.R_keptB ((Kd.R_apart' HO_14.out (Kd.R_typed HO_13.out) (by decide))) hkp (fun k_ hk_ hs_ => (hk_.2) hs_)) (fun k_ hk_ => hk_.1.1)); have n5_ := Aside0.mk (Kd.R_mono (ok' := fun k_ => some k_ ≠ (.slice Ao27 t635.length co27 : Value).ownBlock) (Kd.R_keptB (HO649.out) hkp (fun k_ hk_ hs_ => (hk_.2) hs_)) (fun k_ hk_ => hk_.1.2)); have n6_ := Aside0.mk (hb); clear HO_10; clear HO_13; clear HO_14; clear HO649; clear HB; have HO_10 := n0_; have HO_13 := n2_; have HO_14 := n3_; have HO649 := n5_; have HB := n6_; clear n0_ n2_ n3_ n5_ n6_; (try clear hb); (try clear hkp); (try clear hy0)))
   (try simp only [Act.put, List.setIfInBounds_toArray, List.set_cons_zero, List.set_cons_succ])
   go_cut [90] (fun v90 wc => ∃ (kq : Nat) (x90_43 : Bool), v90 = .bool x90_43 ∧ Aside0 (laws_FnExactDishNeeds.j1 kq l0 l1 a2 a3 t628 t629 t638 x90_43 = some r) ∧ Aside0 (kq ≤ kj16) ∧ Aside0 (Kd.R (Kd.int .i64) 3 wc w.heap.size (fun k_ => some k_ ≠ (v640 : Value).ownBlock) v630 t628) ∧ Aside0 (Kd.R (Kd.int .i64) 3 wc w.heap.size (fun k_ => some k_ ≠ (v630 : Value).ownBlock) v640 t638) ∧ Aside0 (Below w.heap.size w wc))
   case first =>
    have H := HC44.out
    clear HC44
    by_cases c53 : t652 < 0
    ·rw [if_pos c53] at H
     have c53b0 : decide (t652 < 0) = true := decide_eq_true c53
     clear c53
     (first | rw [c53b0] | (simp only [i64_w, i32_w]; rw [c53b0]) | skip)
     have H' := Aside0.mk H
     clear H
     go_wp2
     go_meet
     case rel => exact ⟨_, (true), pF, H', ⟨by have := HJ16.out; first | omega | exact Nat.le_refl _⟩, ⟨pR HO_10⟩, ⟨pR HO_14⟩, ⟨pB⟩⟩
    rw [if_neg c53] at H
    have c53b0 : decide (t652 < 0) = false := decide_eq_false c53
    clear c53
    (first | rw [c53b0] | (simp only [i64_w, i32_w]; rw [c53b0]) | skip)
    replace H := Option.bind_eq_some_iff.mp H
    obtain ⟨t654, A540, H⟩ := H
    replace H : (if t654 = true then (laws_FnExactDishNeeds.j1 kj16 l0 l1 a2 a3 t628 t629 t638 (t639 != t629)) else (laws_FnExactDishNeeds.j1 kj16 l0 l1 a2 a3 t628 t629 t638 true)) = some r := H
    have A54 := Aside0.mk A540
    clear A540
    by_cases c55 : t654 = true
    ·subst c55
     have H1 : (laws_FnExactDishNeeds.j1 kj16 l0 l1 a2 a3 t628 t629 t638 (t639 != t629)) = some r := by rw [if_pos rfl] at H; exact H
     clear H
     have H := H1
     clear H1
     have H' := Aside0.mk H
     clear H
     obtain ⟨Ao56, co56, eo56⟩ := Kd.R_slice HO_14.out
     subst eo56
     obtain ⟨Ao57, co57, eo57⟩ := Kd.R_slice HO_10.out
     subst eo57
     go_wp2_with (first | (go_at_call 32; (with_reducible refine (laws_eqIntS.calls kj16 _ _ t638 _ _ t628 true _ ?side1 ?side2 ?side3 ?side4 A54.out).mono ?_); (case side1 => exact pS ((Kd.R_reads' HO_14.out).2.2)); (case side2 => exact (Kd.R_reads' HO_14.out).2.1); (case side3 => exact pS ((Kd.R_reads' HO_10.out).2.2)); (case side4 => exact (Kd.R_reads' HO_10.out).2.1); rintro e w' ⟨rfl, ⟨nd, rfl⟩⟩))
     go_meet
     case rel => exact ⟨_, ((t639 != t629)), pF, H', ⟨by have := HJ16.out; first | omega | exact Nat.le_refl _⟩, ⟨pR HO_10⟩, ⟨pR HO_14⟩, ⟨pB⟩⟩
    replace c55 := Bool.eq_false_iff.mpr c55
    subst c55
    have H1 : (laws_FnExactDishNeeds.j1 kj16 l0 l1 a2 a3 t628 t629 t638 true) = some r := by rw [if_neg (show ¬ (false = true) by decide)] at H; exact H
    clear H
    have H := H1
    clear H1
    have H' := Aside0.mk H
    clear H
    obtain ⟨Ao58, co58, eo58⟩ := Kd.R_slice HO_14.out
    subst eo58
    obtain ⟨Ao59, co59, eo59⟩ := Kd.R_slice HO_10.out
    subst eo59
    go_wp2_with (first | (go_at_call 32; (with_reducible refine (laws_eqIntS.calls kj16 _ _ t638 _ _ t628 false _ ?side1 ?side2 ?side3 ?side4 A54.out).mono ?_); (case side1 => exact pS ((Kd.R_reads' HO_14.out).2.2)); (case side2 => exact (Kd.R_reads' HO_14.out).2.1); (case side3 => exact pS ((Kd.R_reads' HO_10.out).2.2)); (case side4 => exact (Kd.R_reads' HO_10.out).2.1); rintro e w' ⟨rfl, ⟨nd, rfl⟩⟩))
    go_meet
    case rel => exact ⟨_, (true), pF, H', ⟨by have := HJ16.out; first | omega | exact Nat.le_refl _⟩, ⟨pR HO_10⟩, ⟨pR HO_14⟩, ⟨pB⟩⟩
   case rest =>
    clear HC44
    try clear c1
    try clear c2
    try clear p2
    try clear c3
    try clear c4
    try clear c5
    try clear c6
    try clear c6b0
    try clear c7
    try clear c9
    try clear c9b0
    try clear c22
    try clear c23
    try clear c24
    try clear c25
    try clear c27
    try clear c29
    try clear c30
    try clear c32
    try clear c33
    try clear c34
    try clear c35
    try clear c37
    try clear c38
    try clear c41
    try clear c53
    try clear c53b0
    try clear c55
    try clear p2
    obtain ⟨kq, x90_43, rfl, HA, HJ43, HO_10, HO_14, HB⟩ := hcut
    cases kq with
    | zero => exact absurd HA.out (by simp [laws_FnExactDishNeeds.j1])
    | succ kj43 =>
     have H := HA.out
     clear HA
     simp only [laws_FnExactDishNeeds.j1] at H
     by_cases c60 : x90_43 = true
     ·subst c60
      have H1 : (some false) = some r := by rw [if_pos rfl] at H; exact H
      clear H
      have H := H1
      clear H1
      obtain rfl := Option.some.inj H
      go_wp2
      go_ret
      exact ⟨pE, pB⟩
     replace c60 := Bool.eq_false_iff.mpr c60
     subst c60
     have H1 : ((laws_markIntS.f kj43 t638 1).bind fun bt655 => ((laws_heldIntS.f kj43 bt655.2 1).bind fun t657 => (if t657 < 0 then (some false) else (if t657 = bt655.1 then ((laws_toDishS.f kj43 l0).bind fun t658 => ((laws_toFoodS.f kj43 l1).bind fun t661 => ((impl_DishNeeds.f kj43 t658 t661 a2 a3).bind fun bt664 => ((laws_eqIntS.f kj43 bt664.1 t628).bind fun t668 => (if t668 = true then (laws_FnExactDishNeeds.j2 kj43 bt655.2 bt655.1 (bt664.2 != t629)) else (laws_FnExactDishNeeds.j2 kj43 bt655.2 bt655.1 true)))))) else (some false))))) = some r := by rw [if_neg (show ¬ (false = true) by decide)] at H; exact H
     clear H
     have H := H1
     clear H1
     replace H := Option.bind_eq_some_iff.mp H
     obtain ⟨⟨t655, t656⟩, A610, H⟩ := H
     replace H : ((laws_heldIntS.f kj43 t656 1).bind fun t657 => (if t657 < 0 then (some false) else (if t657 = t655 then ((laws_toDishS.f kj43 l0).bind fun t658 => ((laws_toFoodS.f kj43 l1).bind fun t661 => ((impl_DishNeeds.f kj43 t658 t661 a2 a3).bind fun bt664 => ((laws_eqIntS.f kj43 bt664.1 t628).bind fun t668 => (if t668 = true then (laws_FnExactDishNeeds.j2 kj43 t656 t655 (bt664.2 != t629)) else (laws_FnExactDishNeeds.j2 kj43 t656 t655 true)))))) else (some false)))) = some r := H
     have A61 := Aside0.mk A610
     clear A610
     replace H := Option.bind_eq_some_iff.mp H
     obtain ⟨t657, A620, H⟩ := H
     replace H : (if t657 < 0 then (some false) else (if t657 = t655 then ((laws_toDishS.f kj43 l0).bind fun t658 => ((laws_toFoodS.f kj43 l1).bind fun t661 => ((impl_DishNeeds.f kj43 t658 t661 a2 a3).bind fun bt664 => ((laws_eqIntS.f kj43 bt664.1 t628).bind fun t668 => (if t668 = true then (laws_FnExactDishNeeds.j2 kj43 t656 t655 (bt664.2 != t629)) else (laws_FnExactDishNeeds.j2 kj43 t656 t655 true)))))) else (some false))) = some r := H
     have A62 := Aside0.mk A620
     clear A620
     by_cases c63 : t657 < 0
     ·rw [if_pos c63] at H
      have c63b0 : decide (t657 < 0) = true := decide_eq_true c63
      clear c63
      obtain rfl := Option.some.inj H
      obtain ⟨Ao64, co64, eo64⟩ := Kd.R_slice HO_14.out
      subst eo64
      go_wp2_with (first | ((with_reducible refine gate_callee (f := 35) rfl ?_); refine goesL_ (some 93) rfl rfl Try.func35 pL rfl #[.slice Ao64 t638.length co64, .int .i64 1] rfl pM ?_; (with_reducible refine (laws_markIntS.calls kj43 (fun k_ => some k_ = (.slice Ao64 t638.length co64 : Value).ownBlock) (.slice Ao64 t638.length co64) t638 1 t655 t656 w _ ?side1 ?side2 A61.out).mono ?_); (case side1 => exact pB); (case side2 => exact Kd.R_tight rfl HO_14.out); rintro e w65 ⟨rfl, hy0, hb, hkp⟩; refine ⟨_, rfl, ?_⟩; have n0_ := Aside0.mk (Kd.R_mono (ok' := fun k_ => some k_ ≠ (.slice Ao64 t638.length co64 : Value).ownBlock) (Kd.R_keptB (HO_10.out) hkp (fun k_ hk_ hs_ => (hk_) hs_)) (fun k_ hk_ => hk_.1)); have n1_ := Aside0.mk (Kd.R_reok rfl hy0 (fun k_ e_ => HO_14.out.1 k_ e_)); have n2_ := Aside0.mk (hb); clear HO_10; clear HO_14; clear HB; have HO_10 := n0_; have HO_14 := n1_; have HB := n2_; clear n0_ n1_ n2_; (try clear hb); (try clear hkp); (try clear hy0)) | ((with_reducible refine gate_callee (f := 36) rfl ?_); refine goesL_ (some 96) rfl rfl Try.func36 pL rfl #[.slice Ao64 t656.length co64, .int .i64 1] rfl (by (try simp only [List.map_toArray, List.map_cons, List.map_nil]); first | done | (rw [show t656.length = t638.length from (Kd.R_reads' HO_14.out).1.symm] <;> rfl) | rfl | (simp only [List.length_drop, List.length_take]; rfl)) ?_; (with_reducible refine (laws_heldIntS.calls kj43 _ _ t656 1 t657 _ ?side1 ?side2 A62.out).mono ?_); (case side1 => exact pS ((Kd.R_reads' HO_14.out).2.2)); (case side2 => rw [show t656.length = t638.length from (Kd.R_reads' HO_14.out).1.symm]; exact (Kd.R_reads' HO_14.out).2.1); rintro e w' ⟨rfl, ⟨nd, rfl⟩⟩; refine ⟨_, rfl, ?_⟩))
      go_ret
      exact ⟨pE, pB⟩
     rw [if_neg c63] at H
     have c63b0 : decide (t657 < 0) = false := decide_eq_false c63
     clear c63
     rcases (Classical.em (t657 = t655)).symm with c66 | c66
     ·rw [if_neg c66] at H
      have c66b0 : (t657 == t655) = false := beq_eq_false_iff_ne.mpr c66
      have c66b1 : (t657 != t655) = true := bne_iff_ne.mpr c66
      obtain rfl := Option.some.inj H
      obtain ⟨Ao88, co88, eo88⟩ := Kd.R_slice HO_14.out
      subst eo88
      go_wp2_with (first | ((with_reducible refine gate_callee (f := 35) rfl ?_); refine goesL_ (some 93) rfl rfl Try.func35 pL rfl #[.slice Ao88 t638.length co88, .int .i64 1] rfl pM ?_; (with_reducible refine (laws_markIntS.calls kj43 (fun k_ => some k_ = (.slice Ao88 t638.length co88 : Value).ownBlock) (.slice Ao88 t638.length co88) t638 1 t655 t656 w _ ?side1 ?side2 A61.out).mono ?_); (case side1 => exact pB); (case side2 => exact Kd.R_tight rfl HO_14.out); rintro e w89 ⟨rfl, hy0, hb, hkp⟩; refine ⟨_, rfl, ?_⟩; have n0_ := Aside0.mk (Kd.R_mono (ok' := fun k_ => some k_ ≠ (.slice Ao88 t638.length co88 : Value).ownBlock) (Kd.R_keptB (HO_10.out) hkp (fun k_ hk_ hs_ => (hk_) hs_)) (fun k_ hk_ => hk_.1)); have n1_ := Aside0.mk (Kd.R_reok rfl hy0 (fun k_ e_ => HO_14.out.1 k_ e_)); have n2_ := Aside0.mk (hb); clear HO_10; clear HO_14; clear HB; have HO_10 := n0_; have HO_14 := n1_; have HB := n2_; clear n0_ n1_ n2_; (try clear hb); (try clear hkp); (try clear hy0)) | ((with_reducible refine gate_callee (f := 36) rfl ?_); refine goesL_ (some 96) rfl rfl Try.func36 pL rfl #[.slice Ao88 t656.length co88, .int .i64 1] rfl (by (try simp only [List.map_toArray, List.map_cons, List.map_nil]); first | done | (rw [show t656.length = t638.length from (Kd.R_reads' HO_14.out).1.symm] <;> rfl) | rfl | (simp only [List.length_drop, List.length_take]; rfl)) ?_; (with_reducible refine (laws_heldIntS.calls kj43 _ _ t656 1 t657 _ ?side1 ?side2 A62.out).mono ?_); (case side1 => exact pS ((Kd.R_reads' HO_14.out).2.2)); (case side2 => rw [show t656.length = t638.length from (Kd.R_reads' HO_14.out).1.symm]; exact (Kd.R_reads' HO_14.out).2.1); rintro e w' ⟨rfl, ⟨nd, rfl⟩⟩; refine ⟨_, rfl, ?_⟩))
      go_ret
      exact ⟨pE, pB⟩
     rw [if_pos c66] at H
     have c66b0 : (t657 == t655) = true := beq_iff_eq.mpr c66
     have c66b1 : (t657 != t655) = false := bne_eq_false_iff_eq.mpr c66
     clear c66
     replace H := Option.bind_eq_some_iff.mp H
     obtain ⟨t658, A670, H⟩ := H
     replace H : ((laws_toFoodS.f kj43 l1).bind fun t661 => ((impl_DishNeeds.f kj43 t658 t661 a2 a3).bind fun bt664 => ((laws_eqIntS.f kj43 bt664.1 t628).bind fun t668 => (if t668 = true then (laws_FnExactDishNeeds.j2 kj43 t656 t655 (bt664.2 != t629)) else (laws_FnExactDishNeeds.j2 kj43 t656 t655 true))))) = some r := H
     have A67 := Aside0.mk A670
     clear A670
     replace H := Option.bind_eq_some_iff.mp H
     obtain ⟨t661, A680, H⟩ := H
     replace H : ((impl_DishNeeds.f kj43 t658 t661 a2 a3).bind fun bt664 => ((laws_eqIntS.f kj43 bt664.1 t628).bind fun t668 => (if t668 = true then (laws_FnExactDishNeeds.j2 kj43 t656 t655 (bt664.2 != t629)) else (laws_FnExactDishNeeds.j2 kj43 t656 t655 true)))) = some r := H
     have A68 := Aside0.mk A680
     clear A680
     replace H := Option.bind_eq_some_iff.mp H
     obtain ⟨⟨t664, t665⟩, A690, H⟩ := H
     replace H : ((laws_eqIntS.f kj43 t664 t628).bind fun t668 => (if t668 = true then (laws_FnExactDishNeeds.j2 kj43 t656 t655 (t665 != t629)) else (laws_FnExactDishNeeds.j2 kj43 t656 t655 true))) = some r := H
     have A69 := Aside0.mk A690
     clear A690
     have HC70 := Aside0.mk H
     clear H
     obtain ⟨Ao71, co71, eo71⟩ := Kd.R_slice HO_14.out
     subst eo71
     go_upto_region 32 with (first | ((with_reducible refine gate_callee (f := 35) rfl ?_); refine goesL_ (some 93) rfl rfl Try.func35 pL rfl #[.slice Ao71 t638.length co71, .int .i64 1] rfl pM ?_; (with_reducible refine (laws_markIntS.calls kj43 (fun k_ => some k_ = (.slice Ao71 t638.length co71 : Value).ownBlock) (.slice Ao71 t638.length co71) t638 1 t655 t656 w _ ?side1 ?side2 A61.out).mono ?_); (case side1 => exact pB); (case side2 => exact Kd.R_tight rfl HO_14.out); rintro e w72 ⟨rfl, hy0, hb, hkp⟩; refine ⟨_, rfl, ?_⟩; have n0_ := Aside0.mk (Kd.R_mono (ok' := fun k_ => some k_ ≠ (.slice Ao71 t638.length co71 : Value).ownBlock) (Kd.R_keptB (HO_10.out) hkp (fun k_ hk_ hs_ => (hk_) hs_)) (fun k_ hk_ => hk_.1)); have n1_ := Aside0.mk (Kd.R_reok rfl hy0 (fun k_ e_ => HO_14.out.1 k_ e_)); have n2_ := Aside0.mk (hb); clear HO_10; clear HO_14; clear HB; have HO_10 := n0_; have HO_14 := n1_; have HB := n2_; clear n0_ n1_ n2_; (try clear hb); (try clear hkp); (try clear hy0)) | ((with_reducible refine gate_callee (f := 36) rfl ?_); refine goesL_ (some 96) rfl rfl Try.func36 pL rfl #[.slice Ao71 t656.length co71, .int .i64 1] rfl (by (try simp only [List.map_toArray, List.map_cons, List.map_nil]); first | done | (rw [show t656.length = t638.length from (Kd.R_reads' HO_14.out).1.symm] <;> rfl) | rfl | (simp only [List.length_drop, List.length_take]; rfl)) ?_; (with_reducible refine (laws_heldIntS.calls kj43 _ _ t656 1 t657 _ ?side1 ?side2 A62.out).mono ?_); (case side1 => exact pS ((Kd.R_reads' HO_14.out).2.2)); (case side2 => rw [show t656.length = t638.length from (Kd.R_reads' HO_14.out).1.symm]; exact (Kd.R_reads' HO_14.out).2.1); rintro e w' ⟨rfl, ⟨nd, rfl⟩⟩; refine ⟨_, rfl, ?_⟩) | ((with_reducible refine gate_callee (f := 23) rfl ?_); refine goesL_ (some 104) rfl rfl Try.func23 pL rfl #[.slice A0 l0.length c0] rfl pM ?_; (with_reducible refine (laws_toDishS.calls kj43 _ _ l0 t658 _ ?side1 ?side2 A67.out).mono ?_); (case side1 => exact pS ((Kd.C_below HR0.out pB))); (case side2 => exact HC0.out); rintro e w73 ⟨v659, rfl, ho0, hb⟩; refine ⟨_, rfl, ?_⟩; have n0_ := Aside0.mk (Kd.R_below (pR HO_10) hb); have n1_ := Aside0.mk (Kd.R_below (pR HO_14) hb); have n2_ := Aside0.mk (Kd.S_lower ho0 (below_size pB)); have n3_ := Aside0.mk (below_step pB hb); clear HO_10; clear HO_14; clear HB; have HO_10 := n0_; have HO_14 := n1_; have HO660 := n2_; have HB := n3_; clear n0_ n1_ n2_ n3_; (try clear hb); (try clear hb2); (try clear hk); (try clear hi); (try clear ho0)) | ((with_reducible refine gate_callee (f := 27) rfl ?_); refine goesL_ (some 106) rfl rfl Try.func27 pL rfl #[.slice A1 l1.length c1] rfl pM ?_; (with_reducible refine (laws_toFoodS.calls kj43 _ _ l1 t661 _ ?side1 ?side2 A68.out).mono ?_); (case side1 => exact pS ((Kd.C_below HR1.out HB.out))); (case side2 => exact HC1.out); rintro e w74 ⟨v662, rfl, ho0, hb⟩; refine ⟨_, rfl, ?_⟩; have n0_ := Aside0.mk (Kd.R_below (pR HO_10) hb); have n1_ := Aside0.mk (Kd.R_below (pR HO_14) hb); have n2_ := Aside0.mk (Kd.S_below (by (with_reducible repeat (first | apply Kd.S_alloc | apply Kd.S_drewN | apply Kd.S_drew)); exact HO660.out) hb); have n3_ := Aside0.mk (Kd.R_lower ho0 (below_size pB)); have n4_ := Aside0.mk (below_step pB hb); clear HO_10; clear HO_14; clear HO660; clear HB; have HO_10 := n0_; have HO_14 := n1_; have HO660 := n2_; have HO663 := n3_; have HB := n4_; clear n0_ n1_ n2_ n3_ n4_; (try clear hb); (try clear hb2); (try clear hk); (try clear hi); (try clear ho0); obtain ⟨Ao75, co75, eo75⟩ := Kd.S_slice HO660.out; subst eo75; obtain ⟨Ao76, co76, eo76⟩ := Kd.R_slice HO663.out; subst eo76) | ((with_reducible refine gate_callee (f := 38) rfl ?_); refine goesL_ (some 109) rfl rfl Try.func38 pL rfl #[.slice Ao75 t658.length co75, .slice Ao76 t661.length co76, .int .i64 a2, .int .i64 a3] rfl pM ?_; (with_reducible refine (impl_DishNeeds.calls kj43 _ _ t658 _ _ t661 a2 a3 t664 t665 _ ?side1 ?side2 ?side3 ?side4 A69.out).mono ?_); (case side1 => exact pS ((Kd.S_reads' HO660.out).2.2)); (case side2 => exact (Kd.S_reads' HO660.out).2.1); (case side3 => exact pS ((Kd.R_reads' HO663.out).2.2)); (case side4 => exact (Kd.R_reads' HO663.out).2.1); rintro e w77 ⟨v666, rfl, ho0, hb⟩; refine ⟨_, rfl, ?_⟩; have n0_ := Aside0.mk (Kd.R_elder' (pR HO_10) (Kd.R_base ho0) hb); have n1_ := Aside0.mk (Kd.R_elder' (pR HO_14) (Kd.R_base ho0) hb); have n2_ := Aside0.mk (Kd.S_below (by (with_reducible repeat (first | apply Kd.S_alloc | apply Kd.S_drewN | apply Kd.S_drew)); exact HO660.out) hb); have n3_ := Aside0.mk (Kd.R_below (pR HO663) hb); have n4_ := Aside0.mk (Kd.R_lower (Kd.R_new' (Kd.R_new' ho0 (Kd.R_lt (pR HO_10))) (Kd.R_lt (pR HO_14))) (below_size pB)); have n5_ := Aside0.mk (below_step pB hb); clear HO_10; clear HO_14; clear HO660; clear HO663; clear HB; have HO_10 := n0_; have HO_14 := n1_; have HO660 := n2_; have HO663 := n3_; have HO667 := n4_; have HB := n5_; clear n0_ n1_ n2_ n3_ n4_ n5_; (try clear hb); (try clear hb2); (try clear hk); (try clear hi); (try clear ho0)))
     (try simp only [Act.put, List.setIfInBounds_toArray, List.set_cons_zero, List.set_cons_succ])
     go_cut [120] (fun v120 wc => ∃ (kq : Nat) (x120_69 : Bool), v120 = .bool x120_69 ∧ Aside0 (laws_FnExactDishNeeds.j2 kq t656 t655 x120_69 = some r) ∧ Aside0 (kq ≤ kj43) ∧ Aside0 (Kd.R (Kd.int .i64) 3 wc w.heap.size (fun _ => True) (.slice Ao71 t638.length co71) t656) ∧ Aside0 (Below w.heap.size w wc))
     case first =>
      have H := HC70.out
      clear HC70
      replace H := Option.bind_eq_some_iff.mp H
      obtain ⟨t668, A780, H⟩ := H
      replace H : (if t668 = true then (laws_FnExactDishNeeds.j2 kj43 t656 t655 (t665 != t629)) else (laws_FnExactDishNeeds.j2 kj43 t656 t655 true)) = some r := H
      have A78 := Aside0.mk A780
      clear A780
      by_cases c79 : t668 = true
      ·subst c79
       have H1 : (laws_FnExactDishNeeds.j2 kj43 t656 t655 (t665 != t629)) = some r := by rw [if_pos rfl] at H; exact H
       clear H
       have H := H1
       clear H1
       have H' := Aside0.mk H
       clear H
       obtain ⟨Ao80, co80, eo80⟩ := Kd.R_slice HO667.out
       subst eo80
       obtain ⟨Ao81, co81, eo81⟩ := Kd.R_slice HO_10.out
       subst eo81
       go_wp2_with (first | ((with_reducible refine gate_callee (f := 32) rfl ?_); refine goesL_ (some 114) rfl rfl Try.func32 pL rfl #[.slice Ao80 t664.length co80, .slice Ao81 t628.length co81] rfl pM ?_; (with_reducible refine (laws_eqIntS.calls kj43 _ _ t664 _ _ t628 true _ ?side1 ?side2 ?side3 ?side4 A78.out).mono ?_); (case side1 => exact pS ((Kd.R_reads' HO667.out).2.2)); (case side2 => exact (Kd.R_reads' HO667.out).2.1); (case side3 => exact pS ((Kd.R_reads' HO_10.out).2.2)); (case side4 => exact (Kd.R_reads' HO_10.out).2.1); rintro e w' ⟨rfl, ⟨nd, rfl⟩⟩; refine ⟨_, rfl, ?_⟩))
       go_meet
       case rel => exact ⟨_, ((t665 != t629)), pF, H', ⟨by have := HJ16.out; have := HJ43.out; first | omega | exact Nat.le_refl _⟩, ⟨by (with_reducible repeat (first | apply Kd.R_alloc | apply Kd.R_drewN | apply Kd.R_drew)); exact Kd.R_mono HO_14.out (fun _ hk => trivial)⟩, ⟨pB⟩⟩
      replace c79 := Bool.eq_false_iff.mpr c79
      subst c79
      have H1 : (laws_FnExactDishNeeds.j2 kj43 t656 t655 true) = some r := by rw [if_neg (show ¬ (false = true) by decide)] at H; exact H
      clear H
      have H := H1
      clear H1
      have H' := Aside0.mk H
      clear H
      obtain ⟨Ao82, co82, eo82⟩ := Kd.R_slice HO667.out
      subst eo82
      obtain ⟨Ao83, co83, eo83⟩ := Kd.R_slice HO_10.out
      subst eo83
      go_wp2_with (first | ((with_reducible refine gate_callee (f := 32) rfl ?_); refine goesL_ (some 114) rfl rfl Try.func32 pL rfl #[.slice Ao82 t664.length co82, .slice Ao83 t628.length co83] rfl pM ?_; (with_reducible refine (laws_eqIntS.calls kj43 _ _ t664 _ _ t628 false _ ?side1 ?side2 ?side3 ?side4 A78.out).mono ?_); (case side1 => exact pS ((Kd.R_reads' HO667.out).2.2)); (case side2 => exact (Kd.R_reads' HO667.out).2.1); (case side3 => exact pS ((Kd.R_reads' HO_10.out).2.2)); (case side4 => exact (Kd.R_reads' HO_10.out).2.1); rintro e w' ⟨rfl, ⟨nd, rfl⟩⟩; refine ⟨_, rfl, ?_⟩))
      go_meet
      case rel => exact ⟨_, (true), pF, H', ⟨by have := HJ16.out; have := HJ43.out; first | omega | exact Nat.le_refl _⟩, ⟨by (with_reducible repeat (first | apply Kd.R_alloc | apply Kd.R_drewN | apply Kd.R_drew)); exact Kd.R_mono HO_14.out (fun _ hk => trivial)⟩, ⟨pB⟩⟩
     case rest =>
      clear HC70
      try clear c1
      try clear c2
      try clear p2
      try clear c3
      try clear c4
      try clear c5
      try clear c6
      try clear c6b0
      try clear c7
      try clear c9
      try clear c9b0
      try clear c22
      try clear c23
      try clear c24
      try clear c25
      try clear c27
      try clear c29
      try clear c30
      try clear c32
      try clear c33
      try clear c34
      try clear c35
      try clear c36
      try clear c37
      try clear c38
      try clear c41
      try clear c53
      try clear c53b0
      try clear c55
      try clear c60
      try clear c63
      try clear c63b0
      try clear c66
      try clear c66b0
      try clear c66b1
      try clear c79
      try clear p2
      obtain ⟨kq, x120_69, rfl, HA, HJ69, HO_14, HB⟩ := hcut
      have hl14_69 := (Kd.R_reads' HO_14.out).1
      rw [hl14_69] at HO_14
      (try simp only [hl14_69])
      cases kq with
      | zero => exact absurd HA.out (by simp [laws_FnExactDishNeeds.j2])
      | succ kj69 =>
       have H := HA.out
       clear HA
       simp only [laws_FnExactDishNeeds.j2] at H
       by_cases c84 : x120_69 = true
       ·subst c84
        have H1 : (some false) = some r := by rw [if_pos rfl] at H; exact H
        clear H
        have H := H1
        clear H1
        obtain rfl := Option.some.inj H
        go_wp2
        go_ret
        exact ⟨pE, pB⟩
       replace c84 := Bool.eq_false_iff.mpr c84
       subst c84
       have H1 : ((laws_heldIntS.f kj69 t656 1).bind fun t669 => (if t669 < 0 then (some false) else (if t669 = t655 then (some true) else (some false)))) = some r := by rw [if_neg (show ¬ (false = true) by decide)] at H; exact H
       clear H
       have H := H1
       clear H1
       replace H := Option.bind_eq_some_iff.mp H
       obtain ⟨t669, A850, H⟩ := H
       replace H : (if t669 < 0 then (some false) else (if t669 = t655 then (some true) else (some false))) = some r := H
       have A85 := Aside0.mk A850
       clear A850
       by_cases c86 : t669 < 0
       ·rw [if_pos c86] at H
        have c86b0 : decide (t669 < 0) = true := decide_eq_true c86
        clear c86
        obtain rfl := Option.some.inj H
        go_wp2_with (first | ((with_reducible refine gate_callee (f := 36) rfl ?_); refine goesL_ (some 123) rfl rfl Try.func36 pL rfl #[.slice Ao71 t656.length co71, .int .i64 1] rfl pM ?_; (with_reducible refine (laws_heldIntS.calls kj69 _ _ t656 1 t669 _ ?side1 ?side2 A85.out).mono ?_); (case side1 => exact pS ((Kd.R_reads' HO_14.out).2.2)); (case side2 => exact (Kd.R_reads' HO_14.out).2.1); rintro e w' ⟨rfl, ⟨nd, rfl⟩⟩; refine ⟨_, rfl, ?_⟩))
        go_ret
        exact ⟨pE, pB⟩
       rw [if_neg c86] at H
       have c86b0 : decide (t669 < 0) = false := decide_eq_false c86
       clear c86
       rcases (Classical.em (t669 = t655)).symm with c87 | c87
       ·rw [if_neg c87] at H
        have c87b0 : (t669 == t655) = false := beq_eq_false_iff_ne.mpr c87
        have c87b1 : (t669 != t655) = true := bne_iff_ne.mpr c87
        obtain rfl := Option.some.inj H
        go_wp2_with (first | ((with_reducible refine gate_callee (f := 36) rfl ?_); refine goesL_ (some 123) rfl rfl Try.func36 pL rfl #[.slice Ao71 t656.length co71, .int .i64 1] rfl pM ?_; (with_reducible refine (laws_heldIntS.calls kj69 _ _ t656 1 t669 _ ?side1 ?side2 A85.out).mono ?_); (case side1 => exact pS ((Kd.R_reads' HO_14.out).2.2)); (case side2 => exact (Kd.R_reads' HO_14.out).2.1); rintro e w' ⟨rfl, ⟨nd, rfl⟩⟩; refine ⟨_, rfl, ?_⟩))
        go_ret
        exact ⟨pE, pB⟩
       rw [if_pos c87] at H
       have c87b0 : (t669 == t655) = true := beq_iff_eq.mpr c87
       have c87b1 : (t669 != t655) = false := bne_eq_false_iff_eq.mpr c87
       clear c87
       obtain rfl := Option.some.inj H
       go_wp2_with (first | ((with_reducible refine gate_callee (f := 36) rfl ?_); refine goesL_ (some 123) rfl rfl Try.func36 pL rfl #[.slice Ao71 t656.length co71, .int .i64 1] rfl pM ?_; (with_reducible refine (laws_heldIntS.calls kj69 _ _ t656 1 t669 _ ?side1 ?side2 A85.out).mono ?_); (case side1 => exact pS ((Kd.R_reads' HO_14.out).2.2)); (case side2 => exact (Kd.R_reads' HO_14.out).2.1); rintro e w' ⟨rfl, ⟨nd, rfl⟩⟩; refine ⟨_, rfl, ?_⟩))
       go_ret
       exact ⟨pE, pB⟩
end Go.Proofs.Ytclldijjbmnkeaa.Q
