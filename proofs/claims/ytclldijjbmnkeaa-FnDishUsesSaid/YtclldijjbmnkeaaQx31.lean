-- Written by the kit's print.py for all laws of the seat at once (one namespace), by a program of this session.
import Derived.Test.YtclldijjbmnkeaaQx0
import Derived.Test.YtclldijjbmnkeaaQx5
import Derived.Test.YtclldijjbmnkeaaQx19
import Derived.Test.YtclldijjbmnkeaaQx28
import Derived.Test.YtclldijjbmnkeaaQx29
namespace Go.Proofs.Ytclldijjbmnkeaa.Q
open Go.RowKit Go.Proofs.YtclldijjbmnkeaaW.PrintWords Go.Proofs.YtclldijjbmnkeaaW.PrintLast Go.Proofs.YtclldijjbmnkeaaW.PrintMore
attribute [local go_sem] max2_int min2_int max_two min_two max_three min_three max_four min_four   -- for this text's walks alone
set_option linter.unusedVariables false
set_option linter.unusedSimpArgs false

/-! ### laws_hasInt: function 44 -/
def laws_hasInt.l0 : Nat → List Int → Int → Int → Option (Bool)
 | 0, _, _, _ => none
 | k + 1, x0, x1, x5 => if x5 < (x0.length : Int) then (if 0 ≤ x5 then (if (rd x0 x5) = x1 then (some true) else (laws_hasInt.l0 k x0 x1 (wrap64 (x5 + 1)))) else (none)) else (some false)
def laws_hasInt.f (k : Nat) (l0 : List Int) (a1 : Int) : Option (Bool) := laws_hasInt.l0 k l0 a1 0
theorem laws_hasInt.mono_l : ∀ k, (∀ y0 y1 y2, LeO (laws_hasInt.l0 k y0 y1 y2) (laws_hasInt.l0 (k + 1) y0 y1 y2))
 | 0 => fun _ _ _ r h => by simp [laws_hasInt.l0] at h
 | k + 1 => by
  have ih0 := laws_hasInt.mono_l k
  ·intro y0 y1 y2
   unfold laws_hasInt.l0
   repeat' first
   | (with_reducible exact ih0 _ _ _)
   | (with_reducible exact LeO.refl _)
   | (with_reducible exact LeO.none _)
   | (with_reducible refine LeO.ite ?_ ?_)
   | (with_reducible refine LeO.bind ?_ (fun _ => ?_))
   | exact ih0 _ _ _
   | exact LeO.none _
   | refine LeO.ite ?_ ?_
   | refine LeO.bind ?_ (fun _ => ?_)
theorem laws_hasInt.mono : ∀ a0 a1 k, LeO (laws_hasInt.f k a0 a1) (laws_hasInt.f (k + 1) a0 a1) := by
 intro a0 a1 k
 have ih0 := laws_hasInt.mono_l k
 unfold laws_hasInt.f
 repeat' first
   | (with_reducible exact ih0 _ _ _)
   | (with_reducible exact LeO.refl _)
   | (with_reducible exact LeO.none _)
   | (with_reducible refine LeO.ite ?_ ?_)
   | (with_reducible refine LeO.bind ?_ (fun _ => ?_))
   | exact ih0 _ _ _
   | exact LeO.none _
   | refine LeO.ite ?_ ?_
   | refine LeO.bind ?_ (fun _ => ?_)
set_option maxHeartbeats 8000000 in
set_option maxRecDepth 100000 in
theorem laws_hasInt.calls (k : Nat) (A0 : Option Addr) (c0 : Nat) (l0 : List Int) (a1 : Int) (r : Bool) (w : World) (hr0 : Kd.C (Kd.int .i64) w A0 l0.length l0) (hc0 : l0.length ≤ c0) (h : laws_hasInt.f k l0 a1 = some r) :
  Calls Try.prog 44 #[.slice A0 l0.length c0, .int .i64 a1] w fun e w' => e = .returned (.bool r) ∧ Drawn0 w w' := by
 have HR0 := Aside0.mk hr0
 have HC0 := Aside0.mk hc0
 clear hr0 hc0
 have H : (laws_hasInt.l0 k l0 a1 0) = some r := h
 clear h
 have H' := Aside0.mk H
 clear H
 go_enter Try.func44, Try.ntmps44
 go_wp2
 go_loopg [5] k (fun kq v5 w' => ∃ (x5_1 : Int), v5 = .int .i64 x5_1 ∧ Aside0 (laws_hasInt.l0 kq l0 a1 x5_1 = some r) ∧ Aside0 (kq ≤ k) ∧ Drawn0 w w')
 case atStart => exact ⟨(0), pF, H', ⟨Nat.le_refl _⟩, by repeat (first | exact Drawn0.refl _ | apply Drawn0.step)⟩
 case round =>
  clear H'
  try clear p2
  obtain ⟨x5_1, rfl, HA, HK1, ⟨m1, rfl⟩⟩ := hrel
  cases gk with
  | zero => exact absurd HA.out (by simp [laws_hasInt.l0])
  | succ k1 =>
   have H := HA.out
   clear HA
   simp only [laws_hasInt.l0] at H
   by_cases c3 : x5_1 < (l0.length : Int)
   ·rw [if_pos c3] at H
    have c3b0 : decide (x5_1 < (l0.length : Int)) = true := decide_eq_true c3
    clear c3
    by_cases c4 : 0 ≤ x5_1
    ·rw [if_pos c4] at H
     have c4b0 : decide (0 ≤ x5_1) = true := decide_eq_true c4
     clear c4
     by_cases c5 : (rd l0 x5_1) = a1
     ·rw [if_pos c5] at H
      have c5b0 : ((rd l0 x5_1) == a1) = true := beq_iff_eq.mpr c5
      have c5b1 : ((rd l0 x5_1) != a1) = false := bne_eq_false_iff_eq.mpr c5
      clear c5
      obtain rfl := Option.some.inj H
      have p710 : 0 ≤ (x5_1 : Int) := of_decide_eq_true pA
      have q710 : x5_1 < (l0.length : Int) := of_decide_eq_true pA
      obtain ⟨ad710, e710, hx710_0⟩ := Kd.at_int HR0.out x5_1 p710 q710
      cases e710
      replace p710 := eq_true p710
      replace q710 := eq_true q710
      go_wp2
      go_ret
      exact ⟨pF, by repeat (first | exact Drawn0.refl _ | apply Drawn0.step)⟩
     ·rw [if_neg c5] at H
      have c5b0 : ((rd l0 x5_1) == a1) = false := beq_eq_false_iff_ne.mpr c5
      have c5b1 : ((rd l0 x5_1) != a1) = true := bne_iff_ne.mpr c5
      have H' := Aside0.mk H
      clear H
      have p710 : 0 ≤ (x5_1 : Int) := of_decide_eq_true pA
      have q710 : x5_1 < (l0.length : Int) := of_decide_eq_true pA
      obtain ⟨ad710, e710, hx710_0⟩ := Kd.at_int HR0.out x5_1 p710 q710
      cases e710
      replace p710 := eq_true p710
      replace q710 := eq_true q710
      go_wp2
      go_roundg k1
      case measure => have := HK1.out; omega
      case rel => exact ⟨(wrap64 (x5_1 + 1)), pF, H', ⟨by have := HK1.out; omega⟩, by repeat (first | exact Drawn0.refl _ | apply Drawn0.step)⟩
    ·rw [if_neg c4] at H
     exact absurd H (by simp)
   ·rw [if_neg c3] at H
    have c3b0 : decide (x5_1 < (l0.length : Int)) = false := decide_eq_false c3
    clear c3
    obtain rfl := Option.some.inj H
    go_wp2
    go_ret
    exact ⟨pF, by repeat (first | exact Drawn0.refl _ | apply Drawn0.step)⟩

/-! ### laws_FnDishUses: function 11 -/
mutual
def laws_FnDishUses.j0 : Nat → List (S29) → Int → List Int → List Int → Bool → Option (Bool)
 | 0, _, _, _, _, _ => none
 | k + 1, x3, x5, x6, x7, x36 => if x36 = true then ((laws_sameInts.f k x6 x7).bind fun t725 => (some t725)) else (laws_FnDishUses.l0 k x3 x5 x6 0)
def laws_FnDishUses.l0 : Nat → List (S29) → Int → List Int → Int → Option (Bool)
 | 0, _, _, _, _ => none
 | k + 1, x3, x5, x6, x8 => if x8 < (x6.length : Int) then (if 0 ≤ x8 then ((impl_DishesFind.f x3 (rd x6 x8)).bind fun t728 => (if t728 < 0 then (laws_FnDishUses.j2 k x3 x5 x6 x8 t728 true) else (if x8 > 0 then (if 0 ≤ (wrap64 (x8 - 1)) then (if (wrap64 (x8 - 1)) < (x6.length : Int) then (if (rd x6 (wrap64 (x8 - 1))) ≥ (rd x6 x8) then (laws_FnDishUses.j2 k x3 x5 x6 x8 t728 true) else (laws_FnDishUses.j2 k x3 x5 x6 x8 t728 (decide ((rd x6 x8) > x5)))) else (none)) else (none)) else (laws_FnDishUses.j2 k x3 x5 x6 x8 t728 (decide ((rd x6 x8) > x5)))))) else (none)) else ((laws_hasInt.f k x6 x5).bind fun t726 => (some t726))
def laws_FnDishUses.j2 : Nat → List (S29) → Int → List Int → Int → Int → Bool → Option (Bool)
 | 0, _, _, _, _, _, _ => none
 | k + 1, x3, x5, x6, x8, x9, x77 => if x77 = true then (some false) else (laws_FnDishUses.l1 k x3 x5 x6 x8 x9 0)
def laws_FnDishUses.l1 : Nat → List (S29) → Int → List Int → Int → Int → Int → Option (Bool)
 | 0, _, _, _, _, _, _ => none
 | k + 1, x3, x5, x6, x8, x9, x10 => if 0 ≤ x9 then (if x9 < (x3.length : Int) then (if x10 < (((rd_T29 x3 x9).f2).length : Int) then (if 0 ≤ x10 then (if ((rd_T55 ((rd_T29 x3 x9).f2) x10).f1) > 0 then ((laws_hasInt.f k x6 ((rd_T55 ((rd_T29 x3 x9).f2) x10).f1)).bind fun t738 => (if t738 = true then (laws_FnDishUses.l1 k x3 x5 x6 x8 x9 (wrap64 (x10 + 1))) else (some false))) else (laws_FnDishUses.l1 k x3 x5 x6 x8 x9 (wrap64 (x10 + 1)))) else (none)) else (laws_FnDishUses.l0 k x3 x5 x6 (wrap64 (x8 + 1)))) else (none)) else (none)
end
def laws_FnDishUses.f (k : Nat) (l0 : List Int) : Option (Bool) := if (l0.length : Int) > 1048576 then (some true) else ((spec_DrawDishUses.f k l0).bind fun bt711 => ((impl_DishUses.f k bt711.1 bt711.2.1 bt711.2.2).bind fun t718 => ((spec_DishUses.f k bt711.1 bt711.2.1 bt711.2.2).bind fun t721 => ((laws_sameInts.f k t718 t721).bind fun t724 => (if t724 = true then (laws_FnDishUses.j0 k bt711.1 bt711.2.2 t718 t721 ((t721.length : Int) == 0)) else (laws_FnDishUses.j0 k bt711.1 bt711.2.2 t718 t721 true))))))
theorem laws_FnDishUses.mono_l : ∀ k, (∀ y0 y1 y2 y3 y4, LeO (laws_FnDishUses.j0 k y0 y1 y2 y3 y4) (laws_FnDishUses.j0 (k + 1) y0 y1 y2 y3 y4)) ∧ (∀ y0 y1 y2 y3, LeO (laws_FnDishUses.l0 k y0 y1 y2 y3) (laws_FnDishUses.l0 (k + 1) y0 y1 y2 y3)) ∧ (∀ y0 y1 y2 y3 y4 y5, LeO (laws_FnDishUses.j2 k y0 y1 y2 y3 y4 y5) (laws_FnDishUses.j2 (k + 1) y0 y1 y2 y3 y4 y5)) ∧ (∀ y0 y1 y2 y3 y4 y5, LeO (laws_FnDishUses.l1 k y0 y1 y2 y3 y4 y5) (laws_FnDishUses.l1 (k + 1) y0 y1 y2 y3 y4 y5))
 | 0 => ⟨fun _ _ _ _ _ r h => by simp [laws_FnDishUses.j0] at h, fun _ _ _ _ r h => by simp [laws_FnDishUses.l0] at h, fun _ _ _ _ _ _ r h => by simp [laws_FnDishUses.j2] at h, fun _ _ _ _ _ _ r h => by simp [laws_FnDishUses.l1] at h⟩
 | k + 1 => by
  obtain ⟨ih0, ih1, ih2, ih3⟩ := laws_FnDishUses.mono_l k
  refine ⟨?_, ?_, ?_, ?_⟩
  ·intro y0 y1 y2 y3 y4
   unfold laws_FnDishUses.j0
   repeat' first
   | (with_reducible exact ih0 _ _ _ _ _)
   | (with_reducible exact ih1 _ _ _ _)
   | (with_reducible exact ih2 _ _ _ _ _ _)
   | (with_reducible exact ih3 _ _ _ _ _ _)
   | (with_reducible exact impl_DishUses.mono _ _ _ _)
   | (with_reducible exact laws_hasInt.mono _ _ _)
   | (with_reducible exact laws_sameInts.mono _ _ _)
   | (with_reducible exact spec_DishUses.mono _ _ _ _)
   | (with_reducible exact spec_DrawDishUses.mono _ _)
   | (with_reducible exact LeO.refl _)
   | (with_reducible exact LeO.none _)
   | (with_reducible refine LeO.ite ?_ ?_)
   | (with_reducible refine LeO.bind ?_ (fun _ => ?_))
   | exact ih0 _ _ _ _ _
   | exact ih1 _ _ _ _
   | exact ih2 _ _ _ _ _ _
   | exact ih3 _ _ _ _ _ _
   | exact impl_DishUses.mono _ _ _ _
   | exact laws_hasInt.mono _ _ _
   | exact laws_sameInts.mono _ _ _
   | exact spec_DishUses.mono _ _ _ _
   | exact spec_DrawDishUses.mono _ _
   | exact LeO.none _
   | refine LeO.ite ?_ ?_
   | refine LeO.bind ?_ (fun _ => ?_)
  ·intro y0 y1 y2 y3
   unfold laws_FnDishUses.l0
   repeat' first
   | (with_reducible exact ih0 _ _ _ _ _)
   | (with_reducible exact ih1 _ _ _ _)
   | (with_reducible exact ih2 _ _ _ _ _ _)
   | (with_reducible exact ih3 _ _ _ _ _ _)
   | (with_reducible exact impl_DishUses.mono _ _ _ _)
   | (with_reducible exact laws_hasInt.mono _ _ _)
   | (with_reducible exact laws_sameInts.mono _ _ _)
   | (with_reducible exact spec_DishUses.mono _ _ _ _)
   | (with_reducible exact spec_DrawDishUses.mono _ _)
   | (with_reducible exact LeO.refl _)
   | (with_reducible exact LeO.none _)
   | (with_reducible refine LeO.ite ?_ ?_)
   | (with_reducible refine LeO.bind ?_ (fun _ => ?_))
   | exact ih0 _ _ _ _ _
   | exact ih1 _ _ _ _
   | exact ih2 _ _ _ _ _ _
   | exact ih3 _ _ _ _ _ _
   | exact impl_DishUses.mono _ _ _ _
   | exact laws_hasInt.mono _ _ _
   | exact laws_sameInts.mono _ _ _
   | exact spec_DishUses.mono _ _ _ _
   | exact spec_DrawDishUses.mono _ _
   | exact LeO.none _
   | refine LeO.ite ?_ ?_
   | refine LeO.bind ?_ (fun _ => ?_)
  ·intro y0 y1 y2 y3 y4 y5
   unfold laws_FnDishUses.j2
   repeat' first
   | (with_reducible exact ih0 _ _ _ _ _)
   | (with_reducible exact ih1 _ _ _ _)
   | (with_reducible exact ih2 _ _ _ _ _ _)
   | (with_reducible exact ih3 _ _ _ _ _ _)
   | (with_reducible exact impl_DishUses.mono _ _ _ _)
   | (with_reducible exact laws_hasInt.mono _ _ _)
   | (with_reducible exact laws_sameInts.mono _ _ _)
   | (with_reducible exact spec_DishUses.mono _ _ _ _)
   | (with_reducible exact spec_DrawDishUses.mono _ _)
   | (with_reducible exact LeO.refl _)
   | (with_reducible exact LeO.none _)
   | (with_reducible refine LeO.ite ?_ ?_)
   | (with_reducible refine LeO.bind ?_ (fun _ => ?_))
   | exact ih0 _ _ _ _ _
   | exact ih1 _ _ _ _
   | exact ih2 _ _ _ _ _ _
   | exact ih3 _ _ _ _ _ _
   | exact impl_DishUses.mono _ _ _ _
   | exact laws_hasInt.mono _ _ _
   | exact laws_sameInts.mono _ _ _
   | exact spec_DishUses.mono _ _ _ _
   | exact spec_DrawDishUses.mono _ _
   | exact LeO.none _
   | refine LeO.ite ?_ ?_
   | refine LeO.bind ?_ (fun _ => ?_)
  ·intro y0 y1 y2 y3 y4 y5
   unfold laws_FnDishUses.l1
   repeat' first
   | (with_reducible exact ih0 _ _ _ _ _)
   | (with_reducible exact ih1 _ _ _ _)
   | (with_reducible exact ih2 _ _ _ _ _ _)
   | (with_reducible exact ih3 _ _ _ _ _ _)
   | (with_reducible exact impl_DishUses.mono _ _ _ _)
   | (with_reducible exact laws_hasInt.mono _ _ _)
   | (with_reducible exact laws_sameInts.mono _ _ _)
   | (with_reducible exact spec_DishUses.mono _ _ _ _)
   | (with_reducible exact spec_DrawDishUses.mono _ _)
   | (with_reducible exact LeO.refl _)
   | (with_reducible exact LeO.none _)
   | (with_reducible refine LeO.ite ?_ ?_)
   | (with_reducible refine LeO.bind ?_ (fun _ => ?_))
   | exact ih0 _ _ _ _ _
   | exact ih1 _ _ _ _
   | exact ih2 _ _ _ _ _ _
   | exact ih3 _ _ _ _ _ _
   | exact impl_DishUses.mono _ _ _ _
   | exact laws_hasInt.mono _ _ _
   | exact laws_sameInts.mono _ _ _
   | exact spec_DishUses.mono _ _ _ _
   | exact spec_DrawDishUses.mono _ _
   | exact LeO.none _
   | refine LeO.ite ?_ ?_
   | refine LeO.bind ?_ (fun _ => ?_)
theorem laws_FnDishUses.mono : ∀ a0 k, LeO (laws_FnDishUses.f k a0) (laws_FnDishUses.f (k + 1) a0) := by
 intro a0 k
 obtain ⟨ih0, ih1, ih2, ih3⟩ := laws_FnDishUses.mono_l k
 unfold laws_FnDishUses.f
 repeat' first
   | (with_reducible exact ih0 _ _ _ _ _)
   | (with_reducible exact ih1 _ _ _ _)
   | (with_reducible exact ih2 _ _ _ _ _ _)
   | (with_reducible exact ih3 _ _ _ _ _ _)
   | (with_reducible exact impl_DishUses.mono _ _ _ _)
   | (with_reducible exact laws_hasInt.mono _ _ _)
   | (with_reducible exact laws_sameInts.mono _ _ _)
   | (with_reducible exact spec_DishUses.mono _ _ _ _)
   | (with_reducible exact spec_DrawDishUses.mono _ _)
   | (with_reducible exact LeO.refl _)
   | (with_reducible exact LeO.none _)
   | (with_reducible refine LeO.ite ?_ ?_)
   | (with_reducible refine LeO.bind ?_ (fun _ => ?_))
   | exact ih0 _ _ _ _ _
   | exact ih1 _ _ _ _
   | exact ih2 _ _ _ _ _ _
   | exact ih3 _ _ _ _ _ _
   | exact impl_DishUses.mono _ _ _ _
   | exact laws_hasInt.mono _ _ _
   | exact laws_sameInts.mono _ _ _
   | exact spec_DishUses.mono _ _ _ _
   | exact spec_DrawDishUses.mono _ _
   | exact LeO.none _
   | refine LeO.ite ?_ ?_
   | refine LeO.bind ?_ (fun _ => ?_)
theorem F11.q0 {P : Prop} (h : P := by (with_reducible repeat (first | apply Kd.N_alloc | apply Kd.N_drewN | apply Kd.N_drew)); exact HO713.out) : P := h
set_option maxHeartbeats 8000000 in
set_option maxRecDepth 100000 in
theorem laws_FnDishUses.calls (k : Nat) (A0 : Option Addr) (c0 : Nat) (l0 : List Int) (r : Bool) (w : World) (hr0 : Kd.C (Kd.int .u8) w A0 l0.length l0) (hc0 : l0.length ≤ c0) (h : laws_FnDishUses.f k l0 = some r) :
  Calls Try.prog 11 #[.slice A0 l0.length c0] w fun e w' => e = .returned (.bool r) ∧ Below w.heap.size w w' := by
 have HR0 := Aside0.mk hr0
 have HC0 := Aside0.mk hc0
 clear hr0 hc0
 have HB := Aside0.mk (Below.refl w.heap.size w)
 have H : (if (l0.length : Int) > 1048576 then (some true) else ((spec_DrawDishUses.f k l0).bind fun bt711 => ((impl_DishUses.f k bt711.1 bt711.2.1 bt711.2.2).bind fun t718 => ((spec_DishUses.f k bt711.1 bt711.2.1 bt711.2.2).bind fun t721 => ((laws_sameInts.f k t718 t721).bind fun t724 => (if t724 = true then (laws_FnDishUses.j0 k bt711.1 bt711.2.2 t718 t721 ((t721.length : Int) == 0)) else (laws_FnDishUses.j0 k bt711.1 bt711.2.2 t718 t721 true))))))) = some r := h
 clear h
 by_cases c2 : (l0.length : Int) > 1048576
 ·rw [if_pos c2] at H
  have c2b0 : decide (1048576 < (l0.length : Int)) = true := decide_eq_true c2
  have c2b1 : decide (1048576 < l0.length) = true := decide_eq_true (by omega)
  clear c2
  obtain rfl := Option.some.inj H
  go_enter Try.func11, Try.ntmps11
  go_wp2
  repeat (go_quiet (fail); try go_wp2)
  go_ret
  exact ⟨pE, pB⟩
 ·rw [if_neg c2] at H
  have c2b0 : decide (1048576 < (l0.length : Int)) = false := decide_eq_false c2
  have c2b1 : decide (1048576 < l0.length) = false := decide_eq_false (by omega)
  clear c2
  replace H := Option.bind_eq_some_iff.mp H
  obtain ⟨⟨t711, t714, t717⟩, A30, H⟩ := H
  replace H : ((impl_DishUses.f k t711 t714 t717).bind fun t718 => ((spec_DishUses.f k t711 t714 t717).bind fun t721 => ((laws_sameInts.f k t718 t721).bind fun t724 => (if t724 = true then (laws_FnDishUses.j0 k t711 t717 t718 t721 ((t721.length : Int) == 0)) else (laws_FnDishUses.j0 k t711 t717 t718 t721 true))))) = some r := H
  have A3 := Aside0.mk A30
  clear A30
  replace H := Option.bind_eq_some_iff.mp H
  obtain ⟨t718, A40, H⟩ := H
  replace H : ((spec_DishUses.f k t711 t714 t717).bind fun t721 => ((laws_sameInts.f k t718 t721).bind fun t724 => (if t724 = true then (laws_FnDishUses.j0 k t711 t717 t718 t721 ((t721.length : Int) == 0)) else (laws_FnDishUses.j0 k t711 t717 t718 t721 true)))) = some r := H
  have A4 := Aside0.mk A40
  clear A40
  replace H := Option.bind_eq_some_iff.mp H
  obtain ⟨t721, A50, H⟩ := H
  replace H : ((laws_sameInts.f k t718 t721).bind fun t724 => (if t724 = true then (laws_FnDishUses.j0 k t711 t717 t718 t721 ((t721.length : Int) == 0)) else (laws_FnDishUses.j0 k t711 t717 t718 t721 true))) = some r := H
  have A5 := Aside0.mk A50
  clear A50
  have HC6 := Aside0.mk H
  clear H
  go_enter Try.func11, Try.ntmps11
  go_upto_region 6 with (first | (go_at_call 42; (with_reducible refine (spec_DrawDishUses.calls k _ _ l0 t711 t714 t717 _ ?side1 ?side2 A3.out).mono ?_); (case side1 => exact pS (HR0.out)); (case side2 => exact HC0.out); rintro e w7 ⟨v712, v715, rfl, ho0, ho1, hb⟩; have n0_ := Aside0.mk (Kd.N_lower (Kd.N_mono (ok' := fun k_ => some k_ ≠ (v715 : Value).ownBlock) ho0 (fun k_ hk_ => hk_.2)) (below_size pB)); have n1_ := Aside0.mk (Kd.R_lower (Kd.R_mono (ok' := fun k_ => True) ho1 (fun _ hk_ => trivial)) (below_size pB)); have n2_ := Aside0.mk (below_step pB hb); clear HB; have HO713 := n0_; have HO716 := n1_; have HB := n2_; clear n0_ n1_ n2_; (try clear hb); (try clear hb2); (try clear hk); (try clear hi); (try clear ho0); (try clear ho1); obtain ⟨Ao8, co8, eo8⟩ := Kd.N_slice HO713.out; subst eo8; obtain ⟨Ao9, co9, eo9⟩ := Kd.R_slice HO716.out; subst eo9) | (go_at_call 31; (with_reducible refine (impl_DishUses.calls k _ _ t711 _ _ t714 t717 t718 _ ?side1 ?side2 ?side3 ?side4 A4.out).mono ?_); (case side1 => exact pS ((Kd.N_reads' HO713.out).2.2)); (case side2 => exact (Kd.N_reads' HO713.out).2.1); (case side3 => exact pS ((Kd.R_reads' HO716.out).2.2)); (case side4 => exact (Kd.R_reads' HO716.out).2.1); rintro e w10 ⟨v719, rfl, ho0, hb⟩; have n0_ := Aside0.mk (Kd.N_elder' F11.q0 (Kd.R_base ho0) hb); have n1_ := Aside0.mk (Kd.R_below (pR HO716) hb); have n2_ := Aside0.mk (Kd.R_lower ho0 (below_size pB)); have n3_ := Aside0.mk (below_step pB hb); clear HO713; clear HO716; clear HB; have HO713 := n0_; have HO716 := n1_; have HO720 := n2_; have HB := n3_; clear n0_ n1_ n2_ n3_; (try clear hb); (try clear hb2); (try clear hk); (try clear hi); (try clear ho0)) | (go_at_call 30; (with_reducible refine (spec_DishUses.calls k _ _ t711 _ _ t714 t717 t721 _ ?side1 ?side2 ?side3 ?side4 A5.out).mono ?_); (case side1 => exact pS ((Kd.N_reads' HO713.out).2.2)); (case side2 => exact (Kd.N_reads' HO713.out).2.1); (case side3 => exact pS ((Kd.R_reads' HO716.out).2.2)); (case side4 => exact (Kd.R_reads' HO716.out).2.1); rintro e w11 ⟨v722, rfl, ho0, hb⟩; have n0_ := Aside0.mk (Kd.N_elder' F11.q0 (Kd.R_base ho0) hb); have n1_ := Aside0.mk (Kd.R_below (pR HO716) hb); have n2_ := Aside0.mk (Kd.R_elder' (pR HO720) (Kd.R_base ho0) hb); have n3_ := Aside0.mk (Kd.R_lower (Kd.R_new' ho0 (Kd.R_lt (pR HO720))) (below_size pB)); have n4_ := Aside0.mk (below_step pB hb); clear HO713; clear HO716; clear HO720; clear HB; have HO713 := n0_; have HO716 := n1_; have HO720 := n2_; have HO723 := n3_; have HB := n4_; clear n0_ n1_ n2_ n3_ n4_; (try clear hb); (try clear hb2); (try clear hk); (try clear hi); (try clear ho0)))
  repeat (go_quiet (first | (go_at_call 42; (with_reducible refine (spec_DrawDishUses.calls k _ _ l0 t711 t714 t717 _ ?side1 ?side2 A3.out).mono ?_); (case side1 => exact pS (HR0.out)); (case side2 => exact HC0.out); rintro e w7 ⟨v712, v715, rfl, ho0, ho1, hb⟩; have n0_ := Aside0.mk (Kd.N_lower (Kd.N_mono (ok' := fun k_ => some k_ ≠ (v715 : Value).ownBlock) ho0 (fun k_ hk_ => hk_.2)) (below_size pB)); have n1_ := Aside0.mk (Kd.R_lower (Kd.R_mono (ok' := fun k_ => True) ho1 (fun _ hk_ => trivial)) (below_size pB)); have n2_ := Aside0.mk (below_step pB hb); clear HB; have HO713 := n0_; have HO716 := n1_; have HB := n2_; clear n0_ n1_ n2_; (try clear hb); (try clear hb2); (try clear hk); (try clear hi); (try clear ho0); (try clear ho1); obtain ⟨Ao8, co8, eo8⟩ := Kd.N_slice HO713.out; subst eo8; obtain ⟨Ao9, co9, eo9⟩ := Kd.R_slice HO716.out; subst eo9) | (go_at_call 31; (with_reducible refine (impl_DishUses.calls k _ _ t711 _ _ t714 t717 t718 _ ?side1 ?side2 ?side3 ?side4 A4.out).mono ?_); (case side1 => exact pS ((Kd.N_reads' HO713.out).2.2)); (case side2 => exact (Kd.N_reads' HO713.out).2.1); (case side3 => exact pS ((Kd.R_reads' HO716.out).2.2)); (case side4 => exact (Kd.R_reads' HO716.out).2.1); rintro e w10 ⟨v719, rfl, ho0, hb⟩; have n0_ := Aside0.mk (Kd.N_elder' F11.q0 (Kd.R_base ho0) hb); have n1_ := Aside0.mk (Kd.R_below (pR HO716) hb); have n2_ := Aside0.mk (Kd.R_lower ho0 (below_size pB)); have n3_ := Aside0.mk (below_step pB hb); clear HO713; clear HO716; clear HB; have HO713 := n0_; have HO716 := n1_; have HO720 := n2_; have HB := n3_; clear n0_ n1_ n2_ n3_; (try clear hb); (try clear hb2); (try clear hk); (try clear hi); (try clear ho0)) | (go_at_call 30; (with_reducible refine (spec_DishUses.calls k _ _ t711 _ _ t714 t717 t721 _ ?side1 ?side2 ?side3 ?side4 A5.out).mono ?_); (case side1 => exact pS ((Kd.N_reads' HO713.out).2.2)); (case side2 => exact (Kd.N_reads' HO713.out).2.1); (case side3 => exact pS ((Kd.R_reads' HO716.out).2.2)); (case side4 => exact (Kd.R_reads' HO716.out).2.1); rintro e w11 ⟨v722, rfl, ho0, hb⟩; have n0_ := Aside0.mk (Kd.N_elder' F11.q0 (Kd.R_base ho0) hb); have n1_ := Aside0.mk (Kd.R_below (pR HO716) hb); have n2_ := Aside0.mk (Kd.R_elder' (pR HO720) (Kd.R_base ho0) hb); have n3_ := Aside0.mk (Kd.R_lower (Kd.R_new' ho0 (Kd.R_lt (pR HO720))) (below_size pB)); have n4_ := Aside0.mk (below_step pB hb); clear HO713; clear HO716; clear HO720; clear HB; have HO713 := n0_; have HO716 := n1_; have HO720 := n2_; have HO723 := n3_; have HB := n4_; clear n0_ n1_ n2_ n3_ n4_; (try clear hb); (try clear hb2); (try clear hk); (try clear hi); (try clear ho0))); go_upto_region 6 with (first | (go_at_call 42; (with_reducible refine (spec_DrawDishUses.calls k _ _ l0 t711 t714 t717 _ ?side1 ?side2 A3.out).mono ?_); (case side1 => exact pS (HR0.out)); (case side2 => exact HC0.out); rintro e w7 ⟨v712, v715, rfl, ho0, ho1, hb⟩; have n0_ := Aside0.mk (Kd.N_lower (Kd.N_mono (ok' := fun k_ => some k_ ≠ (v715 : Value).ownBlock) ho0 (fun k_ hk_ => hk_.2)) (below_size pB)); have n1_ := Aside0.mk (Kd.R_lower (Kd.R_mono (ok' := fun k_ => True) ho1 (fun _ hk_ => trivial)) (below_size pB)); have n2_ := Aside0.mk (below_step pB hb); clear HB; have HO713 := n0_; have HO716 := n1_; have HB := n2_; clear n0_ n1_ n2_; (try clear hb); (try clear hb2); (try clear hk); (try clear hi); (try clear ho0); (try clear ho1); obtain ⟨Ao8, co8, eo8⟩ := Kd.N_slice HO713.out; subst eo8; obtain ⟨Ao9, co9, eo9⟩ := Kd.R_slice HO716.out; subst eo9) | (go_at_call 31; (with_reducible refine (impl_DishUses.calls k _ _ t711 _ _ t714 t717 t718 _ ?side1 ?side2 ?side3 ?side4 A4.out).mono ?_); (case side1 => exact pS ((Kd.N_reads' HO713.out).2.2)); (case side2 => exact (Kd.N_reads' HO713.out).2.1); (case side3 => exact pS ((Kd.R_reads' HO716.out).2.2)); (case side4 => exact (Kd.R_reads' HO716.out).2.1); rintro e w10 ⟨v719, rfl, ho0, hb⟩; have n0_ := Aside0.mk (Kd.N_elder' F11.q0 (Kd.R_base ho0) hb); have n1_ := Aside0.mk (Kd.R_below (pR HO716) hb); have n2_ := Aside0.mk (Kd.R_lower ho0 (below_size pB)); have n3_ := Aside0.mk (below_step pB hb); clear HO713; clear HO716; clear HB; have HO713 := n0_; have HO716 := n1_; have HO720 := n2_; have HB := n3_; clear n0_ n1_ n2_ n3_; (try clear hb); (try clear hb2); (try clear hk); (try clear hi); (try clear ho0)) | (go_at_call 30; (with_reducible refine (spec_DishUses.calls k _ _ t711 _ _ t714 t717 t721 _ ?side1 ?side2 ?side3 ?side4 A5.out).mono ?_); (case side1 => exact pS ((Kd.N_reads' HO713.out).2.2)); (case side2 => exact (Kd.N_reads' HO713.out).2.1); (case side3 => exact pS ((Kd.R_reads' HO716.out).2.2)); (case side4 => exact (Kd.R_reads' HO716.out).2.1); rintro e w11 ⟨v722, rfl, ho0, hb⟩; have n0_ := Aside0.mk (Kd.N_elder' F11.q0 (Kd.R_base ho0) hb); have n1_ := Aside0.mk (Kd.R_below (pR HO716) hb); have n2_ := Aside0.mk (Kd.R_elder' (pR HO720) (Kd.R_base ho0) hb); have n3_ := Aside0.mk (Kd.R_lower (Kd.R_new' ho0 (Kd.R_lt (pR HO720))) (below_size pB)); have n4_ := Aside0.mk (below_step pB hb); clear HO713; clear HO716; clear HO720; clear HB; have HO713 := n0_; have HO716 := n1_; have HO720 := n2_; have HO723 := n3_; have HB := n4_; clear n0_ n1_ n2_ n3_ n4_; (try clear hb); (try clear hb2); (try clear hk); (try clear hi); (try clear ho0))))
  (try simp only [Act.put, List.setIfInBounds_toArray, List.set_cons_zero, List.set_cons_succ])
  go_cut [36] (fun v36 wc => ∃ (kq : Nat) (x36_5 : Bool), v36 = .bool x36_5 ∧ Aside0 (laws_FnDishUses.j0 kq t711 t717 t718 t721 x36_5 = some r) ∧ Aside0 (kq ≤ k) ∧ Aside0 (Kd.N k29 29 wc w.heap.size (fun k_ => some k_ ≠ (v719 : Value).ownBlock ∧ some k_ ≠ (v722 : Value).ownBlock) (.slice Ao8 t711.length co8) t711) ∧ Aside0 (Kd.R (Kd.int .i64) 3 wc w.heap.size (fun k_ => some k_ ≠ (v722 : Value).ownBlock) v719 t718) ∧ Aside0 (Kd.R (Kd.int .i64) 3 wc w.heap.size (fun k_ => some k_ ≠ (v719 : Value).ownBlock) v722 t721) ∧ Aside0 (Below w.heap.size w wc))
  case first =>
   have H := HC6.out
   clear HC6
   replace H := Option.bind_eq_some_iff.mp H
   obtain ⟨t724, A120, H⟩ := H
   replace H : (if t724 = true then (laws_FnDishUses.j0 k t711 t717 t718 t721 ((t721.length : Int) == 0)) else (laws_FnDishUses.j0 k t711 t717 t718 t721 true)) = some r := H
   have A12 := Aside0.mk A120
   clear A120
   by_cases c13 : t724 = true
   ·subst c13
    have H1 : (laws_FnDishUses.j0 k t711 t717 t718 t721 ((t721.length : Int) == 0)) = some r := by rw [if_pos rfl] at H; exact H
    clear H
    have H := H1
    clear H1
    have H' := Aside0.mk H
    clear H
    obtain ⟨Ao14, co14, eo14⟩ := Kd.R_slice HO720.out
    subst eo14
    obtain ⟨Ao15, co15, eo15⟩ := Kd.R_slice HO723.out
    subst eo15
    go_wp2_with (first | (go_at_call 43; (with_reducible refine (laws_sameInts.calls k _ _ t718 _ _ t721 true _ ?side1 ?side2 ?side3 ?side4 A12.out).mono ?_); (case side1 => exact pS ((Kd.R_reads' HO720.out).2.2)); (case side2 => exact (Kd.R_reads' HO720.out).2.1); (case side3 => exact pS ((Kd.R_reads' HO723.out).2.2)); (case side4 => exact (Kd.R_reads' HO723.out).2.1); rintro e w' ⟨rfl, ⟨nd, rfl⟩⟩; (try first | exact ⟨rfl, _, World.drewN_drewN _ _ _⟩ | exact ⟨rfl, _, Eq.trans (World.drewN_drewN _ _ _) (congrArg (World.drewN _) (Nat.add_assoc _ _ _))⟩)))
    repeat (go_quiet (first | (go_at_call 43; (with_reducible refine (laws_sameInts.calls k _ _ t718 _ _ t721 true _ ?side1 ?side2 ?side3 ?side4 A12.out).mono ?_); (case side1 => exact pS ((Kd.R_reads' HO720.out).2.2)); (case side2 => exact (Kd.R_reads' HO720.out).2.1); (case side3 => exact pS ((Kd.R_reads' HO723.out).2.2)); (case side4 => exact (Kd.R_reads' HO723.out).2.1); rintro e w' ⟨rfl, ⟨nd, rfl⟩⟩; (try first | exact ⟨rfl, _, World.drewN_drewN _ _ _⟩ | exact ⟨rfl, _, Eq.trans (World.drewN_drewN _ _ _) (congrArg (World.drewN _) (Nat.add_assoc _ _ _))⟩))); try go_wp2_with (first | (go_at_call 43; (with_reducible refine (laws_sameInts.calls k _ _ t718 _ _ t721 true _ ?side1 ?side2 ?side3 ?side4 A12.out).mono ?_); (case side1 => exact pS ((Kd.R_reads' HO720.out).2.2)); (case side2 => exact (Kd.R_reads' HO720.out).2.1); (case side3 => exact pS ((Kd.R_reads' HO723.out).2.2)); (case side4 => exact (Kd.R_reads' HO723.out).2.1); rintro e w' ⟨rfl, ⟨nd, rfl⟩⟩; (try first | exact ⟨rfl, _, World.drewN_drewN _ _ _⟩ | exact ⟨rfl, _, Eq.trans (World.drewN_drewN _ _ _) (congrArg (World.drewN _) (Nat.add_assoc _ _ _))⟩))))
    go_meet
    case rel => exact ⟨_, (((t721.length : Int) == 0)), pF, H', ⟨by first | omega | exact Nat.le_refl _⟩, ⟨by (with_reducible repeat (first | apply Kd.N_alloc | apply Kd.N_drewN | apply Kd.N_drew)); exact Kd.N_mono HO713.out (fun _ hk => ⟨hk.1.2, hk.2⟩)⟩, ⟨by (with_reducible repeat (first | apply Kd.R_alloc | apply Kd.R_drewN | apply Kd.R_drew)); exact Kd.R_mono HO720.out (fun _ hk => hk.2)⟩, ⟨by (with_reducible repeat (first | apply Kd.R_alloc | apply Kd.R_drewN | apply Kd.R_drew)); exact Kd.R_mono HO723.out (fun _ hk => hk.2)⟩, ⟨pB⟩⟩
   ·replace c13 := Bool.eq_false_iff.mpr c13
    subst c13
    have H1 : (laws_FnDishUses.j0 k t711 t717 t718 t721 true) = some r := by rw [if_neg (show ¬ (false = true) by decide)] at H; exact H
    clear H
    have H := H1
    clear H1
    have H' := Aside0.mk H
    clear H
    obtain ⟨Ao16, co16, eo16⟩ := Kd.R_slice HO720.out
    subst eo16
    obtain ⟨Ao17, co17, eo17⟩ := Kd.R_slice HO723.out
    subst eo17
    go_wp2_with (first | (go_at_call 43; (with_reducible refine (laws_sameInts.calls k _ _ t718 _ _ t721 false _ ?side1 ?side2 ?side3 ?side4 A12.out).mono ?_); (case side1 => exact pS ((Kd.R_reads' HO720.out).2.2)); (case side2 => exact (Kd.R_reads' HO720.out).2.1); (case side3 => exact pS ((Kd.R_reads' HO723.out).2.2)); (case side4 => exact (Kd.R_reads' HO723.out).2.1); rintro e w' ⟨rfl, ⟨nd, rfl⟩⟩; (try first | exact ⟨rfl, _, World.drewN_drewN _ _ _⟩ | exact ⟨rfl, _, Eq.trans (World.drewN_drewN _ _ _) (congrArg (World.drewN _) (Nat.add_assoc _ _ _))⟩)))
    repeat (go_quiet (first | (go_at_call 43; (with_reducible refine (laws_sameInts.calls k _ _ t718 _ _ t721 false _ ?side1 ?side2 ?side3 ?side4 A12.out).mono ?_); (case side1 => exact pS ((Kd.R_reads' HO720.out).2.2)); (case side2 => exact (Kd.R_reads' HO720.out).2.1); (case side3 => exact pS ((Kd.R_reads' HO723.out).2.2)); (case side4 => exact (Kd.R_reads' HO723.out).2.1); rintro e w' ⟨rfl, ⟨nd, rfl⟩⟩; (try first | exact ⟨rfl, _, World.drewN_drewN _ _ _⟩ | exact ⟨rfl, _, Eq.trans (World.drewN_drewN _ _ _) (congrArg (World.drewN _) (Nat.add_assoc _ _ _))⟩))); try go_wp2_with (first | (go_at_call 43; (with_reducible refine (laws_sameInts.calls k _ _ t718 _ _ t721 false _ ?side1 ?side2 ?side3 ?side4 A12.out).mono ?_); (case side1 => exact pS ((Kd.R_reads' HO720.out).2.2)); (case side2 => exact (Kd.R_reads' HO720.out).2.1); (case side3 => exact pS ((Kd.R_reads' HO723.out).2.2)); (case side4 => exact (Kd.R_reads' HO723.out).2.1); rintro e w' ⟨rfl, ⟨nd, rfl⟩⟩; (try first | exact ⟨rfl, _, World.drewN_drewN _ _ _⟩ | exact ⟨rfl, _, Eq.trans (World.drewN_drewN _ _ _) (congrArg (World.drewN _) (Nat.add_assoc _ _ _))⟩))))
    go_meet
    case rel => exact ⟨_, (true), pF, H', ⟨by first | omega | exact Nat.le_refl _⟩, ⟨by (with_reducible repeat (first | apply Kd.N_alloc | apply Kd.N_drewN | apply Kd.N_drew)); exact Kd.N_mono HO713.out (fun _ hk => ⟨hk.1.2, hk.2⟩)⟩, ⟨by (with_reducible repeat (first | apply Kd.R_alloc | apply Kd.R_drewN | apply Kd.R_drew)); exact Kd.R_mono HO720.out (fun _ hk => hk.2)⟩, ⟨by (with_reducible repeat (first | apply Kd.R_alloc | apply Kd.R_drewN | apply Kd.R_drew)); exact Kd.R_mono HO723.out (fun _ hk => hk.2)⟩, ⟨pB⟩⟩
  case rest =>
   clear HC6
   try clear c1
   try clear c2
   try clear c2b0
   try clear c2b1
   try clear p2
   try clear c11
   try clear c13
   obtain ⟨kq, x36_5, rfl, HA, HJ5, HO_3, HO_6, HO_7, HB⟩ := hcut
   cases kq with
   | zero => exact absurd HA.out (by simp [laws_FnDishUses.j0])
   | succ kj5 =>
    have H := HA.out
    clear HA
    simp only [laws_FnDishUses.j0] at H
    by_cases c18 : x36_5 = true
    ·subst c18
     have H1 : ((laws_sameInts.f kj5 t718 t721).bind fun t725 => (some t725)) = some r := by rw [if_pos rfl] at H; exact H
     clear H
     have H := H1
     clear H1
     replace H := Option.bind_eq_some_iff.mp H
     obtain ⟨t725, A190, H⟩ := H
     replace H : (some t725) = some r := H
     have A19 := Aside0.mk A190
     clear A190
     obtain rfl := Option.some.inj H
     obtain ⟨Ao20, co20, eo20⟩ := Kd.R_slice HO_6.out
     subst eo20
     obtain ⟨Ao21, co21, eo21⟩ := Kd.R_slice HO_7.out
     subst eo21
     go_wp2_with (first | (go_at_call 43; (with_reducible refine (laws_sameInts.calls kj5 _ _ t718 _ _ t721 t725 _ ?side1 ?side2 ?side3 ?side4 A19.out).mono ?_); (case side1 => exact pS ((Kd.R_reads' HO_6.out).2.2)); (case side2 => exact (Kd.R_reads' HO_6.out).2.1); (case side3 => exact pS ((Kd.R_reads' HO_7.out).2.2)); (case side4 => exact (Kd.R_reads' HO_7.out).2.1); rintro e w' ⟨rfl, ⟨nd, rfl⟩⟩; (try first | exact ⟨rfl, _, World.drewN_drewN _ _ _⟩ | exact ⟨rfl, _, Eq.trans (World.drewN_drewN _ _ _) (congrArg (World.drewN _) (Nat.add_assoc _ _ _))⟩)))
     repeat (go_quiet (first | (go_at_call 43; (with_reducible refine (laws_sameInts.calls kj5 _ _ t718 _ _ t721 t725 _ ?side1 ?side2 ?side3 ?side4 A19.out).mono ?_); (case side1 => exact pS ((Kd.R_reads' HO_6.out).2.2)); (case side2 => exact (Kd.R_reads' HO_6.out).2.1); (case side3 => exact pS ((Kd.R_reads' HO_7.out).2.2)); (case side4 => exact (Kd.R_reads' HO_7.out).2.1); rintro e w' ⟨rfl, ⟨nd, rfl⟩⟩; (try first | exact ⟨rfl, _, World.drewN_drewN _ _ _⟩ | exact ⟨rfl, _, Eq.trans (World.drewN_drewN _ _ _) (congrArg (World.drewN _) (Nat.add_assoc _ _ _))⟩))); try go_wp2_with (first | (go_at_call 43; (with_reducible refine (laws_sameInts.calls kj5 _ _ t718 _ _ t721 t725 _ ?side1 ?side2 ?side3 ?side4 A19.out).mono ?_); (case side1 => exact pS ((Kd.R_reads' HO_6.out).2.2)); (case side2 => exact (Kd.R_reads' HO_6.out).2.1); (case side3 => exact pS ((Kd.R_reads' HO_7.out).2.2)); (case side4 => exact (Kd.R_reads' HO_7.out).2.1); rintro e w' ⟨rfl, ⟨nd, rfl⟩⟩; (try first | exact ⟨rfl, _, World.drewN_drewN _ _ _⟩ | exact ⟨rfl, _, Eq.trans (World.drewN_drewN _ _ _) (congrArg (World.drewN _) (Nat.add_assoc _ _ _))⟩))))
     go_ret
     exact ⟨pE, pB⟩
    ·replace c18 := Bool.eq_false_iff.mpr c18
     subst c18
     have H1 : (laws_FnDishUses.l0 kj5 t711 t717 t718 0) = some r := by rw [if_neg (show ¬ (false = true) by decide)] at H; exact H
     clear H
     have H := H1
     clear H1
     have H' := Aside0.mk H
     clear H
     go_wp2
     repeat (go_quiet (fail); try go_wp2)
     go_loopg [8] kj5 (fun kq v8 w' => ∃ (x8_2 : Int), v8 = .int .i64 x8_2 ∧ Aside0 (laws_FnDishUses.l0 kq t711 t717 t718 x8_2 = some r) ∧ Aside0 (kq ≤ kj5) ∧ Aside0 (Kd.N k29 29 w' w.heap.size (fun k_ => some k_ ≠ (v719 : Value).ownBlock) (.slice Ao8 t711.length co8) t711) ∧ Aside0 (Kd.R (Kd.int .i64) 3 w' w.heap.size (fun _ => True) v719 t718) ∧ Aside0 (Below w.heap.size w w'))
     case atStart => exact ⟨(0), pF, H', ⟨Nat.le_refl _⟩, ⟨by (with_reducible repeat (first | apply Kd.N_alloc | apply Kd.N_drewN | apply Kd.N_drew)); exact Kd.N_mono HO_3.out (fun _ hk => hk.1)⟩, ⟨by (with_reducible repeat (first | apply Kd.R_alloc | apply Kd.R_drewN | apply Kd.R_drew)); exact Kd.R_mono HO_6.out (fun _ hk => trivial)⟩, ⟨pB⟩⟩
     case round =>
      clear H'
      try clear c1
      try clear c2
      try clear c2b0
      try clear c2b1
      try clear p2
      try clear c11
      try clear c13
      try clear c18
      try clear p2
      obtain ⟨x8_2, rfl, HA, HK2, HO_3, HO_6, HB⟩ := hrel
      cases gk with
      | zero => exact absurd HA.out (by simp [laws_FnDishUses.l0])
      | succ k2 =>
       have H := HA.out
       clear HA
       simp only [laws_FnDishUses.l0] at H
       by_cases c22 : x8_2 < (t718.length : Int)
       ·rw [if_pos c22] at H
        have c22b0 : decide (x8_2 < (t718.length : Int)) = true := decide_eq_true c22
        clear c22
        by_cases c23 : 0 ≤ x8_2
        ·rw [if_pos c23] at H
         have c23b0 : decide (0 ≤ x8_2) = true := decide_eq_true c23
         clear c23
         replace H := Option.bind_eq_some_iff.mp H
         obtain ⟨t728, A240, H⟩ := H
         replace H : (if t728 < 0 then (laws_FnDishUses.j2 k2 t711 t717 t718 x8_2 t728 true) else (if x8_2 > 0 then (if 0 ≤ (wrap64 (x8_2 - 1)) then (if (wrap64 (x8_2 - 1)) < (t718.length : Int) then (if (rd t718 (wrap64 (x8_2 - 1))) ≥ (rd t718 x8_2) then (laws_FnDishUses.j2 k2 t711 t717 t718 x8_2 t728 true) else (laws_FnDishUses.j2 k2 t711 t717 t718 x8_2 t728 (decide ((rd t718 x8_2) > t717)))) else (none)) else (none)) else (laws_FnDishUses.j2 k2 t711 t717 t718 x8_2 t728 (decide ((rd t718 x8_2) > t717))))) = some r := H
         have A24 := Aside0.mk A240
         clear A240
         have HC25 := Aside0.mk H
         clear H
         obtain ⟨Ao26, co26, eo26⟩ := Kd.R_slice HO_6.out
         subst eo26
         have p727 : 0 ≤ (x8_2 : Int) := of_decide_eq_true pA
         have q727 : x8_2 < (t718.length : Int) := of_decide_eq_true pA
         obtain ⟨ad727, e727, hx727_0⟩ := Kd.at_int (Kd.R_reads' HO_6.out).2.2 x8_2 p727 q727
         cases e727
         replace p727 := eq_true p727
         replace q727 := eq_true q727
         go_upto_region 12 with (first | (go_at_call 20; (with_reducible refine (impl_DishesFind.calls _ _ t711 (rd t718 x8_2) t728 _ ?side1 ?side2 A24.out).mono ?_); (case side1 => exact pS ((Kd.N_reads' HO_3.out).2.2)); (case side2 => exact (Kd.N_reads' HO_3.out).2.1); rintro e w27 ⟨rfl, hb⟩; have n0_ := Aside0.mk (Kd.N_below (by (with_reducible repeat (first | apply Kd.N_alloc | apply Kd.N_drewN | apply Kd.N_drew)); exact HO_3.out) hb); have n1_ := Aside0.mk (Kd.R_below (pR HO_6) hb); have n2_ := Aside0.mk (below_step pB hb); clear HO_3; clear HO_6; clear HB; have HO_3 := n0_; have HO_6 := n1_; have HB := n2_; clear n0_ n1_ n2_; (try clear hb); (try clear hb2); (try clear hk); (try clear hi)))
         repeat (go_quiet (first | (go_at_call 20; (with_reducible refine (impl_DishesFind.calls _ _ t711 (rd t718 x8_2) t728 _ ?side1 ?side2 A24.out).mono ?_); (case side1 => exact pS ((Kd.N_reads' HO_3.out).2.2)); (case side2 => exact (Kd.N_reads' HO_3.out).2.1); rintro e w27 ⟨rfl, hb⟩; have n0_ := Aside0.mk (Kd.N_below (by (with_reducible repeat (first | apply Kd.N_alloc | apply Kd.N_drewN | apply Kd.N_drew)); exact HO_3.out) hb); have n1_ := Aside0.mk (Kd.R_below (pR HO_6) hb); have n2_ := Aside0.mk (below_step pB hb); clear HO_3; clear HO_6; clear HB; have HO_3 := n0_; have HO_6 := n1_; have HB := n2_; clear n0_ n1_ n2_; (try clear hb); (try clear hb2); (try clear hk); (try clear hi))); go_upto_region 12 with (first | (go_at_call 20; (with_reducible refine (impl_DishesFind.calls _ _ t711 (rd t718 x8_2) t728 _ ?side1 ?side2 A24.out).mono ?_); (case side1 => exact pS ((Kd.N_reads' HO_3.out).2.2)); (case side2 => exact (Kd.N_reads' HO_3.out).2.1); rintro e w27 ⟨rfl, hb⟩; have n0_ := Aside0.mk (Kd.N_below (by (with_reducible repeat (first | apply Kd.N_alloc | apply Kd.N_drewN | apply Kd.N_drew)); exact HO_3.out) hb); have n1_ := Aside0.mk (Kd.R_below (pR HO_6) hb); have n2_ := Aside0.mk (below_step pB hb); clear HO_3; clear HO_6; clear HB; have HO_3 := n0_; have HO_6 := n1_; have HB := n2_; clear n0_ n1_ n2_; (try clear hb); (try clear hb2); (try clear hk); (try clear hi))))
         (try simp only [Act.put, List.setIfInBounds_toArray, List.set_cons_zero, List.set_cons_succ])
         go_cut [77] (fun v77 wc => ∃ (kq : Nat) (x77_24 : Bool), v77 = .bool x77_24 ∧ Aside0 (laws_FnDishUses.j2 kq t711 t717 t718 x8_2 t728 x77_24 = some r) ∧ Aside0 (kq ≤ k2) ∧ Aside0 (Kd.N k29 29 wc w.heap.size (fun k_ => some k_ ≠ ((.slice (some ad727) t718.length co26) : Value).ownBlock) (.slice Ao8 t711.length co8) t711) ∧ Aside0 (Kd.R (Kd.int .i64) 3 wc w.heap.size (fun _ => True) (.slice (some ad727) t718.length co26) t718) ∧ Aside0 (Below w.heap.size w wc))
         case first =>
          have H := HC25.out
          clear HC25
          by_cases c28 : t728 < 0
          ·rw [if_pos c28] at H
           have c28b0 : decide (t728 < 0) = true := decide_eq_true c28
           clear c28
           (first | rw [c28b0] | (simp only [i64_w, i32_w]; rw [c28b0]) | skip)
           have H' := Aside0.mk H
           clear H
           go_wp2
           repeat (go_quiet (fail); try go_wp2)
           go_meet
           case rel => exact ⟨_, (true), pF, H', ⟨by have := HJ5.out; have := HK2.out; first | omega | exact Nat.le_refl _⟩, ⟨by (with_reducible repeat (first | apply Kd.N_alloc | apply Kd.N_drewN | apply Kd.N_drew)); exact HO_3.out⟩, ⟨pR HO_6⟩, ⟨pB⟩⟩
          ·rw [if_neg c28] at H
           have c28b0 : decide (t728 < 0) = false := decide_eq_false c28
           clear c28
           (first | rw [c28b0] | (simp only [i64_w, i32_w]; rw [c28b0]) | skip)
           by_cases c29 : x8_2 > 0
           ·rw [if_pos c29] at H
            have c29b0 : decide (0 < x8_2) = true := decide_eq_true c29
            clear c29
            obtain ⟨ji30, hji30⟩ : ∃ j_ : Int, (wrap64 (x8_2 - 1)) = j_ := ⟨_, rfl⟩
            replace H : (if 0 ≤ (ji30) then (if (ji30) < (t718.length : Int) then (if (rd t718 (ji30)) ≥ (rd t718 x8_2) then (laws_FnDishUses.j2 k2 t711 t717 t718 x8_2 t728 true) else (laws_FnDishUses.j2 k2 t711 t717 t718 x8_2 t728 (decide ((rd t718 x8_2) > t717)))) else (none)) else (none)) = some r := by first | (rw [hji30] at H; exact H) | (simp only [hji30] at H ⊢; exact H)
            have hji30w : (IntKind.i64.wrap (x8_2 - 1)) = ji30 := (i64_w _).trans hji30
            by_cases c31 : 0 ≤ (ji30)
            ·rw [if_pos c31] at H
             have c31b0 : decide (0 ≤ (ji30)) = true := decide_eq_true c31
             clear c31
             by_cases c32 : (ji30) < (t718.length : Int)
             ·rw [if_pos c32] at H
              have c32b0 : decide ((ji30) < (t718.length : Int)) = true := decide_eq_true c32
              clear c32
              by_cases c33 : (rd t718 (ji30)) ≥ (rd t718 x8_2)
              ·rw [if_pos c33] at H
               have c33b0 : decide ((rd t718 x8_2) ≤ (rd t718 (ji30))) = true := decide_eq_true c33
               clear c33
               have H' := Aside0.mk H
               clear H
               have p729 : 0 ≤ ((ji30) : Int) := of_decide_eq_true pA
               have q729 : (ji30) < (t718.length : Int) := of_decide_eq_true pA
               obtain ⟨ad729, e729, hx729_0⟩ := Kd.at_int (Kd.R_reads' HO_6.out).2.2 (ji30) p729 q729
               obtain rfl : ad727 = ad729 := (by injection e729)
               replace p729 := eq_true p729
               replace q729 := eq_true q729
               have p730 : 0 ≤ (x8_2 : Int) := of_decide_eq_true pA
               have q730 : x8_2 < (t718.length : Int) := of_decide_eq_true pA
               obtain ⟨ad730, e730, hx730_0⟩ := Kd.at_int (Kd.R_reads' HO_6.out).2.2 x8_2 p730 q730
               obtain rfl : ad727 = ad730 := (by injection e730)
               replace p730 := eq_true p730
               replace q730 := eq_true q730
               go_wp2
               repeat (go_quiet (fail); try go_wp2)
               go_meet
               case rel => exact ⟨_, (true), pF, H', ⟨by have := HJ5.out; have := HK2.out; first | omega | exact Nat.le_refl _⟩, ⟨by (with_reducible repeat (first | apply Kd.N_alloc | apply Kd.N_drewN | apply Kd.N_drew)); exact HO_3.out⟩, ⟨pR HO_6⟩, ⟨pB⟩⟩
              ·rw [if_neg c33] at H
               have c33b0 : decide ((rd t718 x8_2) ≤ (rd t718 (ji30))) = false := decide_eq_false c33
               clear c33
               have H' := Aside0.mk H
               clear H
               have p729 : 0 ≤ ((ji30) : Int) := of_decide_eq_true pA
               have q729 : (ji30) < (t718.length : Int) := of_decide_eq_true pA
               obtain ⟨ad729, e729, hx729_0⟩ := Kd.at_int (Kd.R_reads' HO_6.out).2.2 (ji30) p729 q729
               obtain rfl : ad727 = ad729 := (by injection e729)
               replace p729 := eq_true p729
               replace q729 := eq_true q729
               have p730 : 0 ≤ (x8_2 : Int) := of_decide_eq_true pA
               have q730 : x8_2 < (t718.length : Int) := of_decide_eq_true pA
               obtain ⟨ad730, e730, hx730_0⟩ := Kd.at_int (Kd.R_reads' HO_6.out).2.2 x8_2 p730 q730
               obtain rfl : ad727 = ad730 := (by injection e730)
               replace p730 := eq_true p730
               replace q730 := eq_true q730
               have p731 : 0 ≤ (x8_2 : Int) := of_decide_eq_true pA
               have q731 : x8_2 < (t718.length : Int) := of_decide_eq_true pA
               obtain ⟨ad731, e731, hx731_0⟩ := Kd.at_int (Kd.R_reads' HO_6.out).2.2 x8_2 p731 q731
               obtain rfl : ad727 = ad731 := (by injection e731)
               replace p731 := eq_true p731
               replace q731 := eq_true q731
               go_wp2
               repeat (go_quiet (fail); try go_wp2)
               go_meet
               case rel => exact ⟨_, (decide ((rd t718 x8_2) > t717)), pF, H', ⟨by have := HJ5.out; have := HK2.out; first | omega | exact Nat.le_refl _⟩, ⟨by (with_reducible repeat (first | apply Kd.N_alloc | apply Kd.N_drewN | apply Kd.N_drew)); exact HO_3.out⟩, ⟨pR HO_6⟩, ⟨pB⟩⟩
             ·rw [if_neg c32] at H
              exact absurd H (by simp)
            ·rw [if_neg c31] at H
             exact absurd H (by simp)
           ·rw [if_neg c29] at H
            have c29b0 : decide (0 < x8_2) = false := decide_eq_false c29
            clear c29
            have H' := Aside0.mk H
            clear H
            have p732 : 0 ≤ (x8_2 : Int) := of_decide_eq_true pA
            have q732 : x8_2 < (t718.length : Int) := of_decide_eq_true pA
            obtain ⟨ad732, e732, hx732_0⟩ := Kd.at_int (Kd.R_reads' HO_6.out).2.2 x8_2 p732 q732
            obtain rfl : ad727 = ad732 := (by injection e732)
            replace p732 := eq_true p732
            replace q732 := eq_true q732
            go_wp2
            repeat (go_quiet (fail); try go_wp2)
            go_meet
            case rel => exact ⟨_, (decide ((rd t718 x8_2) > t717)), pF, H', ⟨by have := HJ5.out; have := HK2.out; first | omega | exact Nat.le_refl _⟩, ⟨by (with_reducible repeat (first | apply Kd.N_alloc | apply Kd.N_drewN | apply Kd.N_drew)); exact HO_3.out⟩, ⟨pR HO_6⟩, ⟨pB⟩⟩
         case rest =>
          clear HC25
          try clear c1
          try clear c2
          try clear c2b0
          try clear c2b1
          try clear p2
          try clear c3
          try clear p6
          try clear p7
          try clear q7
          try clear hx7
          try clear c11
          try clear c13
          try clear c18
          try clear c22
          try clear c22b0
          try clear c23
          try clear c23b0
          try clear c28
          try clear c28b0
          try clear c29
          try clear c29b0
          try clear c31
          try clear c31b0
          try clear c32
          try clear c32b0
          try clear c33
          try clear c33b0
          try clear hx727_0
          try clear hx729_0
          try clear hx730_0
          try clear hx731_0
          try clear hx732_0
          try clear p2
          try clear p727
          try clear p729
          try clear p730
          try clear p731
          try clear p732
          try clear q727
          try clear q729
          try clear q730
          try clear q731
          try clear q732
          obtain ⟨kq, x77_24, rfl, HA, HJ24, HO_3, HO_6, HB⟩ := hcut
          cases kq with
          | zero => exact absurd HA.out (by simp [laws_FnDishUses.j2])
          | succ kj24 =>
           have H := HA.out
           clear HA
           simp only [laws_FnDishUses.j2] at H
           by_cases c34 : x77_24 = true
           ·subst c34
            have H1 : (some false) = some r := by rw [if_pos rfl] at H; exact H
            clear H
            have H := H1
            clear H1
            obtain rfl := Option.some.inj H
            go_wp2
            repeat (go_quiet (fail); try go_wp2)
            go_ret
            exact ⟨pE, pB⟩
           ·replace c34 := Bool.eq_false_iff.mpr c34
            subst c34
            have H1 : (laws_FnDishUses.l1 kj24 t711 t717 t718 x8_2 t728 0) = some r := by rw [if_neg (show ¬ (false = true) by decide)] at H; exact H
            clear H
            have H := H1
            clear H1
            have H' := Aside0.mk H
            clear H
            go_wp2
            repeat (go_quiet (fail); try go_wp2)
            go_loopg [10] kj24 (fun kq v10 w' => ∃ (x10_4 : Int), v10 = .int .i64 x10_4 ∧ Aside0 (laws_FnDishUses.l1 kq t711 t717 t718 x8_2 t728 x10_4 = some r) ∧ Aside0 (kq ≤ kj24) ∧ Aside0 (Kd.N k29 29 w' w.heap.size (fun k_ => some k_ ≠ ((.slice (some ad727) t718.length co26) : Value).ownBlock) (.slice Ao8 t711.length co8) t711) ∧ Aside0 (Kd.R (Kd.int .i64) 3 w' w.heap.size (fun _ => True) (.slice (some ad727) t718.length co26) t718) ∧ Aside0 (Below w.heap.size w w'))
            case atStart => exact ⟨(0), pF, H', ⟨Nat.le_refl _⟩, ⟨by (with_reducible repeat (first | apply Kd.N_alloc | apply Kd.N_drewN | apply Kd.N_drew)); exact HO_3.out⟩, ⟨pR HO_6⟩, ⟨pB⟩⟩
            case round =>
             clear H'
             try clear c1
             try clear c2
             try clear c2b0
             try clear c2b1
             try clear p2
             try clear c3
             try clear p6
             try clear p7
             try clear q7
             try clear hx7
             try clear c11
             try clear c13
             try clear c18
             try clear c22
             try clear c22b0
             try clear c23
             try clear c23b0
             try clear c28
             try clear c28b0
             try clear c29
             try clear c29b0
             try clear c31
             try clear c31b0
             try clear c32
             try clear c32b0
             try clear c33
             try clear c33b0
             try clear c34
             try clear hx727_0
             try clear hx729_0
             try clear hx730_0
             try clear hx731_0
             try clear hx732_0
             try clear p2
             try clear p6
             try clear p7
             try clear p727
             try clear p729
             try clear p730
             try clear p731
             try clear p732
             try clear q7
             try clear q727
             try clear q729
             try clear q730
             try clear q731
             try clear q732
             obtain ⟨x10_4, rfl, HA, HK4, HO_3, HO_6, HB⟩ := hrel
             cases gk with
             | zero => exact absurd HA.out (by simp [laws_FnDishUses.l1])
             | succ k4 =>
              have H := HA.out
              clear HA
              simp only [laws_FnDishUses.l1] at H
              by_cases c35 : 0 ≤ t728
              ·rw [if_pos c35] at H
               have c35b0 : decide (0 ≤ t728) = true := decide_eq_true c35
               clear c35
               by_cases c36 : t728 < (t711.length : Int)
               ·rw [if_pos c36] at H
                have c36b0 : decide (t728 < (t711.length : Int)) = true := decide_eq_true c36
                clear c36
                by_cases c37 : x10_4 < (((rd_T29 t711 t728).f2).length : Int)
                ·rw [if_pos c37] at H
                 have c37b0 : decide (x10_4 < (((rd_T29 t711 t728).f2).length : Int)) = true := decide_eq_true c37
                 clear c37
                 by_cases c38 : 0 ≤ x10_4
                 ·rw [if_pos c38] at H
                  have c38b0 : decide (0 ≤ x10_4) = true := decide_eq_true c38
                  clear c38
                  by_cases c39 : ((rd_T55 ((rd_T29 t711 t728).f2) x10_4).f1) > 0
                  ·rw [if_pos c39] at H
                   have c39b0 : decide (0 < ((rd_T55 ((rd_T29 t711 t728).f2) x10_4).f1)) = true := decide_eq_true c39
                   clear c39
                   replace H := Option.bind_eq_some_iff.mp H
                   obtain ⟨t738, A400, H⟩ := H
                   replace H : (if t738 = true then (laws_FnDishUses.l1 k4 t711 t717 t718 x8_2 t728 (wrap64 (x10_4 + 1))) else (some false)) = some r := H
                   have A40 := Aside0.mk A400
                   clear A400
                   by_cases c41 : t738 = true
                   ·subst c41
                    have H1 : (laws_FnDishUses.l1 k4 t711 t717 t718 x8_2 t728 (wrap64 (x10_4 + 1))) = some r := by rw [if_pos rfl] at H; exact H
                    clear H
                    have H := H1
                    clear H1
                    have H' := Aside0.mk H
                    clear H
                    have p733 : 0 ≤ (t728 : Int) := of_decide_eq_true pA
                    have q733 : t728 < (t711.length : Int) := of_decide_eq_true pA
                    obtain ⟨ad733, A733_2, c733_2, e733, hx733_0, hx733_1, hx733_2, hl733_2, hi733_2⟩ := at_T29 (Kd.N_reads' HO_3.out).2.2 t728 p733 q733
                    cases e733
                    obtain ⟨ce733, hce733, hMe733, hcc733⟩ := Kd.N_get HO_3.out z29 t728 p733 (by first | exact q733 | exact of_decide_eq_true pA | (have e_ := (Kd.N_reads' HO_3.out).1; omega))
                    obtain ⟨ua733_2, uc733_2, rfl, ul733_2, ge733_2⟩ := k29_openF hMe733
                    have hv733_2 := hcc733 2 _ rfl
                    rw [add_field _ _ 2 (by omega)] at hv733_2
                    replace hv733_2 := Option.some.inj (hv733_2.symm.trans hx733_2)
                    injection hv733_2 with hva_ hvn_ hvc_
                    rw [hva_] at ge733_2
                    rw [hvc_] at ul733_2
                    have HL733_2 := Aside0.mk (show Kd.V k55 55 _ w.heap.size _ _ ((rd_T29 t711 t728).f2) from Kd.V_mk ul733_2 ge733_2)
                    clear hva_ hvn_ hvc_ ge733_2 ul733_2
                    clear hcc733 hce733
                    have HR733_2 := Aside0.mk hi733_2
                    have HC733_2 := Aside0.mk hl733_2
                    clear hi733_2 hl733_2
                    replace p733 := eq_true p733
                    replace q733 := eq_true q733
                    have p734 : 0 ≤ (t728 : Int) := of_decide_eq_true pA
                    have q734 : t728 < (t711.length : Int) := of_decide_eq_true pA
                    obtain ⟨ad734, A734_2, c734_2, e734, hx734_0, hx734_1, hx734_2, hl734_2, hi734_2⟩ := at_T29 (Kd.N_reads' HO_3.out).2.2 t728 p734 q734
                    obtain rfl : ad733 = ad734 := (by injection e734)
                    obtain ⟨ce734, hce734, hMe734, hcc734⟩ := Kd.N_get HO_3.out z29 t728 p734 (by first | exact q734 | exact of_decide_eq_true pA | (have e_ := (Kd.N_reads' HO_3.out).1; omega))
                    obtain ⟨ua734_2, uc734_2, rfl, ul734_2, ge734_2⟩ := k29_openF hMe734
                    have hv734_2 := hcc734 2 _ rfl
                    rw [add_field _ _ 2 (by omega)] at hv734_2
                    replace hv734_2 := Option.some.inj (hv734_2.symm.trans hx734_2)
                    injection hv734_2 with hva_ hvn_ hvc_
                    rw [hva_] at ge734_2
                    rw [hvc_] at ul734_2
                    have HL734_2 := Aside0.mk (show Kd.V k55 55 _ w.heap.size _ _ ((rd_T29 t711 t728).f2) from Kd.V_mk ul734_2 ge734_2)
                    clear hva_ hvn_ hvc_ ge734_2 ul734_2
                    clear hcc734 hce734
                    have HR734_2 := Aside0.mk hi734_2
                    have HC734_2 := Aside0.mk hl734_2
                    clear hi734_2 hl734_2
                    replace p734 := eq_true p734
                    replace q734 := eq_true q734
                    have ea_ := Option.some.inj (hx733_2.symm.trans hx734_2)
                    injection ea_ with ea_ en_ ec_
                    subst ea_
                    subst ec_
                    clear en_
                    have p735 : 0 ≤ (x10_4 : Int) := of_decide_eq_true pA
                    have q735 : x10_4 < (((rd_T29 t711 t728).f2).length : Int) := of_decide_eq_true pA
                    obtain ⟨ad735, e735, hx735_0, hx735_1, hx735_2⟩ := at_T55 (by repeat (first | (with_reducible exact HR734_2.out) | (with_reducible refine Kd.C_alloc ?_ _) | (with_reducible refine Kd.C_drewN ?_ _) | (with_reducible refine Kd.C_drew ?_) | exact HR734_2.out)) x10_4 p735 q735
                    cases e735
                    replace p735 := eq_true p735
                    replace q735 := eq_true q735
                    have p736 : 0 ≤ (t728 : Int) := of_decide_eq_true pA
                    have q736 : t728 < (t711.length : Int) := of_decide_eq_true pA
                    obtain ⟨ad736, A736_2, c736_2, e736, hx736_0, hx736_1, hx736_2, hl736_2, hi736_2⟩ := at_T29 (Kd.N_reads' HO_3.out).2.2 t728 p736 q736
                    obtain rfl : ad733 = ad736 := (by injection e736)
                    obtain ⟨ce736, hce736, hMe736, hcc736⟩ := Kd.N_get HO_3.out z29 t728 p736 (by first | exact q736 | exact of_decide_eq_true pA | (have e_ := (Kd.N_reads' HO_3.out).1; omega))
                    obtain ⟨ua736_2, uc736_2, rfl, ul736_2, ge736_2⟩ := k29_openF hMe736
                    have hv736_2 := hcc736 2 _ rfl
                    rw [add_field _ _ 2 (by omega)] at hv736_2
                    replace hv736_2 := Option.some.inj (hv736_2.symm.trans hx736_2)
                    injection hv736_2 with hva_ hvn_ hvc_
                    rw [hva_] at ge736_2
                    rw [hvc_] at ul736_2
                    have HL736_2 := Aside0.mk (show Kd.V k55 55 _ w.heap.size _ _ ((rd_T29 t711 t728).f2) from Kd.V_mk ul736_2 ge736_2)
                    clear hva_ hvn_ hvc_ ge736_2 ul736_2
                    clear hcc736 hce736
                    have HR736_2 := Aside0.mk hi736_2
                    have HC736_2 := Aside0.mk hl736_2
                    clear hi736_2 hl736_2
                    replace p736 := eq_true p736
                    replace q736 := eq_true q736
                    have ea_ := Option.some.inj (hx733_2.symm.trans hx736_2)
                    injection ea_ with ea_ en_ ec_
                    subst ea_
                    subst ec_
                    clear en_
                    have p737 : 0 ≤ (x10_4 : Int) := of_decide_eq_true pA
                    have q737 : x10_4 < (((rd_T29 t711 t728).f2).length : Int) := of_decide_eq_true pA
                    obtain ⟨ad737, e737, hx737_0, hx737_1, hx737_2⟩ := at_T55 (by repeat (first | (with_reducible exact HR736_2.out) | (with_reducible refine Kd.C_alloc ?_ _) | (with_reducible refine Kd.C_drewN ?_ _) | (with_reducible refine Kd.C_drew ?_) | exact HR736_2.out)) x10_4 p737 q737
                    cases e737
                    replace p737 := eq_true p737
                    replace q737 := eq_true q737
                    go_wp2_with (first | (go_at_call 44; (with_reducible refine (laws_hasInt.calls k4 _ _ t718 ((rd_T55 ((rd_T29 t711 t728).f2) x10_4).f1) true _ ?side1 ?side2 A40.out).mono ?_); (case side1 => exact pS ((Kd.R_reads' HO_6.out).2.2)); (case side2 => exact (Kd.R_reads' HO_6.out).2.1); rintro e w' ⟨rfl, ⟨nd, rfl⟩⟩; (try first | exact ⟨rfl, _, World.drewN_drewN _ _ _⟩ | exact ⟨rfl, _, Eq.trans (World.drewN_drewN _ _ _) (congrArg (World.drewN _) (Nat.add_assoc _ _ _))⟩)))
                    repeat (go_quiet (first | (go_at_call 44; (with_reducible refine (laws_hasInt.calls k4 _ _ t718 ((rd_T55 ((rd_T29 t711 t728).f2) x10_4).f1) true _ ?side1 ?side2 A40.out).mono ?_); (case side1 => exact pS ((Kd.R_reads' HO_6.out).2.2)); (case side2 => exact (Kd.R_reads' HO_6.out).2.1); rintro e w' ⟨rfl, ⟨nd, rfl⟩⟩; (try first | exact ⟨rfl, _, World.drewN_drewN _ _ _⟩ | exact ⟨rfl, _, Eq.trans (World.drewN_drewN _ _ _) (congrArg (World.drewN _) (Nat.add_assoc _ _ _))⟩))); try go_wp2_with (first | (go_at_call 44; (with_reducible refine (laws_hasInt.calls k4 _ _ t718 ((rd_T55 ((rd_T29 t711 t728).f2) x10_4).f1) true _ ?side1 ?side2 A40.out).mono ?_); (case side1 => exact pS ((Kd.R_reads' HO_6.out).2.2)); (case side2 => exact (Kd.R_reads' HO_6.out).2.1); rintro e w' ⟨rfl, ⟨nd, rfl⟩⟩; (try first | exact ⟨rfl, _, World.drewN_drewN _ _ _⟩ | exact ⟨rfl, _, Eq.trans (World.drewN_drewN _ _ _) (congrArg (World.drewN _) (Nat.add_assoc _ _ _))⟩))))
                    go_roundg k4
                    case measure => have := HJ5.out; have := HK2.out; have := HJ24.out; have := HK4.out; omega
                    case rel => exact ⟨(wrap64 (x10_4 + 1)), pF, H', ⟨by have := HJ5.out; have := HK2.out; have := HJ24.out; have := HK4.out; omega⟩, ⟨by (with_reducible repeat (first | apply Kd.N_alloc | apply Kd.N_drewN | apply Kd.N_drew)); exact HO_3.out⟩, ⟨pR HO_6⟩, ⟨pB⟩⟩
                   ·replace c41 := Bool.eq_false_iff.mpr c41
                    subst c41
                    have H1 : (some false) = some r := by rw [if_neg (show ¬ (false = true) by decide)] at H; exact H
                    clear H
                    have H := H1
                    clear H1
                    obtain rfl := Option.some.inj H
                    have p733 : 0 ≤ (t728 : Int) := of_decide_eq_true pA
                    have q733 : t728 < (t711.length : Int) := of_decide_eq_true pA
                    obtain ⟨ad733, A733_2, c733_2, e733, hx733_0, hx733_1, hx733_2, hl733_2, hi733_2⟩ := at_T29 (Kd.N_reads' HO_3.out).2.2 t728 p733 q733
                    cases e733
                    obtain ⟨ce733, hce733, hMe733, hcc733⟩ := Kd.N_get HO_3.out z29 t728 p733 (by first | exact q733 | exact of_decide_eq_true pA | (have e_ := (Kd.N_reads' HO_3.out).1; omega))
                    obtain ⟨ua733_2, uc733_2, rfl, ul733_2, ge733_2⟩ := k29_openF hMe733
                    have hv733_2 := hcc733 2 _ rfl
                    rw [add_field _ _ 2 (by omega)] at hv733_2
                    replace hv733_2 := Option.some.inj (hv733_2.symm.trans hx733_2)
                    injection hv733_2 with hva_ hvn_ hvc_
                    rw [hva_] at ge733_2
                    rw [hvc_] at ul733_2
                    have HL733_2 := Aside0.mk (show Kd.V k55 55 _ w.heap.size _ _ ((rd_T29 t711 t728).f2) from Kd.V_mk ul733_2 ge733_2)
                    clear hva_ hvn_ hvc_ ge733_2 ul733_2
                    clear hcc733 hce733
                    have HR733_2 := Aside0.mk hi733_2
                    have HC733_2 := Aside0.mk hl733_2
                    clear hi733_2 hl733_2
                    replace p733 := eq_true p733
                    replace q733 := eq_true q733
                    have p734 : 0 ≤ (t728 : Int) := of_decide_eq_true pA
                    have q734 : t728 < (t711.length : Int) := of_decide_eq_true pA
                    obtain ⟨ad734, A734_2, c734_2, e734, hx734_0, hx734_1, hx734_2, hl734_2, hi734_2⟩ := at_T29 (Kd.N_reads' HO_3.out).2.2 t728 p734 q734
                    obtain rfl : ad733 = ad734 := (by injection e734)
                    obtain ⟨ce734, hce734, hMe734, hcc734⟩ := Kd.N_get HO_3.out z29 t728 p734 (by first | exact q734 | exact of_decide_eq_true pA | (have e_ := (Kd.N_reads' HO_3.out).1; omega))
                    obtain ⟨ua734_2, uc734_2, rfl, ul734_2, ge734_2⟩ := k29_openF hMe734
                    have hv734_2 := hcc734 2 _ rfl
                    rw [add_field _ _ 2 (by omega)] at hv734_2
                    replace hv734_2 := Option.some.inj (hv734_2.symm.trans hx734_2)
                    injection hv734_2 with hva_ hvn_ hvc_
                    rw [hva_] at ge734_2
                    rw [hvc_] at ul734_2
                    have HL734_2 := Aside0.mk (show Kd.V k55 55 _ w.heap.size _ _ ((rd_T29 t711 t728).f2) from Kd.V_mk ul734_2 ge734_2)
                    clear hva_ hvn_ hvc_ ge734_2 ul734_2
                    clear hcc734 hce734
                    have HR734_2 := Aside0.mk hi734_2
                    have HC734_2 := Aside0.mk hl734_2
                    clear hi734_2 hl734_2
                    replace p734 := eq_true p734
                    replace q734 := eq_true q734
                    have ea_ := Option.some.inj (hx733_2.symm.trans hx734_2)
                    injection ea_ with ea_ en_ ec_
                    subst ea_
                    subst ec_
                    clear en_
                    have p735 : 0 ≤ (x10_4 : Int) := of_decide_eq_true pA
                    have q735 : x10_4 < (((rd_T29 t711 t728).f2).length : Int) := of_decide_eq_true pA
                    obtain ⟨ad735, e735, hx735_0, hx735_1, hx735_2⟩ := at_T55 (by repeat (first | (with_reducible exact HR734_2.out) | (with_reducible refine Kd.C_alloc ?_ _) | (with_reducible refine Kd.C_drewN ?_ _) | (with_reducible refine Kd.C_drew ?_) | exact HR734_2.out)) x10_4 p735 q735
                    cases e735
                    replace p735 := eq_true p735
                    replace q735 := eq_true q735
                    have p736 : 0 ≤ (t728 : Int) := of_decide_eq_true pA
                    have q736 : t728 < (t711.length : Int) := of_decide_eq_true pA
                    obtain ⟨ad736, A736_2, c736_2, e736, hx736_0, hx736_1, hx736_2, hl736_2, hi736_2⟩ := at_T29 (Kd.N_reads' HO_3.out).2.2 t728 p736 q736
                    obtain rfl : ad733 = ad736 := (by injection e736)
                    obtain ⟨ce736, hce736, hMe736, hcc736⟩ := Kd.N_get HO_3.out z29 t728 p736 (by first | exact q736 | exact of_decide_eq_true pA | (have e_ := (Kd.N_reads' HO_3.out).1; omega))
                    obtain ⟨ua736_2, uc736_2, rfl, ul736_2, ge736_2⟩ := k29_openF hMe736
                    have hv736_2 := hcc736 2 _ rfl
                    rw [add_field _ _ 2 (by omega)] at hv736_2
                    replace hv736_2 := Option.some.inj (hv736_2.symm.trans hx736_2)
                    injection hv736_2 with hva_ hvn_ hvc_
                    rw [hva_] at ge736_2
                    rw [hvc_] at ul736_2
                    have HL736_2 := Aside0.mk (show Kd.V k55 55 _ w.heap.size _ _ ((rd_T29 t711 t728).f2) from Kd.V_mk ul736_2 ge736_2)
                    clear hva_ hvn_ hvc_ ge736_2 ul736_2
                    clear hcc736 hce736
                    have HR736_2 := Aside0.mk hi736_2
                    have HC736_2 := Aside0.mk hl736_2
                    clear hi736_2 hl736_2
                    replace p736 := eq_true p736
                    replace q736 := eq_true q736
                    have ea_ := Option.some.inj (hx733_2.symm.trans hx736_2)
                    injection ea_ with ea_ en_ ec_
                    subst ea_
                    subst ec_
                    clear en_
                    have p737 : 0 ≤ (x10_4 : Int) := of_decide_eq_true pA
                    have q737 : x10_4 < (((rd_T29 t711 t728).f2).length : Int) := of_decide_eq_true pA
                    obtain ⟨ad737, e737, hx737_0, hx737_1, hx737_2⟩ := at_T55 (by repeat (first | (with_reducible exact HR736_2.out) | (with_reducible refine Kd.C_alloc ?_ _) | (with_reducible refine Kd.C_drewN ?_ _) | (with_reducible refine Kd.C_drew ?_) | exact HR736_2.out)) x10_4 p737 q737
                    cases e737
                    replace p737 := eq_true p737
                    replace q737 := eq_true q737
                    go_wp2_with (first | (go_at_call 44; (with_reducible refine (laws_hasInt.calls k4 _ _ t718 ((rd_T55 ((rd_T29 t711 t728).f2) x10_4).f1) false _ ?side1 ?side2 A40.out).mono ?_); (case side1 => exact pS ((Kd.R_reads' HO_6.out).2.2)); (case side2 => exact (Kd.R_reads' HO_6.out).2.1); rintro e w' ⟨rfl, ⟨nd, rfl⟩⟩; (try first | exact ⟨rfl, _, World.drewN_drewN _ _ _⟩ | exact ⟨rfl, _, Eq.trans (World.drewN_drewN _ _ _) (congrArg (World.drewN _) (Nat.add_assoc _ _ _))⟩)))
                    repeat (go_quiet (first | (go_at_call 44; (with_reducible refine (laws_hasInt.calls k4 _ _ t718 ((rd_T55 ((rd_T29 t711 t728).f2) x10_4).f1) false _ ?side1 ?side2 A40.out).mono ?_); (case side1 => exact pS ((Kd.R_reads' HO_6.out).2.2)); (case side2 => exact (Kd.R_reads' HO_6.out).2.1); rintro e w' ⟨rfl, ⟨nd, rfl⟩⟩; (try first | exact ⟨rfl, _, World.drewN_drewN _ _ _⟩ | exact ⟨rfl, _, Eq.trans (World.drewN_drewN _ _ _) (congrArg (World.drewN _) (Nat.add_assoc _ _ _))⟩))); try go_wp2_with (first | (go_at_call 44; (with_reducible refine (laws_hasInt.calls k4 _ _ t718 ((rd_T55 ((rd_T29 t711 t728).f2) x10_4).f1) false _ ?side1 ?side2 A40.out).mono ?_); (case side1 => exact pS ((Kd.R_reads' HO_6.out).2.2)); (case side2 => exact (Kd.R_reads' HO_6.out).2.1); rintro e w' ⟨rfl, ⟨nd, rfl⟩⟩; (try first | exact ⟨rfl, _, World.drewN_drewN _ _ _⟩ | exact ⟨rfl, _, Eq.trans (World.drewN_drewN _ _ _) (congrArg (World.drewN _) (Nat.add_assoc _ _ _))⟩))))
                    go_ret
                    exact ⟨pE, pB⟩
                  ·rw [if_neg c39] at H
                   have c39b0 : decide (0 < ((rd_T55 ((rd_T29 t711 t728).f2) x10_4).f1)) = false := decide_eq_false c39
                   clear c39
                   have H' := Aside0.mk H
                   clear H
                   have p733 : 0 ≤ (t728 : Int) := of_decide_eq_true pA
                   have q733 : t728 < (t711.length : Int) := of_decide_eq_true pA
                   obtain ⟨ad733, A733_2, c733_2, e733, hx733_0, hx733_1, hx733_2, hl733_2, hi733_2⟩ := at_T29 (Kd.N_reads' HO_3.out).2.2 t728 p733 q733
                   cases e733
                   obtain ⟨ce733, hce733, hMe733, hcc733⟩ := Kd.N_get HO_3.out z29 t728 p733 (by first | exact q733 | exact of_decide_eq_true pA | (have e_ := (Kd.N_reads' HO_3.out).1; omega))
                   obtain ⟨ua733_2, uc733_2, rfl, ul733_2, ge733_2⟩ := k29_openF hMe733
                   have hv733_2 := hcc733 2 _ rfl
                   rw [add_field _ _ 2 (by omega)] at hv733_2
                   replace hv733_2 := Option.some.inj (hv733_2.symm.trans hx733_2)
                   injection hv733_2 with hva_ hvn_ hvc_
                   rw [hva_] at ge733_2
                   rw [hvc_] at ul733_2
                   have HL733_2 := Aside0.mk (show Kd.V k55 55 _ w.heap.size _ _ ((rd_T29 t711 t728).f2) from Kd.V_mk ul733_2 ge733_2)
                   clear hva_ hvn_ hvc_ ge733_2 ul733_2
                   clear hcc733 hce733
                   have HR733_2 := Aside0.mk hi733_2
                   have HC733_2 := Aside0.mk hl733_2
                   clear hi733_2 hl733_2
                   replace p733 := eq_true p733
                   replace q733 := eq_true q733
                   have p734 : 0 ≤ (t728 : Int) := of_decide_eq_true pA
                   have q734 : t728 < (t711.length : Int) := of_decide_eq_true pA
                   obtain ⟨ad734, A734_2, c734_2, e734, hx734_0, hx734_1, hx734_2, hl734_2, hi734_2⟩ := at_T29 (Kd.N_reads' HO_3.out).2.2 t728 p734 q734
                   obtain rfl : ad733 = ad734 := (by injection e734)
                   obtain ⟨ce734, hce734, hMe734, hcc734⟩ := Kd.N_get HO_3.out z29 t728 p734 (by first | exact q734 | exact of_decide_eq_true pA | (have e_ := (Kd.N_reads' HO_3.out).1; omega))
                   obtain ⟨ua734_2, uc734_2, rfl, ul734_2, ge734_2⟩ := k29_openF hMe734
                   have hv734_2 := hcc734 2 _ rfl
                   rw [add_field _ _ 2 (by omega)] at hv734_2
                   replace hv734_2 := Option.some.inj (hv734_2.symm.trans hx734_2)
                   injection hv734_2 with hva_ hvn_ hvc_
                   rw [hva_] at ge734_2
                   rw [hvc_] at ul734_2
                   have HL734_2 := Aside0.mk (show Kd.V k55 55 _ w.heap.size _ _ ((rd_T29 t711 t728).f2) from Kd.V_mk ul734_2 ge734_2)
                   clear hva_ hvn_ hvc_ ge734_2 ul734_2
                   clear hcc734 hce734
                   have HR734_2 := Aside0.mk hi734_2
                   have HC734_2 := Aside0.mk hl734_2
                   clear hi734_2 hl734_2
                   replace p734 := eq_true p734
                   replace q734 := eq_true q734
                   have ea_ := Option.some.inj (hx733_2.symm.trans hx734_2)
                   injection ea_ with ea_ en_ ec_
                   subst ea_
                   subst ec_
                   clear en_
                   have p735 : 0 ≤ (x10_4 : Int) := of_decide_eq_true pA
                   have q735 : x10_4 < (((rd_T29 t711 t728).f2).length : Int) := of_decide_eq_true pA
                   obtain ⟨ad735, e735, hx735_0, hx735_1, hx735_2⟩ := at_T55 (by repeat (first | (with_reducible exact HR734_2.out) | (with_reducible refine Kd.C_alloc ?_ _) | (with_reducible refine Kd.C_drewN ?_ _) | (with_reducible refine Kd.C_drew ?_) | exact HR734_2.out)) x10_4 p735 q735
                   cases e735
                   replace p735 := eq_true p735
                   replace q735 := eq_true q735
                   go_wp2
                   repeat (go_quiet (fail); try go_wp2)
                   go_roundg k4
                   case measure => have := HJ5.out; have := HK2.out; have := HJ24.out; have := HK4.out; omega
                   case rel => exact ⟨(wrap64 (x10_4 + 1)), pF, H', ⟨by have := HJ5.out; have := HK2.out; have := HJ24.out; have := HK4.out; omega⟩, ⟨by (with_reducible repeat (first | apply Kd.N_alloc | apply Kd.N_drewN | apply Kd.N_drew)); exact HO_3.out⟩, ⟨pR HO_6⟩, ⟨pB⟩⟩
                 ·rw [if_neg c38] at H
                  exact absurd H (by simp)
                ·rw [if_neg c37] at H
                 have c37b0 : decide (x10_4 < (((rd_T29 t711 t728).f2).length : Int)) = false := decide_eq_false c37
                 clear c37
                 have H' := Aside0.mk H
                 clear H
                 have p733 : 0 ≤ (t728 : Int) := of_decide_eq_true pA
                 have q733 : t728 < (t711.length : Int) := of_decide_eq_true pA
                 obtain ⟨ad733, A733_2, c733_2, e733, hx733_0, hx733_1, hx733_2, hl733_2, hi733_2⟩ := at_T29 (Kd.N_reads' HO_3.out).2.2 t728 p733 q733
                 cases e733
                 obtain ⟨ce733, hce733, hMe733, hcc733⟩ := Kd.N_get HO_3.out z29 t728 p733 (by first | exact q733 | exact of_decide_eq_true pA | (have e_ := (Kd.N_reads' HO_3.out).1; omega))
                 obtain ⟨ua733_2, uc733_2, rfl, ul733_2, ge733_2⟩ := k29_openF hMe733
                 have hv733_2 := hcc733 2 _ rfl
                 rw [add_field _ _ 2 (by omega)] at hv733_2
                 replace hv733_2 := Option.some.inj (hv733_2.symm.trans hx733_2)
                 injection hv733_2 with hva_ hvn_ hvc_
                 rw [hva_] at ge733_2
                 rw [hvc_] at ul733_2
                 have HL733_2 := Aside0.mk (show Kd.V k55 55 _ w.heap.size _ _ ((rd_T29 t711 t728).f2) from Kd.V_mk ul733_2 ge733_2)
                 clear hva_ hvn_ hvc_ ge733_2 ul733_2
                 clear hcc733 hce733
                 have HR733_2 := Aside0.mk hi733_2
                 have HC733_2 := Aside0.mk hl733_2
                 clear hi733_2 hl733_2
                 replace p733 := eq_true p733
                 replace q733 := eq_true q733
                 go_wp2
                 repeat (go_quiet (fail); try go_wp2)
                 go_roundg k4
                 case measure => have := HJ5.out; have := HK2.out; have := HJ24.out; have := HK4.out; omega
                 case rel => exact ⟨(wrap64 (x8_2 + 1)), pF, H', ⟨by have := HJ5.out; have := HK2.out; have := HJ24.out; have := HK4.out; omega⟩, ⟨by (with_reducible repeat (first | apply Kd.N_alloc | apply Kd.N_drewN | apply Kd.N_drew)); exact HO_3.out⟩, ⟨pR HO_6⟩, ⟨pB⟩⟩
               ·rw [if_neg c36] at H
                exact absurd H (by simp)
              ·rw [if_neg c35] at H
               exact absurd H (by simp)
        ·rw [if_neg c23] at H
         exact absurd H (by simp)
       ·rw [if_neg c22] at H
        have c22b0 : decide (x8_2 < (t718.length : Int)) = false := decide_eq_false c22
        clear c22
        replace H := Option.bind_eq_some_iff.mp H
        obtain ⟨t726, A420, H⟩ := H
        replace H : (some t726) = some r := H
        have A42 := Aside0.mk A420
        clear A420
        obtain rfl := Option.some.inj H
        obtain ⟨Ao43, co43, eo43⟩ := Kd.R_slice HO_6.out
        subst eo43
        go_wp2_with (first | (go_at_call 44; (with_reducible refine (laws_hasInt.calls k2 _ _ t718 t717 t726 _ ?side1 ?side2 A42.out).mono ?_); (case side1 => exact pS ((Kd.R_reads' HO_6.out).2.2)); (case side2 => exact (Kd.R_reads' HO_6.out).2.1); rintro e w' ⟨rfl, ⟨nd, rfl⟩⟩; (try first | exact ⟨rfl, _, World.drewN_drewN _ _ _⟩ | exact ⟨rfl, _, Eq.trans (World.drewN_drewN _ _ _) (congrArg (World.drewN _) (Nat.add_assoc _ _ _))⟩)))
        repeat (go_quiet (first | (go_at_call 44; (with_reducible refine (laws_hasInt.calls k2 _ _ t718 t717 t726 _ ?side1 ?side2 A42.out).mono ?_); (case side1 => exact pS ((Kd.R_reads' HO_6.out).2.2)); (case side2 => exact (Kd.R_reads' HO_6.out).2.1); rintro e w' ⟨rfl, ⟨nd, rfl⟩⟩; (try first | exact ⟨rfl, _, World.drewN_drewN _ _ _⟩ | exact ⟨rfl, _, Eq.trans (World.drewN_drewN _ _ _) (congrArg (World.drewN _) (Nat.add_assoc _ _ _))⟩))); try go_wp2_with (first | (go_at_call 44; (with_reducible refine (laws_hasInt.calls k2 _ _ t718 t717 t726 _ ?side1 ?side2 A42.out).mono ?_); (case side1 => exact pS ((Kd.R_reads' HO_6.out).2.2)); (case side2 => exact (Kd.R_reads' HO_6.out).2.1); rintro e w' ⟨rfl, ⟨nd, rfl⟩⟩; (try first | exact ⟨rfl, _, World.drewN_drewN _ _ _⟩ | exact ⟨rfl, _, Eq.trans (World.drewN_drewN _ _ _) (congrArg (World.drewN _) (Nat.add_assoc _ _ _))⟩))))
        go_ret
        exact ⟨pE, pB⟩

/-- THE ONE PURE STATEMENT of laws_FnDishUses: yours. -/
def laws_FnDishUses.Pure : Prop := ∀ (l0 : List Int), l0.length ≤ maxLen → l0.length * 1 ≤ 140737488351232 → (∀ x ∈ l0, (Lit.int .u8 x).wf = true) → ∃ k, laws_FnDishUses.f k l0 = some true
theorem laws_FnDishUses.walk (P : laws_FnDishUses.Pure) (a0 : Option Addr) (len0 cap0 : Nat) (z0 : List Int) (w : World) (w0 : (a0 = none ∧ len0 = 0 ∧ cap0 = 0 ∧ z0 = []) ∨ ∃ x, a0 = some x ∧ len0 ≤ cap0 ∧ cap0 ≤ maxLen ∧ z0.length = cap0 ∧ (∀ i, i < z0.length → w.cell? (x.add i) = some (.int .u8 (z0.getD i 0))) ∧ ∀ n ∈ z0, (Lit.int .u8 n).wf = true) (y0 : len0 * 1 ≤ 140737488351232) :
  Calls Try.prog 11 #[.slice a0 len0 cap0] w fun e w' => e = .returned (.bool true) ∧ Below w.heap.size w w' := by
 obtain ⟨l0, rfl, hr0, hm0, hw0, hc0⟩ := ReadsInt.ofRowC w0
 obtain ⟨k, h⟩ := P l0 hm0 y0 hw0
 refine (laws_FnDishUses.calls k _ _ l0 true w (Kd.C_of_reads (d := (0 : Int)) (h1 := fun _ => rfl) hr0) hc0 h).mono ?_
 rintro e w' ⟨rfl, hd⟩
 exact ⟨rfl, hd⟩

end Go.Proofs.Ytclldijjbmnkeaa.Q
