-- Written by the kit's print.py for all laws of the seat at once (one namespace), by a program of this session.
import Derived.Test.YtclldijjbmnkeaaQx0
import Derived.Test.YtclldijjbmnkeaaQx5
import Derived.Test.YtclldijjbmnkeaaQx18
import Derived.Test.YtclldijjbmnkeaaQx28
import Derived.Test.YtclldijjbmnkeaaQx29
namespace Go.Proofs.Ytclldijjbmnkeaa.Q
open Go.RowKit Go.Proofs.YtclldijjbmnkeaaW.PrintWords Go.Proofs.YtclldijjbmnkeaaW.PrintLast Go.Proofs.YtclldijjbmnkeaaW.PrintMore
attribute [local go_sem] max2_int min2_int max_two min_two max_three min_three max_four min_four   -- for this text's walks alone
set_option linter.unusedVariables false
set_option linter.unusedSimpArgs false

/-! ### laws_hasInt: function 44 -/
def laws_hasInt.l0 : Nat → List Int → Int → Int → Option (Bool)
 | 0, _, _, _ => none
 | k + 1, x0, x1, x5 => if x5 < (x0.length : Int) then (if 0 ≤ x5 then (if (rd x0 x5) = x1 then (some true) else (laws_hasInt.l0 k x0 x1 (wrap64 (x5 + 1)))) else (none)) else (some false)
def laws_hasInt.f (k : Nat) (l0 : List Int) (a1 : Int) : Option (Bool) := laws_hasInt.l0 k l0 a1 0
theorem laws_hasInt.mono_l : ∀ k, (∀ y0 y1 y2, LeO (laws_hasInt.l0 k y0 y1 y2) (laws_hasInt.l0 (k + 1) y0 y1 y2))
 | 0 => fun _ _ _ r h => by simp [laws_hasInt.l0] at h
 | k + 1 => by
  have ih0 := laws_hasInt.mono_l k
  ·intro y0 y1 y2
   unfold laws_hasInt.l0
   repeat' first
   | (with_reducible exact ih0 _ _ _)
   | (with_reducible exact LeO.refl _)
   | (with_reducible exact LeO.none _)
   | (with_reducible refine LeO.ite ?_ ?_)
   | (with_reducible refine LeO.bind ?_ (fun _ => ?_))
   | exact ih0 _ _ _
   | exact LeO.none _
   | refine LeO.ite ?_ ?_
   | refine LeO.bind ?_ (fun _ => ?_)
theorem laws_hasInt.mono : ∀ a0 a1 k, LeO (laws_hasInt.f k a0 a1) (laws_hasInt.f (k + 1) a0 a1) := by
 intro a0 a1 k
 have ih0 := laws_hasInt.mono_l k
 unfold laws_hasInt.f
 repeat' first
   | (with_reducible exact ih0 _ _ _)
   | (with_reducible exact LeO.refl _)
   | (with_reducible exact LeO.none _)
   | (with_reducible refine LeO.ite ?_ ?_)
   | (with_reducible refine LeO.bind ?_ (fun _ => ?_))
   | exact ih0 _ _ _
   | exact LeO.none _
   | refine LeO.ite ?_ ?_
   | refine LeO.bind ?_ (fun _ => ?_)
set_option maxHeartbeats 8000000 in
set_option maxRecDepth 100000 in
theorem laws_hasInt.calls (k : Nat) (A0 : Option Addr) (c0 : Nat) (l0 : List Int) (a1 : Int) (r : Bool) (w : World) (hr0 : Kd.C (Kd.int .i64) w A0 l0.length l0) (hc0 : l0.length ≤ c0) (h : laws_hasInt.f k l0 a1 = some r) :
  Calls Try.prog 44 #[.slice A0 l0.length c0, .int .i64 a1] w fun e w' => e = .returned (.bool r) ∧ Drawn0 w w' := by
 have HR0 := Aside0.mk hr0
 have HC0 := Aside0.mk hc0
 clear hr0 hc0
 have H : (laws_hasInt.l0 k l0 a1 0) = some r := h
 clear h
 have H' := Aside0.mk H
 clear H
 go_enter Try.func44, Try.ntmps44
 go_wp2
 go_loopg [5] k (fun kq v5 w' => ∃ (x5_1 : Int), v5 = .int .i64 x5_1 ∧ Aside0 (laws_hasInt.l0 kq l0 a1 x5_1 = some r) ∧ Aside0 (kq ≤ k) ∧ Drawn0 w w')
 case atStart => exact ⟨(0), pF, H', ⟨Nat.le_refl _⟩, by repeat (first | exact Drawn0.refl _ | apply Drawn0.step)⟩
 case round =>
  clear H'
  try clear p2
  obtain ⟨x5_1, rfl, HA, HK1, ⟨m1, rfl⟩⟩ := hrel
  cases gk with
  | zero => exact absurd HA.out (by simp [laws_hasInt.l0])
  | succ k1 =>
   have H := HA.out
   clear HA
   simp only [laws_hasInt.l0] at H
   rcases (Classical.em (x5_1 < (l0.length : Int))).symm with c3 | c3
   ·rw [if_neg c3] at H
    have c3b0 : decide (x5_1 < (l0.length : Int)) = false := decide_eq_false c3
    clear c3
    obtain rfl := Option.some.inj H
    go_wp2
    go_ret
    exact ⟨pF, by repeat (first | exact Drawn0.refl _ | apply Drawn0.step)⟩

   rw [if_pos c3] at H
   have c3b0 : decide (x5_1 < (l0.length : Int)) = true := decide_eq_true c3
   clear c3
   rcases (Classical.em (0 ≤ x5_1)).symm with c4 | c4
   ·rw [if_neg c4] at H
    exact absurd H (by simp)
   rw [if_pos c4] at H
   have c4b0 : decide (0 ≤ x5_1) = true := decide_eq_true c4
   clear c4
   by_cases c5 : (rd l0 x5_1) = a1
   ·rw [if_pos c5] at H
    have c5b0 : ((rd l0 x5_1) == a1) = true := beq_iff_eq.mpr c5
    have c5b1 : ((rd l0 x5_1) != a1) = false := bne_eq_false_iff_eq.mpr c5
    clear c5
    obtain rfl := Option.some.inj H
    have p780 : 0 ≤ (x5_1 : Int) := of_decide_eq_true pA
    have q780 : x5_1 < (l0.length : Int) := of_decide_eq_true pA
    obtain ⟨ad780, e780, hx780_0⟩ := Kd.at_int HR0.out x5_1 p780 q780
    cases e780
    replace p780 := eq_true p780
    replace q780 := eq_true q780
    go_wp2
    go_ret
    exact ⟨pF, by repeat (first | exact Drawn0.refl _ | apply Drawn0.step)⟩
   rw [if_neg c5] at H
   have c5b0 : ((rd l0 x5_1) == a1) = false := beq_eq_false_iff_ne.mpr c5
   have c5b1 : ((rd l0 x5_1) != a1) = true := bne_iff_ne.mpr c5
   have H' := Aside0.mk H
   clear H
   have p780 : 0 ≤ (x5_1 : Int) := of_decide_eq_true pA
   have q780 : x5_1 < (l0.length : Int) := of_decide_eq_true pA
   obtain ⟨ad780, e780, hx780_0⟩ := Kd.at_int HR0.out x5_1 p780 q780
   cases e780
   replace p780 := eq_true p780
   replace q780 := eq_true q780
   go_wp2
   go_roundg k1
   case measure => have := HK1.out; omega
   case rel => exact ⟨(wrap64 (x5_1 + 1)), pF, H', ⟨by have := HK1.out; omega⟩, by repeat (first | exact Drawn0.refl _ | apply Drawn0.step)⟩
/-! ### laws_FnDishUses: function 11 -/
mutual
def laws_FnDishUses.j0 : Nat → List (S29) → Int → List Int → List Int → Bool → Option (Bool)
 | 0, _, _, _, _, _ => none
 | k + 1, x3, x5, x6, x7, x36 => if x36 = true then ((laws_sameInts.f k x6 x7).bind fun t795 => (some t795)) else (laws_FnDishUses.l0 k x3 x5 x6 0)
def laws_FnDishUses.l0 : Nat → List (S29) → Int → List Int → Int → Option (Bool)
 | 0, _, _, _, _ => none
 | k + 1, x3, x5, x6, x8 => if x8 < (x6.length : Int) then (if 0 ≤ x8 then ((impl_DishesFind.f x3 (rd x6 x8)).bind fun t798 => (if t798 < 0 then (laws_FnDishUses.j2 k x3 x5 x6 x8 t798 true) else (if x8 > 0 then (if 0 ≤ (wrap64 (x8 - 1)) then (if (wrap64 (x8 - 1)) < (x6.length : Int) then (if (rd x6 (wrap64 (x8 - 1))) ≥ (rd x6 x8) then (laws_FnDishUses.j2 k x3 x5 x6 x8 t798 true) else (laws_FnDishUses.j2 k x3 x5 x6 x8 t798 (decide ((rd x6 x8) > x5)))) else (none)) else (none)) else (laws_FnDishUses.j2 k x3 x5 x6 x8 t798 (decide ((rd x6 x8) > x5)))))) else (none)) else ((laws_hasInt.f k x6 x5).bind fun t796 => (some t796))
def laws_FnDishUses.j2 : Nat → List (S29) → Int → List Int → Int → Int → Bool → Option (Bool)
 | 0, _, _, _, _, _, _ => none
 | k + 1, x3, x5, x6, x8, x9, x77 => if x77 = true then (some false) else (laws_FnDishUses.l1 k x3 x5 x6 x8 x9 0)
def laws_FnDishUses.l1 : Nat → List (S29) → Int → List Int → Int → Int → Int → Option (Bool)
 | 0, _, _, _, _, _, _ => none
 | k + 1, x3, x5, x6, x8, x9, x10 => if 0 ≤ x9 then (if x9 < (x3.length : Int) then (if x10 < (((rd_T29 x3 x9).f2).length : Int) then (if 0 ≤ x10 then (if ((rd_T55 ((rd_T29 x3 x9).f2) x10).f1) > 0 then ((laws_hasInt.f k x6 ((rd_T55 ((rd_T29 x3 x9).f2) x10).f1)).bind fun t808 => (if t808 = true then (laws_FnDishUses.l1 k x3 x5 x6 x8 x9 (wrap64 (x10 + 1))) else (some false))) else (laws_FnDishUses.l1 k x3 x5 x6 x8 x9 (wrap64 (x10 + 1)))) else (none)) else (laws_FnDishUses.l0 k x3 x5 x6 (wrap64 (x8 + 1)))) else (none)) else (none)
end
def laws_FnDishUses.f (k : Nat) (l0 : List Int) : Option (Bool) := if (l0.length : Int) > 1048576 then (some true) else ((spec_DrawDishUses.f k l0).bind fun bt781 => ((impl_DishUses.f k bt781.1 bt781.2.1 bt781.2.2).bind fun t788 => ((spec_DishUses.f k bt781.1 bt781.2.1 bt781.2.2).bind fun t791 => ((laws_sameInts.f k t788 t791).bind fun t794 => (if t794 = true then (laws_FnDishUses.j0 k bt781.1 bt781.2.2 t788 t791 ((t791.length : Int) == 0)) else (laws_FnDishUses.j0 k bt781.1 bt781.2.2 t788 t791 true))))))
theorem laws_FnDishUses.mono_l : ∀ k, (∀ y0 y1 y2 y3 y4, LeO (laws_FnDishUses.j0 k y0 y1 y2 y3 y4) (laws_FnDishUses.j0 (k + 1) y0 y1 y2 y3 y4)) ∧ (∀ y0 y1 y2 y3, LeO (laws_FnDishUses.l0 k y0 y1 y2 y3) (laws_FnDishUses.l0 (k + 1) y0 y1 y2 y3)) ∧ (∀ y0 y1 y2 y3 y4 y5, LeO (laws_FnDishUses.j2 k y0 y1 y2 y3 y4 y5) (laws_FnDishUses.j2 (k + 1) y0 y1 y2 y3 y4 y5)) ∧ (∀ y0 y1 y2 y3 y4 y5, LeO (laws_FnDishUses.l1 k y0 y1 y2 y3 y4 y5) (laws_FnDishUses.l1 (k + 1) y0 y1 y2 y3 y4 y5))
 | 0 => ⟨fun _ _ _ _ _ r h => by simp [laws_FnDishUses.j0] at h, fun _ _ _ _ r h => by simp [laws_FnDishUses.l0] at h, fun _ _ _ _ _ _ r h => by simp [laws_FnDishUses.j2] at h, fun _ _ _ _ _ _ r h => by simp [laws_FnDishUses.l1] at h⟩
 | k + 1 => by
  obtain ⟨ih0, ih1, ih2, ih3⟩ := laws_FnDishUses.mono_l k
  refine ⟨?_, ?_, ?_, ?_⟩
  ·intro y0 y1 y2 y3 y4
   unfold laws_FnDishUses.j0
   repeat' first
   | (with_reducible exact ih0 _ _ _ _ _)
   | (with_reducible exact ih1 _ _ _ _)
   | (with_reducible exact ih2 _ _ _ _ _ _)
   | (with_reducible exact ih3 _ _ _ _ _ _)
   | (with_reducible exact impl_DishUses.mono _ _ _ _)
   | (with_reducible exact laws_hasInt.mono _ _ _)
   | (with_reducible exact laws_sameInts.mono _ _ _)
   | (with_reducible exact spec_DishUses.mono _ _ _ _)
   | (with_reducible exact spec_DrawDishUses.mono _ _)
   | (with_reducible exact LeO.refl _)
   | (with_reducible exact LeO.none _)
   | (with_reducible refine LeO.ite ?_ ?_)
   | (with_reducible refine LeO.bind ?_ (fun _ => ?_))
   | exact ih0 _ _ _ _ _
   | exact ih1 _ _ _ _
   | exact ih2 _ _ _ _ _ _
   | exact ih3 _ _ _ _ _ _
   | exact impl_DishUses.mono _ _ _ _
   | exact laws_hasInt.mono _ _ _
   | exact laws_sameInts.mono _ _ _
   | exact spec_DishUses.mono _ _ _ _
   | exact spec_DrawDishUses.mono _ _
   | exact LeO.none _
   | refine LeO.ite ?_ ?_
   | refine LeO.bind ?_ (fun _ => ?_)
  ·intro y0 y1 y2 y3
   unfold laws_FnDishUses.l0
   repeat' first
   | (with_reducible exact ih0 _ _ _ _ _)
   | (with_reducible exact ih1 _ _ _ _)
   | (with_reducible exact ih2 _ _ _ _ _ _)
   | (with_reducible exact ih3 _ _ _ _ _ _)
   | (with_reducible exact impl_DishUses.mono _ _ _ _)
   | (with_reducible exact laws_hasInt.mono _ _ _)
   | (with_reducible exact laws_sameInts.mono _ _ _)
   | (with_reducible exact spec_DishUses.mono _ _ _ _)
   | (with_reducible exact spec_DrawDishUses.mono _ _)
   | (with_reducible exact LeO.refl _)
   | (with_reducible exact LeO.none _)
   | (with_reducible refine LeO.ite ?_ ?_)
   | (with_reducible refine LeO.bind ?_ (fun _ => ?_))
   | exact ih0 _ _ _ _ _
   | exact ih1 _ _ _ _
   | exact ih2 _ _ _ _ _ _
   | exact ih3 _ _ _ _ _ _
   | exact impl_DishUses.mono _ _ _ _
   | exact laws_hasInt.mono _ _ _
   | exact laws_sameInts.mono _ _ _
   | exact spec_DishUses.mono _ _ _ _
   | exact spec_DrawDishUses.mono _ _
   | exact LeO.none _
   | refine LeO.ite ?_ ?_
   | refine LeO.bind ?_ (fun _ => ?_)
  ·intro y0 y1 y2 y3 y4 y5
   unfold laws_FnDishUses.j2
   repeat' first
   | (with_reducible exact ih0 _ _ _ _ _)
   | (with_reducible exact ih1 _ _ _ _)
   | (with_reducible exact ih2 _ _ _ _ _ _)
   | (with_reducible exact ih3 _ _ _ _ _ _)
   | (with_reducible exact impl_DishUses.mono _ _ _ _)
   | (with_reducible exact laws_hasInt.mono _ _ _)
   | (with_reducible exact laws_sameInts.mono _ _ _)
   | (with_reducible exact spec_DishUses.mono _ _ _ _)
   | (with_reducible exact spec_DrawDishUses.mono _ _)
   | (with_reducible exact LeO.refl _)
   | (with_reducible exact LeO.none _)
   | (with_reducible refine LeO.ite ?_ ?_)
   | (with_reducible refine LeO.bind ?_ (fun _ => ?_))
   | exact ih0 _ _ _ _ _
   | exact ih1 _ _ _ _
   | exact ih2 _ _ _ _ _ _
   | exact ih3 _ _ _ _ _ _
   | exact impl_DishUses.mono _ _ _ _
   | exact laws_hasInt.mono _ _ _
   | exact laws_sameInts.mono _ _ _
   | exact spec_DishUses.mono _ _ _ _
   | exact spec_DrawDishUses.mono _ _
   | exact LeO.none _
   | refine LeO.ite ?_ ?_
   | refine LeO.bind ?_ (fun _ => ?_)
  ·intro y0 y1 y2 y3 y4 y5
   unfold laws_FnDishUses.l1
   repeat' first
   | (with_reducible exact ih0 _ _ _ _ _)
   | (with_reducible exact ih1 _ _ _ _)
   | (with_reducible exact ih2 _ _ _ _ _ _)
   | (with_reducible exact ih3 _ _ _ _ _ _)
   | (with_reducible exact impl_DishUses.mono _ _ _ _)
   | (with_reducible exact laws_hasInt.mono _ _ _)
   | (with_reducible exact laws_sameInts.mono _ _ _)
   | (with_reducible exact spec_DishUses.mono _ _ _ _)
   | (with_reducible exact spec_DrawDishUses.mono _ _)
   | (with_reducible exact LeO.refl _)
   | (with_reducible exact LeO.none _)
   | (with_reducible refine LeO.ite ?_ ?_)
   | (with_reducible refine LeO.bind ?_ (fun _ => ?_))
   | exact ih0 _ _ _ _ _
   | exact ih1 _ _ _ _
   | exact ih2 _ _ _ _ _ _
   | exact ih3 _ _ _ _ _ _
   | exact impl_DishUses.mono _ _ _ _
   | exact laws_hasInt.mono _ _ _
   | exact laws_sameInts.mono _ _ _
   | exact spec_DishUses.mono _ _ _ _
   | exact spec_DrawDishUses.mono _ _
   | exact LeO.none _
   | refine LeO.ite ?_ ?_
   | refine LeO.bind ?_ (fun _ => ?_)
theorem laws_FnDishUses.mono : ∀ a0 k, LeO (laws_FnDishUses.f k a0) (laws_FnDishUses.f (k + 1) a0) := by
 intro a0 k
 obtain ⟨ih0, ih1, ih2, ih3⟩ := laws_FnDishUses.mono_l k
 unfold laws_FnDishUses.f
 repeat' first
   | (with_reducible exact ih0 _ _ _ _ _)
   | (with_reducible exact ih1 _ _ _ _)
   | (with_reducible exact ih2 _ _ _ _ _ _)
   | (with_reducible exact ih3 _ _ _ _ _ _)
   | (with_reducible exact impl_DishUses.mono _ _ _ _)
   | (with_reducible exact laws_hasInt.mono _ _ _)
   | (with_reducible exact laws_sameInts.mono _ _ _)
   | (with_reducible exact spec_DishUses.mono _ _ _ _)
   | (with_reducible exact spec_DrawDishUses.mono _ _)
   | (with_reducible exact LeO.refl _)
   | (with_reducible exact LeO.none _)
   | (with_reducible refine LeO.ite ?_ ?_)
   | (with_reducible refine LeO.bind ?_ (fun _ => ?_))
   | exact ih0 _ _ _ _ _
   | exact ih1 _ _ _ _
   | exact ih2 _ _ _ _ _ _
   | exact ih3 _ _ _ _ _ _
   | exact impl_DishUses.mono _ _ _ _
   | exact laws_hasInt.mono _ _ _
   | exact laws_sameInts.mono _ _ _
   | exact spec_DishUses.mono _ _ _ _
   | exact spec_DrawDishUses.mono _ _
   | exact LeO.none _
   | refine LeO.ite ?_ ?_
   | refine LeO.bind ?_ (fun _ => ?_)
theorem F11.q0 {P : Prop} (h : P := by (with_reducible repeat (first | apply Kd.N_alloc | apply Kd.N_drewN | apply Kd.N_drew)); exact HO783.out) : P := h
set_option maxHeartbeats 8000000 in
set_option maxRecDepth 100000 in
theorem laws_FnDishUses.calls (k : Nat) (A0 : Option Addr) (c0 : Nat) (l0 : List Int) (r : Bool) (w : World) (hr0 : Kd.C (Kd.int .u8) w A0 l0.length l0) (hc0 : l0.length ≤ c0) (h : laws_FnDishUses.f k l0 = some r) :
  Calls Try.prog 11 #[.slice A0 l0.length c0] w fun e w' => e = .returned (.bool r) ∧ Below w.heap.size w w' := by
 have HR0 := Aside0.mk hr0
 have HC0 := Aside0.mk hc0
 clear hr0 hc0
 have HB := Aside0.mk (Below.refl w.heap.size w)
 have H : (if (l0.length : Int) > 1048576 then (some true) else ((spec_DrawDishUses.f k l0).bind fun bt781 => ((impl_DishUses.f k bt781.1 bt781.2.1 bt781.2.2).bind fun t788 => ((spec_DishUses.f k bt781.1 bt781.2.1 bt781.2.2).bind fun t791 => ((laws_sameInts.f k t788 t791).bind fun t794 => (if t794 = true then (laws_FnDishUses.j0 k bt781.1 bt781.2.2 t788 t791 ((t791.length : Int) == 0)) else (laws_FnDishUses.j0 k bt781.1 bt781.2.2 t788 t791 true))))))) = some r := h
 clear h
 by_cases c2 : (l0.length : Int) > 1048576
 ·rw [if_pos c2] at H
  have c2b0 : decide (1048576 < (l0.length : Int)) = true := decide_eq_true c2
  have c2b1 : decide (1048576 < l0.length) = true := decide_eq_true (by omega)
  clear c2
  obtain rfl := Option.some.inj H
  go_enter Try.func11, Try.ntmps11
  go_wp2
  repeat (go_quiet (fail); try go_wp2)
  go_ret
  exact ⟨pE, pB⟩
 rw [if_neg c2] at H
 have c2b0 : decide (1048576 < (l0.length : Int)) = false := decide_eq_false c2
 have c2b1 : decide (1048576 < l0.length) = false := decide_eq_false (by omega)
 clear c2
 replace H := Option.bind_eq_some_iff.mp H
 obtain ⟨⟨t781, t784, t787⟩, A30, H⟩ := H
 replace H : ((impl_DishUses.f k t781 t784 t787).bind fun t788 => ((spec_DishUses.f k t781 t784 t787).bind fun t791 => ((laws_sameInts.f k t788 t791).bind fun t794 => (if t794 = true then (laws_FnDishUses.j0 k t781 t787 t788 t791 ((t791.length : Int) == 0)) else (laws_FnDishUses.j0 k t781 t787 t788 t791 true))))) = some r := H
 have A3 := Aside0.mk A30
 clear A30
 replace H := Option.bind_eq_some_iff.mp H
 obtain ⟨t788, A40, H⟩ := H
 replace H : ((spec_DishUses.f k t781 t784 t787).bind fun t791 => ((laws_sameInts.f k t788 t791).bind fun t794 => (if t794 = true then (laws_FnDishUses.j0 k t781 t787 t788 t791 ((t791.length : Int) == 0)) else (laws_FnDishUses.j0 k t781 t787 t788 t791 true)))) = some r := H
 have A4 := Aside0.mk A40
 clear A40
 replace H := Option.bind_eq_some_iff.mp H
 obtain ⟨t791, A50, H⟩ := H
 replace H : ((laws_sameInts.f k t788 t791).bind fun t794 => (if t794 = true then (laws_FnDishUses.j0 k t781 t787 t788 t791 ((t791.length : Int) == 0)) else (laws_FnDishUses.j0 k t781 t787 t788 t791 true))) = some r := H
 have A5 := Aside0.mk A50
 clear A50
 have HC6 := Aside0.mk H
 clear H
 go_enter Try.func11, Try.ntmps11
 go_upto_region 6 with (first | (go_at_call 42; (with_reducible refine (spec_DrawDishUses.calls k _ _ l0 t781 t784 t787 _ ?side1 ?side2 A3.out).mono ?_); (case side1 => exact pS (HR0.out)); (case side2 => exact HC0.out); rintro e w7 ⟨v782, v785, rfl, ho0, ho1, hb⟩; have n0_ := Aside0.mk (Kd.N_lower (Kd.N_mono (ok' := fun k_ => some k_ ≠ (v785 : Value).ownBlock) ho0 (fun k_ hk_ => hk_.2)) (below_size pB)); have n1_ := Aside0.mk (Kd.R_lower (Kd.R_mono (ok' := fun k_ => True) ho1 (fun _ hk_ => trivial)) (below_size pB)); have n2_ := Aside0.mk (below_step pB hb); clear HB; have HO783 := n0_; have HO786 := n1_; have HB := n2_; clear n0_ n1_ n2_; (try clear hb); (try clear hb2); (try clear hk); (try clear hi); (try clear ho0); (try clear ho1); obtain ⟨Ao8, co8, eo8⟩ := Kd.N_slice HO783.out; subst eo8; obtain ⟨Ao9, co9, eo9⟩ := Kd.R_slice HO786.out; subst eo9) | (go_at_call 31; (with_reducible refine (impl_DishUses.calls k _ _ t781 _ _ t784 t787 t788 _ ?side1 ?side2 ?side3 ?side4 A4.out).mono ?_); (case side1 => exact pS ((Kd.N_reads' HO783.out).2.2)); (case side2 => exact (Kd.N_reads' HO783.out).2.1); (case side3 => exact pS ((Kd.R_reads' HO786.out).2.2)); (case side4 => exact (Kd.R_reads' HO786.out).2.1); rintro e w10 ⟨v789, rfl, ho0, hb⟩; have n0_ := Aside0.mk (Kd.N_elder' F11.q0 (Kd.R_base ho0) hb); have n1_ := Aside0.mk (Kd.R_below (pR HO786) hb); have n2_ := Aside0.mk (Kd.R_lower ho0 (below_size pB)); have n3_ := Aside0.mk (below_step pB hb); clear HO783; clear HO786; clear HB; have HO783 := n0_; have HO786 := n1_; have HO790 := n2_; have HB := n3_; clear n0_ n1_ n2_ n3_; (try clear hb); (try clear hb2); (try clear hk); (try clear hi); (try clear ho0)) | (go_at_call 30; (with_reducible refine (spec_DishUses.calls k _ _ t781 _ _ t784 t787 t791 _ ?side1 ?side2 ?side3 ?side4 A5.out).mono ?_); (case side1 => exact pS ((Kd.N_reads' HO783.out).2.2)); (case side2 => exact (Kd.N_reads' HO783.out).2.1); (case side3 => exact pS ((Kd.R_reads' HO786.out).2.2)); (case side4 => exact (Kd.R_reads' HO786.out).2.1); rintro e w11 ⟨v792, rfl, ho0, hb⟩; have n0_ := Aside0.mk (Kd.N_elder' F11.q0 (Kd.R_base ho0) hb); have n1_ := Aside0.mk (Kd.R_below (pR HO786) hb); have n2_ := Aside0.mk (Kd.R_elder' (pR HO790) (Kd.R_base ho0) hb); have n3_ := Aside0.mk (Kd.R_lower (Kd.R_new' ho0 (Kd.R_lt (pR HO790))) (below_size pB)); have n4_ := Aside0.mk (below_step pB hb); clear HO783; clear HO786; clear HO790; clear HB; have HO783 := n0_; have HO786 := n1_; have HO790 := n2_; have HO793 := n3_; have HB := n4_; clear n0_ n1_ n2_ n3_ n4_; (try clear hb); (try clear hb2); (try clear hk); (try clear hi); (try clear ho0)))
 repeat (go_quiet (first | (go_at_call 42; (with_reducible refine (spec_DrawDishUses.calls k _ _ l0 t781 t784 t787 _ ?side1 ?side2 A3.out).mono ?_); (case side1 => exact pS (HR0.out)); (case side2 => exact HC0.out); rintro e w7 ⟨v782, v785, rfl, ho0, ho1, hb⟩; have n0_ := Aside0.mk (Kd.N_lower (Kd.N_mono (ok' := fun k_ => some k_ ≠ (v785 : Value).ownBlock) ho0 (fun k_ hk_ => hk_.2)) (below_size pB)); have n1_ := Aside0.mk (Kd.R_lower (Kd.R_mono (ok' := fun k_ => True) ho1 (fun _ hk_ => trivial)) (below_size pB)); have n2_ := Aside0.mk (below_step pB hb); clear HB; have HO783 := n0_; have HO786 := n1_; have HB := n2_; clear n0_ n1_ n2_; (try clear hb); (try clear hb2); (try clear hk); (try clear hi); (try clear ho0); (try clear ho1); obtain ⟨Ao8, co8, eo8⟩ := Kd.N_slice HO783.out; subst eo8; obtain ⟨Ao9, co9, eo9⟩ := Kd.R_slice HO786.out; subst eo9) | (go_at_call 31; (with_reducible refine (impl_DishUses.calls k _ _ t781 _ _ t784 t787 t788 _ ?side1 ?side2 ?side3 ?side4 A4.out).mono ?_); (case side1 => exact pS ((Kd.N_reads' HO783.out).2.2)); (case side2 => exact (Kd.N_reads' HO783.out).2.1); (case side3 => exact pS ((Kd.R_reads' HO786.out).2.2)); (case side4 => exact (Kd.R_reads' HO786.out).2.1); rintro e w10 ⟨v789, rfl, ho0, hb⟩; have n0_ := Aside0.mk (Kd.N_elder' F11.q0 (Kd.R_base ho0) hb); have n1_ := Aside0.mk (Kd.R_below (pR HO786) hb); have n2_ := Aside0.mk (Kd.R_lower ho0 (below_size pB)); have n3_ := Aside0.mk (below_step pB hb); clear HO783; clear HO786; clear HB; have HO783 := n0_; have HO786 := n1_; have HO790 := n2_; have HB := n3_; clear n0_ n1_ n2_ n3_; (try clear hb); (try clear hb2); (try clear hk); (try clear hi); (try clear ho0)) | (go_at_call 30; (with_reducible refine (spec_DishUses.calls k _ _ t781 _ _ t784 t787 t791 _ ?side1 ?side2 ?side3 ?side4 A5.out).mono ?_); (case side1 => exact pS ((Kd.N_reads' HO783.out).2.2)); (case side2 => exact (Kd.N_reads' HO783.out).2.1); (case side3 => exact pS ((Kd.R_reads' HO786.out).2.2)); (case side4 => exact (Kd.R_reads' HO786.out).2.1); rintro e w11 ⟨v792, rfl, ho0, hb⟩; have n0_ := Aside0.mk (Kd.N_elder' F11.q0 (Kd.R_base ho0) hb); have n1_ := Aside0.mk (Kd.R_below (pR HO786) hb); have n2_ := Aside0.mk (Kd.R_elder' (pR HO790) (Kd.R_base ho0) hb); have n3_ := Aside0.mk (Kd.R_lower (Kd.R_new' ho0 (Kd.R_lt (pR HO790))) (below_size pB)); have n4_ := Aside0.mk (below_step pB hb); clear HO783; clear HO786; clear HO790; clear HB; have HO783 := n0_; have HO786 := n1_; have HO790 := n2_; have HO793 := n3_; have HB := n4_; clear n0_ n1_ n2_ n3_ n4_; (try clear hb); (try clear hb2); (try clear hk); (try clear hi); (try clear ho0))); go_upto_region 6 with (first | (go_at_call 42; (with_reducible refine (spec_DrawDishUses.calls k _ _ l0 t781 t784 t787 _ ?side1 ?side2 A3.out).mono ?_); (case side1 => exact pS (HR0.out)); (case side2 => exact HC0.out); rintro e w7 ⟨v782, v785, rfl, ho0, ho1, hb⟩; have n0_ := Aside0.mk (Kd.N_lower (Kd.N_mono (ok' := fun k_ => some k_ ≠ (v785 : Value).ownBlock) ho0 (fun k_ hk_ => hk_.2)) (below_size pB)); have n1_ := Aside0.mk (Kd.R_lower (Kd.R_mono (ok' := fun k_ => True) ho1 (fun _ hk_ => trivial)) (below_size pB)); have n2_ := Aside0.mk (below_step pB hb); clear HB; have HO783 := n0_; have HO786 := n1_; have HB := n2_; clear n0_ n1_ n2_; (try clear hb); (try clear hb2); (try clear hk); (try clear hi); (try clear ho0); (try clear ho1); obtain ⟨Ao8, co8, eo8⟩ := Kd.N_slice HO783.out; subst eo8; obtain ⟨Ao9, co9, eo9⟩ := Kd.R_slice HO786.out; subst eo9) | (go_at_call 31; (with_reducible refine (impl_DishUses.calls k _ _ t781 _ _ t784 t787 t788 _ ?side1 ?side2 ?side3 ?side4 A4.out).mono ?_); (case side1 => exact pS ((Kd.N_reads' HO783.out).2.2)); (case side2 => exact (Kd.N_reads' HO783.out).2.1); (case side3 => exact pS ((Kd.R_reads' HO786.out).2.2)); (case side4 => exact (Kd.R_reads' HO786.out).2.1); rintro e w10 ⟨v789, rfl, ho0, hb⟩; have n0_ := Aside0.mk (Kd.N_elder' F11.q0 (Kd.R_base ho0) hb); have n1_ := Aside0.mk (Kd.R_below (pR HO786) hb); have n2_ := Aside0.mk (Kd.R_lower ho0 (below_size pB)); have n3_ := Aside0.mk (below_step pB hb); clear HO783; clear HO786; clear HB; have HO783 := n0_; have HO786 := n1_; have HO790 := n2_; have HB := n3_; clear n0_ n1_ n2_ n3_; (try clear hb); (try clear hb2); (try clear hk); (try clear hi); (try clear ho0)) | (go_at_call 30; (with_reducible refine (spec_DishUses.calls k _ _ t781 _ _ t784 t787 t791 _ ?side1 ?side2 ?side3 ?side4 A5.out).mono ?_); (case side1 => exact pS ((Kd.N_reads' HO783.out).2.2)); (case side2 => exact (Kd.N_reads' HO783.out).2.1); (case side3 => exact pS ((Kd.R_reads' HO786.out).2.2)); (case side4 => exact (Kd.R_reads' HO786.out).2.1); rintro e w11 ⟨v792, rfl, ho0, hb⟩; have n0_ := Aside0.mk (Kd.N_elder' F11.q0 (Kd.R_base ho0) hb); have n1_ := Aside0.mk (Kd.R_below (pR HO786) hb); have n2_ := Aside0.mk (Kd.R_elder' (pR HO790) (Kd.R_base ho0) hb); have n3_ := Aside0.mk (Kd.R_lower (Kd.R_new' ho0 (Kd.R_lt (pR HO790))) (below_size pB)); have n4_ := Aside0.mk (below_step pB hb); clear HO783; clear HO786; clear HO790; clear HB; have HO783 := n0_; have HO786 := n1_; have HO790 := n2_; have HO793 := n3_; have HB := n4_; clear n0_ n1_ n2_ n3_ n4_; (try clear hb); (try clear hb2); (try clear hk); (try clear hi); (try clear ho0))))
 (try simp only [Act.put, List.setIfInBounds_toArray, List.set_cons_zero, List.set_cons_succ])
 go_cut [36] (fun v36 wc => ∃ (kq : Nat) (x36_5 : Bool), v36 = .bool x36_5 ∧ Aside0 (laws_FnDishUses.j0 kq t781 t787 t788 t791 x36_5 = some r) ∧ Aside0 (kq ≤ k) ∧ Aside0 (Kd.N k29 29 wc w.heap.size (fun k_ => some k_ ≠ (v789 : Value).ownBlock ∧ some k_ ≠ (v792 : Value).ownBlock) (.slice Ao8 t781.length co8) t781) ∧ Aside0 (Kd.R (Kd.int .i64) 3 wc w.heap.size (fun k_ => some k_ ≠ (v792 : Value).ownBlock) v789 t788) ∧ Aside0 (Kd.R (Kd.int .i64) 3 wc w.heap.size (fun k_ => some k_ ≠ (v789 : Value).ownBlock) v792 t791) ∧ Aside0 (Below w.heap.size w wc))
 case first =>
  have H := HC6.out
  clear HC6
  replace H := Option.bind_eq_some_iff.mp H
  obtain ⟨t794, A120, H⟩ := H
  replace H : (if t794 = true then (laws_FnDishUses.j0 k t781 t787 t788 t791 ((t791.length : Int) == 0)) else (laws_FnDishUses.j0 k t781 t787 t788 t791 true)) = some r := H
  have A12 := Aside0.mk A120
  clear A120
  by_cases c13 : t794 = true
  ·subst c13
   have H1 : (laws_FnDishUses.j0 k t781 t787 t788 t791 ((t791.length : Int) == 0)) = some r := by rw [if_pos rfl] at H; exact H
   clear H
   have H := H1
   clear H1
   have H' := Aside0.mk H
   clear H
   obtain ⟨Ao14, co14, eo14⟩ := Kd.R_slice HO790.out
   subst eo14
   obtain ⟨Ao15, co15, eo15⟩ := Kd.R_slice HO793.out
   subst eo15
   go_wp2_with (first | (go_at_call 43; (with_reducible refine (laws_sameInts.calls k _ _ t788 _ _ t791 true _ ?side1 ?side2 ?side3 ?side4 A12.out).mono ?_); (case side1 => exact pS ((Kd.R_reads' HO790.out).2.2)); (case side2 => exact (Kd.R_reads' HO790.out).2.1); (case side3 => exact pS ((Kd.R_reads' HO793.out).2.2)); (case side4 => exact (Kd.R_reads' HO793.out).2.1); rintro e w' ⟨rfl, ⟨nd, rfl⟩⟩; (try exact pD)))
   repeat (go_quiet (first | (go_at_call 43; (with_reducible refine (laws_sameInts.calls k _ _ t788 _ _ t791 true _ ?side1 ?side2 ?side3 ?side4 A12.out).mono ?_); (case side1 => exact pS ((Kd.R_reads' HO790.out).2.2)); (case side2 => exact (Kd.R_reads' HO790.out).2.1); (case side3 => exact pS ((Kd.R_reads' HO793.out).2.2)); (case side4 => exact (Kd.R_reads' HO793.out).2.1); rintro e w' ⟨rfl, ⟨nd, rfl⟩⟩; (try exact pD))); try go_wp2_with (first | (go_at_call 43; (with_reducible refine (laws_sameInts.calls k _ _ t788 _ _ t791 true _ ?side1 ?side2 ?side3 ?side4 A12.out).mono ?_); (case side1 => exact pS ((Kd.R_reads' HO790.out).2.2)); (case side2 => exact (Kd.R_reads' HO790.out).2.1); (case side3 => exact pS ((Kd.R_reads' HO793.out).2.2)); (case side4 => exact (Kd.R_reads' HO793.out).2.1); rintro e w' ⟨rfl, ⟨nd, rfl⟩⟩; (try exact pD))))
   go_meet
   case rel => exact ⟨_, (((t791.length : Int) == 0)), pF, H', ⟨by first | omega | exact Nat.le_refl _⟩, ⟨by (with_reducible repeat (first | apply Kd.N_alloc | apply Kd.N_drewN | apply Kd.N_drew)); exact Kd.N_mono HO783.out (fun _ hk => ⟨hk.1.2, hk.2⟩)⟩, ⟨by (with_reducible repeat (first | apply Kd.R_alloc | apply Kd.R_drewN | apply Kd.R_drew)); exact Kd.R_mono HO790.out (fun _ hk => hk.2)⟩, ⟨by (with_reducible repeat (first | apply Kd.R_alloc | apply Kd.R_drewN | apply Kd.R_drew)); exact Kd.R_mono HO793.out (fun _ hk => hk.2)⟩, ⟨pB⟩⟩
  replace c13 := Bool.eq_false_iff.mpr c13
  subst c13
  have H1 : (laws_FnDishUses.j0 k t781 t787 t788 t791 true) = some r := by rw [if_neg (show ¬ (false = true) by decide)] at H; exact H
  clear H
  have H := H1
  clear H1
  have H' := Aside0.mk H
  clear H
  obtain ⟨Ao16, co16, eo16⟩ := Kd.R_slice HO790.out
  subst eo16
  obtain ⟨Ao17, co17, eo17⟩ := Kd.R_slice HO793.out
  subst eo17
  go_wp2_with (first | (go_at_call 43; (with_reducible refine (laws_sameInts.calls k _ _ t788 _ _ t791 false _ ?side1 ?side2 ?side3 ?side4 A12.out).mono ?_); (case side1 => exact pS ((Kd.R_reads' HO790.out).2.2)); (case side2 => exact (Kd.R_reads' HO790.out).2.1); (case side3 => exact pS ((Kd.R_reads' HO793.out).2.2)); (case side4 => exact (Kd.R_reads' HO793.out).2.1); rintro e w' ⟨rfl, ⟨nd, rfl⟩⟩; (try exact pD)))
  repeat (go_quiet (first | (go_at_call 43; (with_reducible refine (laws_sameInts.calls k _ _ t788 _ _ t791 false _ ?side1 ?side2 ?side3 ?side4 A12.out).mono ?_); (case side1 => exact pS ((Kd.R_reads' HO790.out).2.2)); (case side2 => exact (Kd.R_reads' HO790.out).2.1); (case side3 => exact pS ((Kd.R_reads' HO793.out).2.2)); (case side4 => exact (Kd.R_reads' HO793.out).2.1); rintro e w' ⟨rfl, ⟨nd, rfl⟩⟩; (try exact pD))); try go_wp2_with (first | (go_at_call 43; (with_reducible refine (laws_sameInts.calls k _ _ t788 _ _ t791 false _ ?side1 ?side2 ?side3 ?side4 A12.out).mono ?_); (case side1 => exact pS ((Kd.R_reads' HO790.out).2.2)); (case side2 => exact (Kd.R_reads' HO790.out).2.1); (case side3 => exact pS ((Kd.R_reads' HO793.out).2.2)); (case side4 => exact (Kd.R_reads' HO793.out).2.1); rintro e w' ⟨rfl, ⟨nd, rfl⟩⟩; (try exact pD))))
  go_meet
  case rel => exact ⟨_, (true), pF, H', ⟨by first | omega | exact Nat.le_refl _⟩, ⟨by (with_reducible repeat (first | apply Kd.N_alloc | apply Kd.N_drewN | apply Kd.N_drew)); exact Kd.N_mono HO783.out (fun _ hk => ⟨hk.1.2, hk.2⟩)⟩, ⟨by (with_reducible repeat (first | apply Kd.R_alloc | apply Kd.R_drewN | apply Kd.R_drew)); exact Kd.R_mono HO790.out (fun _ hk => hk.2)⟩, ⟨by (with_reducible repeat (first | apply Kd.R_alloc | apply Kd.R_drewN | apply Kd.R_drew)); exact Kd.R_mono HO793.out (fun _ hk => hk.2)⟩, ⟨pB⟩⟩
 case rest =>
  clear HC6
  try clear c1
  try clear c2
  try clear c2b0
  try clear c2b1
  try clear p2
  try clear c11
  try clear c13
  obtain ⟨kq, x36_5, rfl, HA, HJ5, HO_3, HO_6, HO_7, HB⟩ := hcut
  cases kq with
  | zero => exact absurd HA.out (by simp [laws_FnDishUses.j0])
  | succ kj5 =>
   have H := HA.out
   clear HA
   simp only [laws_FnDishUses.j0] at H
   by_cases c18 : x36_5 = true
   ·subst c18
    have H1 : ((laws_sameInts.f kj5 t788 t791).bind fun t795 => (some t795)) = some r := by rw [if_pos rfl] at H; exact H
    clear H
    have H := H1
    clear H1
    replace H := Option.bind_eq_some_iff.mp H
    obtain ⟨t795, A190, H⟩ := H
    replace H : (some t795) = some r := H
    have A19 := Aside0.mk A190
    clear A190
    obtain rfl := Option.some.inj H
    obtain ⟨Ao20, co20, eo20⟩ := Kd.R_slice HO_6.out
    subst eo20
    obtain ⟨Ao21, co21, eo21⟩ := Kd.R_slice HO_7.out
    subst eo21
    go_wp2_with (first | (go_at_call 43; (with_reducible refine (laws_sameInts.calls kj5 _ _ t788 _ _ t791 t795 _ ?side1 ?side2 ?side3 ?side4 A19.out).mono ?_); (case side1 => exact pS ((Kd.R_reads' HO_6.out).2.2)); (case side2 => exact (Kd.R_reads' HO_6.out).2.1); (case side3 => exact pS ((Kd.R_reads' HO_7.out).2.2)); (case side4 => exact (Kd.R_reads' HO_7.out).2.1); rintro e w' ⟨rfl, ⟨nd, rfl⟩⟩; (try exact pD)))
    repeat (go_quiet (first | (go_at_call 43; (with_reducible refine (laws_sameInts.calls kj5 _ _ t788 _ _ t791 t795 _ ?side1 ?side2 ?side3 ?side4 A19.out).mono ?_); (case side1 => exact pS ((Kd.R_reads' HO_6.out).2.2)); (case side2 => exact (Kd.R_reads' HO_6.out).2.1); (case side3 => exact pS ((Kd.R_reads' HO_7.out).2.2)); (case side4 => exact (Kd.R_reads' HO_7.out).2.1); rintro e w' ⟨rfl, ⟨nd, rfl⟩⟩; (try exact pD))); try go_wp2_with (first | (go_at_call 43; (with_reducible refine (laws_sameInts.calls kj5 _ _ t788 _ _ t791 t795 _ ?side1 ?side2 ?side3 ?side4 A19.out).mono ?_); (case side1 => exact pS ((Kd.R_reads' HO_6.out).2.2)); (case side2 => exact (Kd.R_reads' HO_6.out).2.1); (case side3 => exact pS ((Kd.R_reads' HO_7.out).2.2)); (case side4 => exact (Kd.R_reads' HO_7.out).2.1); rintro e w' ⟨rfl, ⟨nd, rfl⟩⟩; (try exact pD))))
    go_ret
    exact ⟨pE, pB⟩
   replace c18 := Bool.eq_false_iff.mpr c18
   subst c18
   have H1 : (laws_FnDishUses.l0 kj5 t781 t787 t788 0) = some r := by rw [if_neg (show ¬ (false = true) by decide)] at H; exact H
   clear H
   have H := H1
   clear H1
   have H' := Aside0.mk H
   clear H
   go_wp2
   repeat (go_quiet (fail); try go_wp2)
   go_loopg [8] kj5 (fun kq v8 w' => ∃ (x8_2 : Int), v8 = .int .i64 x8_2 ∧ Aside0 (laws_FnDishUses.l0 kq t781 t787 t788 x8_2 = some r) ∧ Aside0 (kq ≤ kj5) ∧ Aside0 (Kd.N k29 29 w' w.heap.size (fun k_ => some k_ ≠ (v789 : Value).ownBlock) (.slice Ao8 t781.length co8) t781) ∧ Aside0 (Kd.R (Kd.int .i64) 3 w' w.heap.size (fun _ => True) v789 t788) ∧ Aside0 (Below w.heap.size w w'))
   case atStart => exact ⟨(0), pF, H', ⟨Nat.le_refl _⟩, ⟨by (with_reducible repeat (first | apply Kd.N_alloc | apply Kd.N_drewN | apply Kd.N_drew)); exact Kd.N_mono HO_3.out (fun _ hk => hk.1)⟩, ⟨by (with_reducible repeat (first | apply Kd.R_alloc | apply Kd.R_drewN | apply Kd.R_drew)); exact Kd.R_mono HO_6.out (fun _ hk => trivial)⟩, ⟨pB⟩⟩
   case round =>
    clear H'
    try clear c1
    try clear c2
    try clear c2b0
    try clear c2b1
    try clear p2
    try clear c11
    try clear c13
    try clear c18
    try clear p2
    obtain ⟨x8_2, rfl, HA, HK2, HO_3, HO_6, HB⟩ := hrel
    cases gk with
    | zero => exact absurd HA.out (by simp [laws_FnDishUses.l0])
    | succ k2 =>
     have H := HA.out
     clear HA
     simp only [laws_FnDishUses.l0] at H
     rcases (Classical.em (x8_2 < (t788.length : Int))).symm with c22 | c22
     ·rw [if_neg c22] at H
      have c22b0 : decide (x8_2 < (t788.length : Int)) = false := decide_eq_false c22
      clear c22
      replace H := Option.bind_eq_some_iff.mp H
      obtain ⟨t796, A420, H⟩ := H
      replace H : (some t796) = some r := H
      have A42 := Aside0.mk A420
      clear A420
      obtain rfl := Option.some.inj H
      obtain ⟨Ao43, co43, eo43⟩ := Kd.R_slice HO_6.out
      subst eo43
      go_wp2_with (first | (go_at_call 44; (with_reducible refine (laws_hasInt.calls k2 _ _ t788 t787 t796 _ ?side1 ?side2 A42.out).mono ?_); (case side1 => exact pS ((Kd.R_reads' HO_6.out).2.2)); (case side2 => exact (Kd.R_reads' HO_6.out).2.1); rintro e w' ⟨rfl, ⟨nd, rfl⟩⟩; (try exact pD)))
      repeat (go_quiet (first | (go_at_call 44; (with_reducible refine (laws_hasInt.calls k2 _ _ t788 t787 t796 _ ?side1 ?side2 A42.out).mono ?_); (case side1 => exact pS ((Kd.R_reads' HO_6.out).2.2)); (case side2 => exact (Kd.R_reads' HO_6.out).2.1); rintro e w' ⟨rfl, ⟨nd, rfl⟩⟩; (try exact pD))); try go_wp2_with (first | (go_at_call 44; (with_reducible refine (laws_hasInt.calls k2 _ _ t788 t787 t796 _ ?side1 ?side2 A42.out).mono ?_); (case side1 => exact pS ((Kd.R_reads' HO_6.out).2.2)); (case side2 => exact (Kd.R_reads' HO_6.out).2.1); rintro e w' ⟨rfl, ⟨nd, rfl⟩⟩; (try exact pD))))
      go_ret
      exact ⟨pE, pB⟩

     rw [if_pos c22] at H
     have c22b0 : decide (x8_2 < (t788.length : Int)) = true := decide_eq_true c22
     clear c22
     rcases (Classical.em (0 ≤ x8_2)).symm with c23 | c23
     ·rw [if_neg c23] at H
      exact absurd H (by simp)
     rw [if_pos c23] at H
     have c23b0 : decide (0 ≤ x8_2) = true := decide_eq_true c23
     clear c23
     replace H := Option.bind_eq_some_iff.mp H
     obtain ⟨t798, A240, H⟩ := H
     replace H : (if t798 < 0 then (laws_FnDishUses.j2 k2 t781 t787 t788 x8_2 t798 true) else (if x8_2 > 0 then (if 0 ≤ (wrap64 (x8_2 - 1)) then (if (wrap64 (x8_2 - 1)) < (t788.length : Int) then (if (rd t788 (wrap64 (x8_2 - 1))) ≥ (rd t788 x8_2) then (laws_FnDishUses.j2 k2 t781 t787 t788 x8_2 t798 true) else (laws_FnDishUses.j2 k2 t781 t787 t788 x8_2 t798 (decide ((rd t788 x8_2) > t787)))) else (none)) else (none)) else (laws_FnDishUses.j2 k2 t781 t787 t788 x8_2 t798 (decide ((rd t788 x8_2) > t787))))) = some r := H
     have A24 := Aside0.mk A240
     clear A240
     have HC25 := Aside0.mk H
     clear H
     obtain ⟨Ao26, co26, eo26⟩ := Kd.R_slice HO_6.out
     subst eo26
     have p797 : 0 ≤ (x8_2 : Int) := of_decide_eq_true pA
     have q797 : x8_2 < (t788.length : Int) := of_decide_eq_true pA
     obtain ⟨ad797, e797, hx797_0⟩ := Kd.at_int (Kd.R_reads' HO_6.out).2.2 x8_2 p797 q797
     cases e797
     replace p797 := eq_true p797
     replace q797 := eq_true q797
     go_upto_region 12 with (first | (go_at_call 20; (with_reducible refine (impl_DishesFind.calls _ _ t781 (rd t788 x8_2) t798 _ ?side1 ?side2 A24.out).mono ?_); (case side1 => exact pS ((Kd.N_reads' HO_3.out).2.2)); (case side2 => exact (Kd.N_reads' HO_3.out).2.1); rintro e w27 ⟨rfl, hb⟩; have n0_ := Aside0.mk (Kd.N_below (by (with_reducible repeat (first | apply Kd.N_alloc | apply Kd.N_drewN | apply Kd.N_drew)); exact HO_3.out) hb); have n1_ := Aside0.mk (Kd.R_below (pR HO_6) hb); have n2_ := Aside0.mk (below_step pB hb); clear HO_3; clear HO_6; clear HB; have HO_3 := n0_; have HO_6 := n1_; have HB := n2_; clear n0_ n1_ n2_; (try clear hb); (try clear hb2); (try clear hk); (try clear hi)))
     repeat (go_quiet (first | (go_at_call 20; (with_reducible refine (impl_DishesFind.calls _ _ t781 (rd t788 x8_2) t798 _ ?side1 ?side2 A24.out).mono ?_); (case side1 => exact pS ((Kd.N_reads' HO_3.out).2.2)); (case side2 => exact (Kd.N_reads' HO_3.out).2.1); rintro e w27 ⟨rfl, hb⟩; have n0_ := Aside0.mk (Kd.N_below (by (with_reducible repeat (first | apply Kd.N_alloc | apply Kd.N_drewN | apply Kd.N_drew)); exact HO_3.out) hb); have n1_ := Aside0.mk (Kd.R_below (pR HO_6) hb); have n2_ := Aside0.mk (below_step pB hb); clear HO_3; clear HO_6; clear HB; have HO_3 := n0_; have HO_6 := n1_; have HB := n2_; clear n0_ n1_ n2_; (try clear hb); (try clear hb2); (try clear hk); (try clear hi))); go_upto_region 12 with (first | (go_at_call 20; (with_reducible refine (impl_DishesFind.calls _ _ t781 (rd t788 x8_2) t798 _ ?side1 ?side2 A24.out).mono ?_); (case side1 => exact pS ((Kd.N_reads' HO_3.out).2.2)); (case side2 => exact (Kd.N_reads' HO_3.out).2.1); rintro e w27 ⟨rfl, hb⟩; have n0_ := Aside0.mk (Kd.N_below (by (with_reducible repeat (first | apply Kd.N_alloc | apply Kd.N_drewN | apply Kd.N_drew)); exact HO_3.out) hb); have n1_ := Aside0.mk (Kd.R_below (pR HO_6) hb); have n2_ := Aside0.mk (below_step pB hb); clear HO_3; clear HO_6; clear HB; have HO_3 := n0_; have HO_6 := n1_; have HB := n2_; clear n0_ n1_ n2_; (try clear hb); (try clear hb2); (try clear hk); (try clear hi))))
     (try simp only [Act.put, List.setIfInBounds_toArray, List.set_cons_zero, List.set_cons_succ])
     go_cut [77] (fun v77 wc => ∃ (kq : Nat) (x77_24 : Bool), v77 = .bool x77_24 ∧ Aside0 (laws_FnDishUses.j2 kq t781 t787 t788 x8_2 t798 x77_24 = some r) ∧ Aside0 (kq ≤ k2) ∧ Aside0 (Kd.N k29 29 wc w.heap.size (fun k_ => some k_ ≠ ((.slice (some ad797) t788.length co26) : Value).ownBlock) (.slice Ao8 t781.length co8) t781) ∧ Aside0 (Kd.R (Kd.int .i64) 3 wc w.heap.size (fun _ => True) (.slice (some ad797) t788.length co26) t788) ∧ Aside0 (Below w.heap.size w wc))
     case first =>
      have H := HC25.out
      clear HC25
      by_cases c28 : t798 < 0
      ·rw [if_pos c28] at H
       have c28b0 : decide (t798 < 0) = true := decide_eq_true c28
       clear c28
       (first | rw [c28b0] | (simp only [i64_w, i32_w]; rw [c28b0]) | skip)
       have H' := Aside0.mk H
       clear H
       go_wp2
       repeat (go_quiet (fail); try go_wp2)
       go_meet
       case rel => exact ⟨_, (true), pF, H', ⟨by have := HJ5.out; have := HK2.out; first | omega | exact Nat.le_refl _⟩, ⟨by (with_reducible repeat (first | apply Kd.N_alloc | apply Kd.N_drewN | apply Kd.N_drew)); exact HO_3.out⟩, ⟨pR HO_6⟩, ⟨pB⟩⟩
      rw [if_neg c28] at H
      have c28b0 : decide (t798 < 0) = false := decide_eq_false c28
      clear c28
      (first | rw [c28b0] | (simp only [i64_w, i32_w]; rw [c28b0]) | skip)
      rcases (Classical.em (x8_2 > 0)).symm with c29 | c29
      ·rw [if_neg c29] at H
       have c29b0 : decide (0 < x8_2) = false := decide_eq_false c29
       clear c29
       have H' := Aside0.mk H
       clear H
       have p802 : 0 ≤ (x8_2 : Int) := of_decide_eq_true pA
       have q802 : x8_2 < (t788.length : Int) := of_decide_eq_true pA
       obtain ⟨ad802, e802, hx802_0⟩ := Kd.at_int (Kd.R_reads' HO_6.out).2.2 x8_2 p802 q802
       obtain rfl : ad797 = ad802 := (by injection e802)
       replace p802 := eq_true p802
       replace q802 := eq_true q802
       go_wp2
       repeat (go_quiet (fail); try go_wp2)
       go_meet
       case rel => exact ⟨_, (decide ((rd t788 x8_2) > t787)), pF, H', ⟨by have := HJ5.out; have := HK2.out; first | omega | exact Nat.le_refl _⟩, ⟨by (with_reducible repeat (first | apply Kd.N_alloc | apply Kd.N_drewN | apply Kd.N_drew)); exact HO_3.out⟩, ⟨pR HO_6⟩, ⟨pB⟩⟩
      rw [if_pos c29] at H
      have c29b0 : decide (0 < x8_2) = true := decide_eq_true c29
      clear c29
      obtain ⟨ji30, hji30⟩ : ∃ j_ : Int, (wrap64 (x8_2 - 1)) = j_ := ⟨_, rfl⟩
      replace H : (if 0 ≤ (ji30) then (if (ji30) < (t788.length : Int) then (if (rd t788 (ji30)) ≥ (rd t788 x8_2) then (laws_FnDishUses.j2 k2 t781 t787 t788 x8_2 t798 true) else (laws_FnDishUses.j2 k2 t781 t787 t788 x8_2 t798 (decide ((rd t788 x8_2) > t787)))) else (none)) else (none)) = some r := by first | (rw [hji30] at H; exact H) | (simp only [hji30] at H ⊢; exact H)
      have hji30w : (IntKind.i64.wrap (x8_2 - 1)) = ji30 := (i64_w _).trans hji30
      rcases (Classical.em (0 ≤ (ji30))).symm with c31 | c31
      ·rw [if_neg c31] at H
       exact absurd H (by simp)
      rw [if_pos c31] at H
      have c31b0 : decide (0 ≤ (ji30)) = true := decide_eq_true c31
      clear c31
      rcases (Classical.em ((ji30) < (t788.length : Int))).symm with c32 | c32
      ·rw [if_neg c32] at H
       exact absurd H (by simp)
      rw [if_pos c32] at H
      have c32b0 : decide ((ji30) < (t788.length : Int)) = true := decide_eq_true c32
      clear c32
      by_cases c33 : (rd t788 (ji30)) ≥ (rd t788 x8_2)
      ·rw [if_pos c33] at H
       have c33b0 : decide ((rd t788 x8_2) ≤ (rd t788 (ji30))) = true := decide_eq_true c33
       clear c33
       have H' := Aside0.mk H
       clear H
       have p799 : 0 ≤ ((ji30) : Int) := of_decide_eq_true pA
       have q799 : (ji30) < (t788.length : Int) := of_decide_eq_true pA
       obtain ⟨ad799, e799, hx799_0⟩ := Kd.at_int (Kd.R_reads' HO_6.out).2.2 (ji30) p799 q799
       obtain rfl : ad797 = ad799 := (by injection e799)
       replace p799 := eq_true p799
       replace q799 := eq_true q799
       have p800 : 0 ≤ (x8_2 : Int) := of_decide_eq_true pA
       have q800 : x8_2 < (t788.length : Int) := of_decide_eq_true pA
       obtain ⟨ad800, e800, hx800_0⟩ := Kd.at_int (Kd.R_reads' HO_6.out).2.2 x8_2 p800 q800
       obtain rfl : ad797 = ad800 := (by injection e800)
       replace p800 := eq_true p800
       replace q800 := eq_true q800
       go_wp2
       repeat (go_quiet (fail); try go_wp2)
       go_meet
       case rel => exact ⟨_, (true), pF, H', ⟨by have := HJ5.out; have := HK2.out; first | omega | exact Nat.le_refl _⟩, ⟨by (with_reducible repeat (first | apply Kd.N_alloc | apply Kd.N_drewN | apply Kd.N_drew)); exact HO_3.out⟩, ⟨pR HO_6⟩, ⟨pB⟩⟩
      rw [if_neg c33] at H
      have c33b0 : decide ((rd t788 x8_2) ≤ (rd t788 (ji30))) = false := decide_eq_false c33
      clear c33
      have H' := Aside0.mk H
      clear H
      have p799 : 0 ≤ ((ji30) : Int) := of_decide_eq_true pA
      have q799 : (ji30) < (t788.length : Int) := of_decide_eq_true pA
      obtain ⟨ad799, e799, hx799_0⟩ := Kd.at_int (Kd.R_reads' HO_6.out).2.2 (ji30) p799 q799
      obtain rfl : ad797 = ad799 := (by injection e799)
      replace p799 := eq_true p799
      replace q799 := eq_true q799
      have p800 : 0 ≤ (x8_2 : Int) := of_decide_eq_true pA
      have q800 : x8_2 < (t788.length : Int) := of_decide_eq_true pA
      obtain ⟨ad800, e800, hx800_0⟩ := Kd.at_int (Kd.R_reads' HO_6.out).2.2 x8_2 p800 q800
      obtain rfl : ad797 = ad800 := (by injection e800)
      replace p800 := eq_true p800
      replace q800 := eq_true q800
      have p801 : 0 ≤ (x8_2 : Int) := of_decide_eq_true pA
      have q801 : x8_2 < (t788.length : Int) := of_decide_eq_true pA
      obtain ⟨ad801, e801, hx801_0⟩ := Kd.at_int (Kd.R_reads' HO_6.out).2.2 x8_2 p801 q801
      obtain rfl : ad797 = ad801 := (by injection e801)
      replace p801 := eq_true p801
      replace q801 := eq_true q801
      go_wp2
      repeat (go_quiet (fail); try go_wp2)
      go_meet
      case rel => exact ⟨_, (decide ((rd t788 x8_2) > t787)), pF, H', ⟨by have := HJ5.out; have := HK2.out; first | omega | exact Nat.le_refl _⟩, ⟨by (with_reducible repeat (first | apply Kd.N_alloc | apply Kd.N_drewN | apply Kd.N_drew)); exact HO_3.out⟩, ⟨pR HO_6⟩, ⟨pB⟩⟩
     case rest =>
      clear HC25
      try clear c1
      try clear c2
      try clear c2b0
      try clear c2b1
      try clear p2
      try clear c3
      try clear p6
      try clear p7
      try clear q7
      try clear hx7
      try clear p8
      try clear q8
      try clear hx8
      try clear c11
      try clear c13
      try clear c18
      try clear c22
      try clear c22b0
      try clear c23
      try clear c23b0
      try clear c28
      try clear c28b0
      try clear c29
      try clear c29b0
      try clear c31
      try clear c31b0
      try clear c32
      try clear c32b0
      try clear c33
      try clear c33b0
      try clear hx797_0
      try clear hx799_0
      try clear hx800_0
      try clear hx801_0
      try clear hx802_0
      try clear p2
      try clear p797
      try clear p799
      try clear p800
      try clear p801
      try clear p802
      try clear q797
      try clear q799
      try clear q800
      try clear q801
      try clear q802
      obtain ⟨kq, x77_24, rfl, HA, HJ24, HO_3, HO_6, HB⟩ := hcut
      cases kq with
      | zero => exact absurd HA.out (by simp [laws_FnDishUses.j2])
      | succ kj24 =>
       have H := HA.out
       clear HA
       simp only [laws_FnDishUses.j2] at H
       by_cases c34 : x77_24 = true
       ·subst c34
        have H1 : (some false) = some r := by rw [if_pos rfl] at H; exact H
        clear H
        have H := H1
        clear H1
        obtain rfl := Option.some.inj H
        go_wp2
        repeat (go_quiet (fail); try go_wp2)
        go_ret
        exact ⟨pE, pB⟩
       replace c34 := Bool.eq_false_iff.mpr c34
       subst c34
       have H1 : (laws_FnDishUses.l1 kj24 t781 t787 t788 x8_2 t798 0) = some r := by rw [if_neg (show ¬ (false = true) by decide)] at H; exact H
       clear H
       have H := H1
       clear H1
       have H' := Aside0.mk H
       clear H
       go_wp2
       repeat (go_quiet (fail); try go_wp2)
       go_loopg [10] kj24 (fun kq v10 w' => ∃ (x10_4 : Int), v10 = .int .i64 x10_4 ∧ Aside0 (laws_FnDishUses.l1 kq t781 t787 t788 x8_2 t798 x10_4 = some r) ∧ Aside0 (kq ≤ kj24) ∧ Aside0 (Kd.N k29 29 w' w.heap.size (fun k_ => some k_ ≠ ((.slice (some ad797) t788.length co26) : Value).ownBlock) (.slice Ao8 t781.length co8) t781) ∧ Aside0 (Kd.R (Kd.int .i64) 3 w' w.heap.size (fun _ => True) (.slice (some ad797) t788.length co26) t788) ∧ Aside0 (Below w.heap.size w w'))
       case atStart => exact ⟨(0), pF, H', ⟨Nat.le_refl _⟩, ⟨by (with_reducible repeat (first | apply Kd.N_alloc | apply Kd.N_drewN | apply Kd.N_drew)); exact HO_3.out⟩, ⟨pR HO_6⟩, ⟨pB⟩⟩
       case round =>
        clear H'
        try clear c1
        try clear c2
        try clear c2b0
        try clear c2b1
        try clear p2
        try clear c3
        try clear p6
        try clear p7
        try clear q7
        try clear hx7
        try clear p8
        try clear q8
        try clear hx8
        try clear c11
        try clear c13
        try clear c18
        try clear c22
        try clear c22b0
        try clear c23
        try clear c23b0
        try clear c28
        try clear c28b0
        try clear c29
        try clear c29b0
        try clear c31
        try clear c31b0
        try clear c32
        try clear c32b0
        try clear c33
        try clear c33b0
        try clear c34
        try clear hx797_0
        try clear hx799_0
        try clear hx800_0
        try clear hx801_0
        try clear hx802_0
        try clear p2
        try clear p6
        try clear p7
        try clear p797
        try clear p799
        try clear p8
        try clear p800
        try clear p801
        try clear p802
        try clear q7
        try clear q797
        try clear q799
        try clear q8
        try clear q800
        try clear q801
        try clear q802
        obtain ⟨x10_4, rfl, HA, HK4, HO_3, HO_6, HB⟩ := hrel
        cases gk with
        | zero => exact absurd HA.out (by simp [laws_FnDishUses.l1])
        | succ k4 =>
         have H := HA.out
         clear HA
         simp only [laws_FnDishUses.l1] at H
         rcases (Classical.em (0 ≤ t798)).symm with c35 | c35
         ·rw [if_neg c35] at H
          exact absurd H (by simp)
         rw [if_pos c35] at H
         have c35b0 : decide (0 ≤ t798) = true := decide_eq_true c35
         clear c35
         rcases (Classical.em (t798 < (t781.length : Int))).symm with c36 | c36
         ·rw [if_neg c36] at H
          exact absurd H (by simp)
         rw [if_pos c36] at H
         have c36b0 : decide (t798 < (t781.length : Int)) = true := decide_eq_true c36
         clear c36
         rcases (Classical.em (x10_4 < (((rd_T29 t781 t798).f2).length : Int))).symm with c37 | c37
         ·rw [if_neg c37] at H
          have c37b0 : decide (x10_4 < (((rd_T29 t781 t798).f2).length : Int)) = false := decide_eq_false c37
          clear c37
          have H' := Aside0.mk H
          clear H
          have p803 : 0 ≤ (t798 : Int) := of_decide_eq_true pA
          have q803 : t798 < (t781.length : Int) := of_decide_eq_true pA
          obtain ⟨ad803, A803_2, c803_2, e803, hx803_0, hx803_1, hx803_2, hl803_2, hi803_2⟩ := at_T29 (Kd.N_reads' HO_3.out).2.2 t798 p803 q803
          cases e803
          obtain ⟨ce803, hce803, hMe803, hcc803⟩ := Kd.N_get HO_3.out z29 t798 p803 (by first | exact q803 | exact of_decide_eq_true pA | (have e_ := (Kd.N_reads' HO_3.out).1; omega))
          obtain ⟨ua803_2, uc803_2, rfl, ul803_2, ge803_2⟩ := k29_openF hMe803
          have hv803_2 := hcc803 2 _ rfl
          rw [add_field _ _ 2 (by omega)] at hv803_2
          replace hv803_2 := Option.some.inj (hv803_2.symm.trans hx803_2)
          injection hv803_2 with hva_ hvn_ hvc_
          rw [hva_] at ge803_2
          rw [hvc_] at ul803_2
          have HL803_2 := Aside0.mk (show Kd.V k55 55 _ w.heap.size _ _ ((rd_T29 t781 t798).f2) from Kd.V_mk ul803_2 ge803_2)
          clear hva_ hvn_ hvc_ ge803_2 ul803_2
          clear hcc803 hce803
          have HR803_2 := Aside0.mk (hi803_2)
          have HC803_2 := Aside0.mk hl803_2
          clear hi803_2 hl803_2
          replace p803 := eq_true p803
          replace q803 := eq_true q803
          go_wp2
          repeat (go_quiet (fail); try go_wp2)
          go_roundg k4
          case measure => have := HJ5.out; have := HK2.out; have := HJ24.out; have := HK4.out; omega
          case rel => exact ⟨(wrap64 (x8_2 + 1)), pF, H', ⟨by have := HJ5.out; have := HK2.out; have := HJ24.out; have := HK4.out; omega⟩, ⟨by (with_reducible repeat (first | apply Kd.N_alloc | apply Kd.N_drewN | apply Kd.N_drew)); exact HO_3.out⟩, ⟨pR HO_6⟩, ⟨pB⟩⟩
         rw [if_pos c37] at H
         have c37b0 : decide (x10_4 < (((rd_T29 t781 t798).f2).length : Int)) = true := decide_eq_true c37
         clear c37
         rcases (Classical.em (0 ≤ x10_4)).symm with c38 | c38
         ·rw [if_neg c38] at H
          exact absurd H (by simp)
         rw [if_pos c38] at H
         have c38b0 : decide (0 ≤ x10_4) = true := decide_eq_true c38
         clear c38
         rcases (Classical.em (((rd_T55 ((rd_T29 t781 t798).f2) x10_4).f1) > 0)).symm with c39 | c39
         ·rw [if_neg c39] at H
          have c39b0 : decide (0 < ((rd_T55 ((rd_T29 t781 t798).f2) x10_4).f1)) = false := decide_eq_false c39
          clear c39
          have H' := Aside0.mk H
          clear H
          have p803 : 0 ≤ (t798 : Int) := of_decide_eq_true pA
          have q803 : t798 < (t781.length : Int) := of_decide_eq_true pA
          obtain ⟨ad803, A803_2, c803_2, e803, hx803_0, hx803_1, hx803_2, hl803_2, hi803_2⟩ := at_T29 (Kd.N_reads' HO_3.out).2.2 t798 p803 q803
          cases e803
          obtain ⟨ce803, hce803, hMe803, hcc803⟩ := Kd.N_get HO_3.out z29 t798 p803 (by first | exact q803 | exact of_decide_eq_true pA | (have e_ := (Kd.N_reads' HO_3.out).1; omega))
          obtain ⟨ua803_2, uc803_2, rfl, ul803_2, ge803_2⟩ := k29_openF hMe803
          have hv803_2 := hcc803 2 _ rfl
          rw [add_field _ _ 2 (by omega)] at hv803_2
          replace hv803_2 := Option.some.inj (hv803_2.symm.trans hx803_2)
          injection hv803_2 with hva_ hvn_ hvc_
          rw [hva_] at ge803_2
          rw [hvc_] at ul803_2
          have HL803_2 := Aside0.mk (show Kd.V k55 55 _ w.heap.size _ _ ((rd_T29 t781 t798).f2) from Kd.V_mk ul803_2 ge803_2)
          clear hva_ hvn_ hvc_ ge803_2 ul803_2
          clear hcc803 hce803
          have HR803_2 := Aside0.mk (hi803_2)
          have HC803_2 := Aside0.mk hl803_2
          clear hi803_2 hl803_2
          replace p803 := eq_true p803
          replace q803 := eq_true q803
          have p804 : 0 ≤ (t798 : Int) := of_decide_eq_true pA
          have q804 : t798 < (t781.length : Int) := of_decide_eq_true pA
          obtain ⟨ad804, A804_2, c804_2, e804, hx804_0, hx804_1, hx804_2, hl804_2, hi804_2⟩ := at_T29 (Kd.N_reads' HO_3.out).2.2 t798 p804 q804
          obtain rfl : ad803 = ad804 := (by injection e804)
          obtain ⟨ce804, hce804, hMe804, hcc804⟩ := Kd.N_get HO_3.out z29 t798 p804 (by first | exact q804 | exact of_decide_eq_true pA | (have e_ := (Kd.N_reads' HO_3.out).1; omega))
          obtain ⟨ua804_2, uc804_2, rfl, ul804_2, ge804_2⟩ := k29_openF hMe804
          have hv804_2 := hcc804 2 _ rfl
          rw [add_field _ _ 2 (by omega)] at hv804_2
          replace hv804_2 := Option.some.inj (hv804_2.symm.trans hx804_2)
          injection hv804_2 with hva_ hvn_ hvc_
          rw [hva_] at ge804_2
          rw [hvc_] at ul804_2
          have HL804_2 := Aside0.mk (show Kd.V k55 55 _ w.heap.size _ _ ((rd_T29 t781 t798).f2) from Kd.V_mk ul804_2 ge804_2)
          clear hva_ hvn_ hvc_ ge804_2 ul804_2
          clear hcc804 hce804
          have HR804_2 := Aside0.mk (hi804_2)
          have HC804_2 := Aside0.mk hl804_2
          clear hi804_2 hl804_2
          replace p804 := eq_true p804
          replace q804 := eq_true q804
          have ea_ := Option.some.inj (hx803_2.symm.trans hx804_2)
          injection ea_ with ea_ en_ ec_
          subst ea_
          subst ec_
          clear en_
          have p805 : 0 ≤ (x10_4 : Int) := of_decide_eq_true pA
          have q805 : x10_4 < (((rd_T29 t781 t798).f2).length : Int) := of_decide_eq_true pA
          obtain ⟨ad805, e805, hx805_0, hx805_1, hx805_2⟩ := at_T55 (by repeat (first | (with_reducible exact HR804_2.out) | (with_reducible refine Kd.C_alloc ?_ _) | (with_reducible refine Kd.C_drewN ?_ _) | (with_reducible refine Kd.C_drew ?_) | exact HR804_2.out)) x10_4 p805 q805
          cases e805
          replace p805 := eq_true p805
          replace q805 := eq_true q805
          go_wp2
          repeat (go_quiet (fail); try go_wp2)
          go_roundg k4
          case measure => have := HJ5.out; have := HK2.out; have := HJ24.out; have := HK4.out; omega
          case rel => exact ⟨(wrap64 (x10_4 + 1)), pF, H', ⟨by have := HJ5.out; have := HK2.out; have := HJ24.out; have := HK4.out; omega⟩, ⟨by (with_reducible repeat (first | apply Kd.N_alloc | apply Kd.N_drewN | apply Kd.N_drew)); exact HO_3.out⟩, ⟨pR HO_6⟩, ⟨pB⟩⟩
         rw [if_pos c39] at H
         have c39b0 : decide (0 < ((rd_T55 ((rd_T29 t781 t798).f2) x10_4).f1)) = true := decide_eq_true c39
         clear c39
         replace H := Option.bind_eq_some_iff.mp H
         obtain ⟨t808, A400, H⟩ := H
         replace H : (if t808 = true then (laws_FnDishUses.l1 k4 t781 t787 t788 x8_2 t798 (wrap64 (x10_4 + 1))) else (some false)) = some r := H
         have A40 := Aside0.mk A400
         clear A400
         rcases (Classical.em (t808 = true)).symm with c41 | c41
         ·replace c41 := Bool.eq_false_iff.mpr c41
          subst c41
          have H1 : (some false) = some r := by rw [if_neg (show ¬ (false = true) by decide)] at H; exact H
          clear H
          have H := H1
          clear H1
          obtain rfl := Option.some.inj H
          have p803 : 0 ≤ (t798 : Int) := of_decide_eq_true pA
          have q803 : t798 < (t781.length : Int) := of_decide_eq_true pA
          obtain ⟨ad803, A803_2, c803_2, e803, hx803_0, hx803_1, hx803_2, hl803_2, hi803_2⟩ := at_T29 (Kd.N_reads' HO_3.out).2.2 t798 p803 q803
          cases e803
          obtain ⟨ce803, hce803, hMe803, hcc803⟩ := Kd.N_get HO_3.out z29 t798 p803 (by first | exact q803 | exact of_decide_eq_true pA | (have e_ := (Kd.N_reads' HO_3.out).1; omega))
          obtain ⟨ua803_2, uc803_2, rfl, ul803_2, ge803_2⟩ := k29_openF hMe803
          have hv803_2 := hcc803 2 _ rfl
          rw [add_field _ _ 2 (by omega)] at hv803_2
          replace hv803_2 := Option.some.inj (hv803_2.symm.trans hx803_2)
          injection hv803_2 with hva_ hvn_ hvc_
          rw [hva_] at ge803_2
          rw [hvc_] at ul803_2
          have HL803_2 := Aside0.mk (show Kd.V k55 55 _ w.heap.size _ _ ((rd_T29 t781 t798).f2) from Kd.V_mk ul803_2 ge803_2)
          clear hva_ hvn_ hvc_ ge803_2 ul803_2
          clear hcc803 hce803
          have HR803_2 := Aside0.mk (hi803_2)
          have HC803_2 := Aside0.mk hl803_2
          clear hi803_2 hl803_2
          replace p803 := eq_true p803
          replace q803 := eq_true q803
          have p804 : 0 ≤ (t798 : Int) := of_decide_eq_true pA
          have q804 : t798 < (t781.length : Int) := of_decide_eq_true pA
          obtain ⟨ad804, A804_2, c804_2, e804, hx804_0, hx804_1, hx804_2, hl804_2, hi804_2⟩ := at_T29 (Kd.N_reads' HO_3.out).2.2 t798 p804 q804
          obtain rfl : ad803 = ad804 := (by injection e804)
          obtain ⟨ce804, hce804, hMe804, hcc804⟩ := Kd.N_get HO_3.out z29 t798 p804 (by first | exact q804 | exact of_decide_eq_true pA | (have e_ := (Kd.N_reads' HO_3.out).1; omega))
          obtain ⟨ua804_2, uc804_2, rfl, ul804_2, ge804_2⟩ := k29_openF hMe804
          have hv804_2 := hcc804 2 _ rfl
          rw [add_field _ _ 2 (by omega)] at hv804_2
          replace hv804_2 := Option.some.inj (hv804_2.symm.trans hx804_2)
          injection hv804_2 with hva_ hvn_ hvc_
          rw [hva_] at ge804_2
          rw [hvc_] at ul804_2
          have HL804_2 := Aside0.mk (show Kd.V k55 55 _ w.heap.size _ _ ((rd_T29 t781 t798).f2) from Kd.V_mk ul804_2 ge804_2)
          clear hva_ hvn_ hvc_ ge804_2 ul804_2
          clear hcc804 hce804
          have HR804_2 := Aside0.mk (hi804_2)
          have HC804_2 := Aside0.mk hl804_2
          clear hi804_2 hl804_2
          replace p804 := eq_true p804
          replace q804 := eq_true q804
          have ea_ := Option.some.inj (hx803_2.symm.trans hx804_2)
          injection ea_ with ea_ en_ ec_
          subst ea_
          subst ec_
          clear en_
          have p805 : 0 ≤ (x10_4 : Int) := of_decide_eq_true pA
          have q805 : x10_4 < (((rd_T29 t781 t798).f2).length : Int) := of_decide_eq_true pA
          obtain ⟨ad805, e805, hx805_0, hx805_1, hx805_2⟩ := at_T55 (by repeat (first | (with_reducible exact HR804_2.out) | (with_reducible refine Kd.C_alloc ?_ _) | (with_reducible refine Kd.C_drewN ?_ _) | (with_reducible refine Kd.C_drew ?_) | exact HR804_2.out)) x10_4 p805 q805
          cases e805
          replace p805 := eq_true p805
          replace q805 := eq_true q805
          have p806 : 0 ≤ (t798 : Int) := of_decide_eq_true pA
          have q806 : t798 < (t781.length : Int) := of_decide_eq_true pA
          obtain ⟨ad806, A806_2, c806_2, e806, hx806_0, hx806_1, hx806_2, hl806_2, hi806_2⟩ := at_T29 (Kd.N_reads' HO_3.out).2.2 t798 p806 q806
          obtain rfl : ad803 = ad806 := (by injection e806)
          obtain ⟨ce806, hce806, hMe806, hcc806⟩ := Kd.N_get HO_3.out z29 t798 p806 (by first | exact q806 | exact of_decide_eq_true pA | (have e_ := (Kd.N_reads' HO_3.out).1; omega))
          obtain ⟨ua806_2, uc806_2, rfl, ul806_2, ge806_2⟩ := k29_openF hMe806
          have hv806_2 := hcc806 2 _ rfl
          rw [add_field _ _ 2 (by omega)] at hv806_2
          replace hv806_2 := Option.some.inj (hv806_2.symm.trans hx806_2)
          injection hv806_2 with hva_ hvn_ hvc_
          rw [hva_] at ge806_2
          rw [hvc_] at ul806_2
          have HL806_2 := Aside0.mk (show Kd.V k55 55 _ w.heap.size _ _ ((rd_T29 t781 t798).f2) from Kd.V_mk ul806_2 ge806_2)
          clear hva_ hvn_ hvc_ ge806_2 ul806_2
          clear hcc806 hce806
          have HR806_2 := Aside0.mk (hi806_2)
          have HC806_2 := Aside0.mk hl806_2
          clear hi806_2 hl806_2
          replace p806 := eq_true p806
          replace q806 := eq_true q806
          have ea_ := Option.some.inj (hx803_2.symm.trans hx806_2)
          injection ea_ with ea_ en_ ec_
          subst ea_
          subst ec_
          clear en_
          have p807 : 0 ≤ (x10_4 : Int) := of_decide_eq_true pA
          have q807 : x10_4 < (((rd_T29 t781 t798).f2).length : Int) := of_decide_eq_true pA
          obtain ⟨ad807, e807, hx807_0, hx807_1, hx807_2⟩ := at_T55 (by repeat (first | (with_reducible exact HR806_2.out) | (with_reducible refine Kd.C_alloc ?_ _) | (with_reducible refine Kd.C_drewN ?_ _) | (with_reducible refine Kd.C_drew ?_) | exact HR806_2.out)) x10_4 p807 q807
          cases e807
          replace p807 := eq_true p807
          replace q807 := eq_true q807
          go_wp2_with (first | (go_at_call 44; (with_reducible refine (laws_hasInt.calls k4 _ _ t788 ((rd_T55 ((rd_T29 t781 t798).f2) x10_4).f1) false _ ?side1 ?side2 A40.out).mono ?_); (case side1 => exact pS ((Kd.R_reads' HO_6.out).2.2)); (case side2 => exact (Kd.R_reads' HO_6.out).2.1); rintro e w' ⟨rfl, ⟨nd, rfl⟩⟩; (try exact pD)))
          repeat (go_quiet (first | (go_at_call 44; (with_reducible refine (laws_hasInt.calls k4 _ _ t788 ((rd_T55 ((rd_T29 t781 t798).f2) x10_4).f1) false _ ?side1 ?side2 A40.out).mono ?_); (case side1 => exact pS ((Kd.R_reads' HO_6.out).2.2)); (case side2 => exact (Kd.R_reads' HO_6.out).2.1); rintro e w' ⟨rfl, ⟨nd, rfl⟩⟩; (try exact pD))); try go_wp2_with (first | (go_at_call 44; (with_reducible refine (laws_hasInt.calls k4 _ _ t788 ((rd_T55 ((rd_T29 t781 t798).f2) x10_4).f1) false _ ?side1 ?side2 A40.out).mono ?_); (case side1 => exact pS ((Kd.R_reads' HO_6.out).2.2)); (case side2 => exact (Kd.R_reads' HO_6.out).2.1); rintro e w' ⟨rfl, ⟨nd, rfl⟩⟩; (try exact pD))))
          go_ret
          exact ⟨pE, pB⟩
         subst c41
         have H1 : (laws_FnDishUses.l1 k4 t781 t787 t788 x8_2 t798 (wrap64 (x10_4 + 1))) = some r := by rw [if_pos rfl] at H; exact H
         clear H
         have H := H1
         clear H1
         have H' := Aside0.mk H
         clear H
         have p803 : 0 ≤ (t798 : Int) := of_decide_eq_true pA
         have q803 : t798 < (t781.length : Int) := of_decide_eq_true pA
         obtain ⟨ad803, A803_2, c803_2, e803, hx803_0, hx803_1, hx803_2, hl803_2, hi803_2⟩ := at_T29 (Kd.N_reads' HO_3.out).2.2 t798 p803 q803
         cases e803
         obtain ⟨ce803, hce803, hMe803, hcc803⟩ := Kd.N_get HO_3.out z29 t798 p803 (by first | exact q803 | exact of_decide_eq_true pA | (have e_ := (Kd.N_reads' HO_3.out).1; omega))
         obtain ⟨ua803_2, uc803_2, rfl, ul803_2, ge803_2⟩ := k29_openF hMe803
         have hv803_2 := hcc803 2 _ rfl
         rw [add_field _ _ 2 (by omega)] at hv803_2
         replace hv803_2 := Option.some.inj (hv803_2.symm.trans hx803_2)
         injection hv803_2 with hva_ hvn_ hvc_
         rw [hva_] at ge803_2
         rw [hvc_] at ul803_2
         have HL803_2 := Aside0.mk (show Kd.V k55 55 _ w.heap.size _ _ ((rd_T29 t781 t798).f2) from Kd.V_mk ul803_2 ge803_2)
         clear hva_ hvn_ hvc_ ge803_2 ul803_2
         clear hcc803 hce803
         have HR803_2 := Aside0.mk (hi803_2)
         have HC803_2 := Aside0.mk hl803_2
         clear hi803_2 hl803_2
         replace p803 := eq_true p803
         replace q803 := eq_true q803
         have p804 : 0 ≤ (t798 : Int) := of_decide_eq_true pA
         have q804 : t798 < (t781.length : Int) := of_decide_eq_true pA
         obtain ⟨ad804, A804_2, c804_2, e804, hx804_0, hx804_1, hx804_2, hl804_2, hi804_2⟩ := at_T29 (Kd.N_reads' HO_3.out).2.2 t798 p804 q804
         obtain rfl : ad803 = ad804 := (by injection e804)
         obtain ⟨ce804, hce804, hMe804, hcc804⟩ := Kd.N_get HO_3.out z29 t798 p804 (by first | exact q804 | exact of_decide_eq_true pA | (have e_ := (Kd.N_reads' HO_3.out).1; omega))
         obtain ⟨ua804_2, uc804_2, rfl, ul804_2, ge804_2⟩ := k29_openF hMe804
         have hv804_2 := hcc804 2 _ rfl
         rw [add_field _ _ 2 (by omega)] at hv804_2
         replace hv804_2 := Option.some.inj (hv804_2.symm.trans hx804_2)
         injection hv804_2 with hva_ hvn_ hvc_
         rw [hva_] at ge804_2
         rw [hvc_] at ul804_2
         have HL804_2 := Aside0.mk (show Kd.V k55 55 _ w.heap.size _ _ ((rd_T29 t781 t798).f2) from Kd.V_mk ul804_2 ge804_2)
         clear hva_ hvn_ hvc_ ge804_2 ul804_2
         clear hcc804 hce804
         have HR804_2 := Aside0.mk (hi804_2)
         have HC804_2 := Aside0.mk hl804_2
         clear hi804_2 hl804_2
         replace p804 := eq_true p804
         replace q804 := eq_true q804
         have ea_ := Option.some.inj (hx803_2.symm.trans hx804_2)
         injection ea_ with ea_ en_ ec_
         subst ea_
         subst ec_
         clear en_
         have p805 : 0 ≤ (x10_4 : Int) := of_decide_eq_true pA
         have q805 : x10_4 < (((rd_T29 t781 t798).f2).length : Int) := of_decide_eq_true pA
         obtain ⟨ad805, e805, hx805_0, hx805_1, hx805_2⟩ := at_T55 (by repeat (first | (with_reducible exact HR804_2.out) | (with_reducible refine Kd.C_alloc ?_ _) | (with_reducible refine Kd.C_drewN ?_ _) | (with_reducible refine Kd.C_drew ?_) | exact HR804_2.out)) x10_4 p805 q805
         cases e805
         replace p805 := eq_true p805
         replace q805 := eq_true q805
         have p806 : 0 ≤ (t798 : Int) := of_decide_eq_true pA
         have q806 : t798 < (t781.length : Int) := of_decide_eq_true pA
         obtain ⟨ad806, A806_2, c806_2, e806, hx806_0, hx806_1, hx806_2, hl806_2, hi806_2⟩ := at_T29 (Kd.N_reads' HO_3.out).2.2 t798 p806 q806
         obtain rfl : ad803 = ad806 := (by injection e806)
         obtain ⟨ce806, hce806, hMe806, hcc806⟩ := Kd.N_get HO_3.out z29 t798 p806 (by first | exact q806 | exact of_decide_eq_true pA | (have e_ := (Kd.N_reads' HO_3.out).1; omega))
         obtain ⟨ua806_2, uc806_2, rfl, ul806_2, ge806_2⟩ := k29_openF hMe806
         have hv806_2 := hcc806 2 _ rfl
         rw [add_field _ _ 2 (by omega)] at hv806_2
         replace hv806_2 := Option.some.inj (hv806_2.symm.trans hx806_2)
         injection hv806_2 with hva_ hvn_ hvc_
         rw [hva_] at ge806_2
         rw [hvc_] at ul806_2
         have HL806_2 := Aside0.mk (show Kd.V k55 55 _ w.heap.size _ _ ((rd_T29 t781 t798).f2) from Kd.V_mk ul806_2 ge806_2)
         clear hva_ hvn_ hvc_ ge806_2 ul806_2
         clear hcc806 hce806
         have HR806_2 := Aside0.mk (hi806_2)
         have HC806_2 := Aside0.mk hl806_2
         clear hi806_2 hl806_2
         replace p806 := eq_true p806
         replace q806 := eq_true q806
         have ea_ := Option.some.inj (hx803_2.symm.trans hx806_2)
         injection ea_ with ea_ en_ ec_
         subst ea_
         subst ec_
         clear en_
         have p807 : 0 ≤ (x10_4 : Int) := of_decide_eq_true pA
         have q807 : x10_4 < (((rd_T29 t781 t798).f2).length : Int) := of_decide_eq_true pA
         obtain ⟨ad807, e807, hx807_0, hx807_1, hx807_2⟩ := at_T55 (by repeat (first | (with_reducible exact HR806_2.out) | (with_reducible refine Kd.C_alloc ?_ _) | (with_reducible refine Kd.C_drewN ?_ _) | (with_reducible refine Kd.C_drew ?_) | exact HR806_2.out)) x10_4 p807 q807
         cases e807
         replace p807 := eq_true p807
         replace q807 := eq_true q807
         go_wp2_with (first | (go_at_call 44; (with_reducible refine (laws_hasInt.calls k4 _ _ t788 ((rd_T55 ((rd_T29 t781 t798).f2) x10_4).f1) true _ ?side1 ?side2 A40.out).mono ?_); (case side1 => exact pS ((Kd.R_reads' HO_6.out).2.2)); (case side2 => exact (Kd.R_reads' HO_6.out).2.1); rintro e w' ⟨rfl, ⟨nd, rfl⟩⟩; (try exact pD)))
         repeat (go_quiet (first | (go_at_call 44; (with_reducible refine (laws_hasInt.calls k4 _ _ t788 ((rd_T55 ((rd_T29 t781 t798).f2) x10_4).f1) true _ ?side1 ?side2 A40.out).mono ?_); (case side1 => exact pS ((Kd.R_reads' HO_6.out).2.2)); (case side2 => exact (Kd.R_reads' HO_6.out).2.1); rintro e w' ⟨rfl, ⟨nd, rfl⟩⟩; (try exact pD))); try go_wp2_with (first | (go_at_call 44; (with_reducible refine (laws_hasInt.calls k4 _ _ t788 ((rd_T55 ((rd_T29 t781 t798).f2) x10_4).f1) true _ ?side1 ?side2 A40.out).mono ?_); (case side1 => exact pS ((Kd.R_reads' HO_6.out).2.2)); (case side2 => exact (Kd.R_reads' HO_6.out).2.1); rintro e w' ⟨rfl, ⟨nd, rfl⟩⟩; (try exact pD))))
         go_roundg k4
         case measure => have := HJ5.out; have := HK2.out; have := HJ24.out; have := HK4.out; omega
         case rel => exact ⟨(wrap64 (x10_4 + 1)), pF, H', ⟨by have := HJ5.out; have := HK2.out; have := HJ24.out; have := HK4.out; omega⟩, ⟨by (with_reducible repeat (first | apply Kd.N_alloc | apply Kd.N_drewN | apply Kd.N_drew)); exact HO_3.out⟩, ⟨pR HO_6⟩, ⟨pB⟩⟩
/-- THE ONE PURE STATEMENT of laws_FnDishUses: yours. -/
def laws_FnDishUses.Pure : Prop := ∀ (l0 : List Int), l0.length ≤ maxLen → l0.length * 1 ≤ 140737488351232 → (∀ x ∈ l0, (Lit.int .u8 x).wf = true) → ∃ k, laws_FnDishUses.f k l0 = some true
theorem laws_FnDishUses.walk (P : laws_FnDishUses.Pure) (a0 : Option Addr) (len0 cap0 : Nat) (z0 : List Int) (w : World) (w0 : (a0 = none ∧ len0 = 0 ∧ cap0 = 0 ∧ z0 = []) ∨ ∃ x, a0 = some x ∧ len0 ≤ cap0 ∧ cap0 ≤ maxLen ∧ z0.length = cap0 ∧ (∀ i, i < z0.length → w.cell? (x.add i) = some (.int .u8 (z0.getD i 0))) ∧ ∀ n ∈ z0, (Lit.int .u8 n).wf = true) (y0 : len0 * 1 ≤ 140737488351232) :
  Calls Try.prog 11 #[.slice a0 len0 cap0] w fun e w' => e = .returned (.bool true) ∧ Below w.heap.size w w' := by
 obtain ⟨l0, rfl, hr0, hm0, hw0, hc0⟩ := ReadsInt.ofRowC w0
 obtain ⟨k, h⟩ := P l0 hm0 y0 hw0
 refine (laws_FnDishUses.calls k _ _ l0 true w (Kd.C_of_reads (d := (0 : Int)) (h1 := fun _ => rfl) hr0) hc0 h).mono ?_
 rintro e w' ⟨rfl, hd⟩
 exact ⟨rfl, hd⟩

end Go.Proofs.Ytclldijjbmnkeaa.Q
