-- Written by the kit's print.py for all laws of the seat at once (one namespace), by a program of this session.
import Derived.Test.YtclldijjbmnkeaaQx0
import Derived.Test.YtclldijjbmnkeaaQx21
import Derived.Test.YtclldijjbmnkeaaQx22
import Derived.Test.YtclldijjbmnkeaaQx29
import Derived.Test.YtclldijjbmnkeaaQx32
namespace Go.Proofs.Ytclldijjbmnkeaa.Q
open Go.RowKit Go.Proofs.YtclldijjbmnkeaaW.PrintWords Go.Proofs.YtclldijjbmnkeaaW.PrintLast Go.Proofs.YtclldijjbmnkeaaW.PrintMore
attribute [local go_sem] max2_int min2_int max_two min_two max_three min_three max_four min_four   -- for this text's walks alone
set_option linter.unusedVariables false
set_option linter.unusedSimpArgs false

/-! ### laws_sumOf: function 50 -/
def laws_sumOf.l0 : Nat → List Int → Int → Int → Option (Int)
 | 0, _, _, _ => none
 | k + 1, x0, x3, x4 => if x4 < (x0.length : Int) then (if 0 ≤ x4 then (laws_sumOf.l0 k x0 (wrap64 (x3 + (rd x0 x4))) (wrap64 (x4 + 1))) else (none)) else (some x3)
def laws_sumOf.f (k : Nat) (l0 : List Int) : Option (Int) := laws_sumOf.l0 k l0 0 0
theorem laws_sumOf.mono_l : ∀ k, (∀ y0 y1 y2, LeO (laws_sumOf.l0 k y0 y1 y2) (laws_sumOf.l0 (k + 1) y0 y1 y2))
 | 0 => fun _ _ _ r h => by simp [laws_sumOf.l0] at h
 | k + 1 => by
  have ih0 := laws_sumOf.mono_l k
  ·intro y0 y1 y2
   unfold laws_sumOf.l0
   repeat' first
   | (with_reducible exact ih0 _ _ _)
   | (with_reducible exact LeO.refl _)
   | (with_reducible exact LeO.none _)
   | (with_reducible refine LeO.ite ?_ ?_)
   | (with_reducible refine LeO.bind ?_ (fun _ => ?_))
   | exact ih0 _ _ _
   | exact LeO.none _
   | refine LeO.ite ?_ ?_
   | refine LeO.bind ?_ (fun _ => ?_)
theorem laws_sumOf.mono : ∀ a0 k, LeO (laws_sumOf.f k a0) (laws_sumOf.f (k + 1) a0) := by
 intro a0 k
 have ih0 := laws_sumOf.mono_l k
 unfold laws_sumOf.f
 repeat' first
   | (with_reducible exact ih0 _ _ _)
   | (with_reducible exact LeO.refl _)
   | (with_reducible exact LeO.none _)
   | (with_reducible refine LeO.ite ?_ ?_)
   | (with_reducible refine LeO.bind ?_ (fun _ => ?_))
   | exact ih0 _ _ _
   | exact LeO.none _
   | refine LeO.ite ?_ ?_
   | refine LeO.bind ?_ (fun _ => ?_)
set_option maxHeartbeats 8000000 in
set_option maxRecDepth 100000 in
theorem laws_sumOf.calls (k : Nat) (A0 : Option Addr) (c0 : Nat) (l0 : List Int) (r : Int) (w : World) (hr0 : Kd.C (Kd.int .i64) w A0 l0.length l0) (hc0 : l0.length ≤ c0) (h : laws_sumOf.f k l0 = some r) :
  Calls Try.prog 50 #[.slice A0 l0.length c0] w fun e w' => e = .returned (.int .i64 r) ∧ Drawn0 w w' := by
 have HR0 := Aside0.mk hr0
 have HC0 := Aside0.mk hc0
 clear hr0 hc0
 have H : (laws_sumOf.l0 k l0 0 0) = some r := h
 clear h
 have H' := Aside0.mk H
 clear H
 go_enter Try.func50, Try.ntmps50
 go_wp2
 go_loopg [3, 4] k (fun kq v3 v4 w' => ∃ (x3_1 : Int) (x4_1 : Int), v3 = .int .i64 x3_1 ∧ v4 = .int .i64 x4_1 ∧ Aside0 (laws_sumOf.l0 kq l0 x3_1 x4_1 = some r) ∧ Aside0 (kq ≤ k) ∧ Drawn0 w w')
 case atStart => exact ⟨(0), (0), pF, pF, H', ⟨Nat.le_refl _⟩, by repeat (first | exact Drawn0.refl _ | apply Drawn0.step)⟩
 case round =>
  clear H'
  obtain ⟨x3_1, x4_1, rfl, rfl, HA, HK1, ⟨m1, rfl⟩⟩ := hrel
  cases gk with
  | zero => exact absurd HA.out (by simp [laws_sumOf.l0])
  | succ k1 =>
   have H := HA.out
   clear HA
   simp only [laws_sumOf.l0] at H
   rcases (Classical.em (x4_1 < (l0.length : Int))).symm with c2 | c2
   ·rw [if_neg c2] at H
    have c2b0 : decide (x4_1 < (l0.length : Int)) = false := decide_eq_false c2
    clear c2
    obtain rfl := Option.some.inj H
    go_wp2
    go_ret
    exact ⟨pF, by repeat (first | exact Drawn0.refl _ | apply Drawn0.step)⟩

   rw [if_pos c2] at H
   have c2b0 : decide (x4_1 < (l0.length : Int)) = true := decide_eq_true c2
   clear c2
   rcases (Classical.em (0 ≤ x4_1)).symm with c3 | c3
   ·rw [if_neg c3] at H
    exact absurd H (by simp)
   rw [if_pos c3] at H
   have c3b0 : decide (0 ≤ x4_1) = true := decide_eq_true c3
   clear c3
   have H' := Aside0.mk H
   clear H
   have p960 : 0 ≤ (x4_1 : Int) := of_decide_eq_true pA
   have q960 : x4_1 < (l0.length : Int) := of_decide_eq_true pA
   obtain ⟨ad960, e960, hx960_0⟩ := Kd.at_int HR0.out x4_1 p960 q960
   cases e960
   replace p960 := eq_true p960
   replace q960 := eq_true q960
   go_wp2
   go_roundg k1
   case measure => have := HK1.out; omega
   case rel => exact ⟨(wrap64 (x3_1 + (rd l0 x4_1))), (wrap64 (x4_1 + 1)), pF, pF, H', ⟨by have := HK1.out; omega⟩, by repeat (first | exact Drawn0.refl _ | apply Drawn0.step)⟩
/-! ### laws_FnNeedsMore: function 16 -/
mutual
def laws_FnNeedsMore.j0 : Nat → List (S29) → List (S63) → Int → Int → List Int → Bool → List Int → Bool → Bool → Option (Bool)
 | 0, _, _, _, _, _, _, _, _, _ => none
 | k + 1, x3, x4, x5, x6, x7, x8, x9, x10, x58 => if x58 = true then (if (x8 == x10) = true then ((laws_sameInts.f k x7 x9).bind fun t978 => (some t978)) else (some false)) else ((impl_DishNeeds.f k x3 x4 x5 (wrap64 (x6 - 1))).bind fun bt979 => ((impl_DishNeeds.f k x3 x4 x5 0).bind fun bt983 => (laws_FnNeedsMore.l0 k x7 bt979.1 bt979.2 bt983.1 bt983.2 0)))
def laws_FnNeedsMore.l0 : Nat → List Int → List Int → Bool → List Int → Bool → Int → Option (Bool)
 | 0, _, _, _, _, _, _ => none
 | k + 1, x7, x11, x12, x13, x14, x15 => if x15 < (x11.length : Int) then (laws_FnNeedsMore.j2 k x7 x11 x12 x13 x14 x15 (decide (x15 < (x7.length : Int)))) else (laws_FnNeedsMore.j2 k x7 x11 x12 x13 x14 x15 false)
def laws_FnNeedsMore.j2 : Nat → List Int → List Int → Bool → List Int → Bool → Int → Bool → Option (Bool)
 | 0, _, _, _, _, _, _, _ => none
 | k + 1, x7, x11, x12, x13, x14, x15, x92 => if x92 = true then (if 0 ≤ x15 then (if x15 < (x11.length : Int) then (if x15 < (x7.length : Int) then (if (rd x11 x15) > (rd x7 x15) then (some false) else (laws_FnNeedsMore.l0 k x7 x11 x12 x13 x14 (wrap64 (x15 + 1)))) else (none)) else (none)) else (none)) else (if x12 = true then (if x14 = true then (if (x11.length : Int) = (x7.length : Int) then ((laws_sumOf.f k x13).bind fun t989 => (some (t989 == 0))) else (some false)) else (some false)) else (some false))
end
def laws_FnNeedsMore.f (k : Nat) (l0 : List Int) : Option (Bool) := if (l0.length : Int) > 1048576 then (some true) else ((spec_DrawDishNeeds.f k l0).bind fun bt961 => ((impl_DishNeeds.f k bt961.1 bt961.2.1 bt961.2.2.1 bt961.2.2.2).bind fun bt969 => ((spec_DishNeeds.f k bt961.1 bt961.2.1 bt961.2.2.1 bt961.2.2.2).bind fun bt973 => (if (bt969.2 != bt973.2) = true then (laws_FnNeedsMore.j0 k bt961.1 bt961.2.1 bt961.2.2.1 bt961.2.2.2 bt969.1 bt969.2 bt973.1 bt973.2 true) else ((laws_sameInts.f k bt969.1 bt973.1).bind fun t977 => (if t977 = true then (if bt969.2 = true then (laws_FnNeedsMore.j0 k bt961.1 bt961.2.1 bt961.2.2.1 bt961.2.2.2 bt969.1 bt969.2 bt973.1 bt973.2 (bt961.2.2.2 == 0)) else (laws_FnNeedsMore.j0 k bt961.1 bt961.2.1 bt961.2.2.1 bt961.2.2.2 bt969.1 bt969.2 bt973.1 bt973.2 true)) else (laws_FnNeedsMore.j0 k bt961.1 bt961.2.1 bt961.2.2.1 bt961.2.2.2 bt969.1 bt969.2 bt973.1 bt973.2 true)))))))
theorem laws_FnNeedsMore.mono_l : ∀ k, (∀ y0 y1 y2 y3 y4 y5 y6 y7 y8, LeO (laws_FnNeedsMore.j0 k y0 y1 y2 y3 y4 y5 y6 y7 y8) (laws_FnNeedsMore.j0 (k + 1) y0 y1 y2 y3 y4 y5 y6 y7 y8)) ∧ (∀ y0 y1 y2 y3 y4 y5, LeO (laws_FnNeedsMore.l0 k y0 y1 y2 y3 y4 y5) (laws_FnNeedsMore.l0 (k + 1) y0 y1 y2 y3 y4 y5)) ∧ (∀ y0 y1 y2 y3 y4 y5 y6, LeO (laws_FnNeedsMore.j2 k y0 y1 y2 y3 y4 y5 y6) (laws_FnNeedsMore.j2 (k + 1) y0 y1 y2 y3 y4 y5 y6))
 | 0 => ⟨fun _ _ _ _ _ _ _ _ _ r h => by simp [laws_FnNeedsMore.j0] at h, fun _ _ _ _ _ _ r h => by simp [laws_FnNeedsMore.l0] at h, fun _ _ _ _ _ _ _ r h => by simp [laws_FnNeedsMore.j2] at h⟩
 | k + 1 => by
  obtain ⟨ih0, ih1, ih2⟩ := laws_FnNeedsMore.mono_l k
  refine ⟨?_, ?_, ?_⟩
  ·intro y0 y1 y2 y3 y4 y5 y6 y7 y8
   unfold laws_FnNeedsMore.j0
   repeat' first
   | (with_reducible exact ih0 _ _ _ _ _ _ _ _ _)
   | (with_reducible exact ih1 _ _ _ _ _ _)
   | (with_reducible exact ih2 _ _ _ _ _ _ _)
   | (with_reducible exact impl_DishNeeds.mono _ _ _ _ _)
   | (with_reducible exact laws_sameInts.mono _ _ _)
   | (with_reducible exact laws_sumOf.mono _ _)
   | (with_reducible exact spec_DishNeeds.mono _ _ _ _ _)
   | (with_reducible exact spec_DrawDishNeeds.mono _ _)
   | (with_reducible exact LeO.refl _)
   | (with_reducible exact LeO.none _)
   | (with_reducible refine LeO.ite ?_ ?_)
   | (with_reducible refine LeO.bind ?_ (fun _ => ?_))
   | exact ih0 _ _ _ _ _ _ _ _ _
   | exact ih1 _ _ _ _ _ _
   | exact ih2 _ _ _ _ _ _ _
   | exact impl_DishNeeds.mono _ _ _ _ _
   | exact laws_sameInts.mono _ _ _
   | exact laws_sumOf.mono _ _
   | exact spec_DishNeeds.mono _ _ _ _ _
   | exact spec_DrawDishNeeds.mono _ _
   | exact LeO.none _
   | refine LeO.ite ?_ ?_
   | refine LeO.bind ?_ (fun _ => ?_)
  ·intro y0 y1 y2 y3 y4 y5
   unfold laws_FnNeedsMore.l0
   repeat' first
   | (with_reducible exact ih0 _ _ _ _ _ _ _ _ _)
   | (with_reducible exact ih1 _ _ _ _ _ _)
   | (with_reducible exact ih2 _ _ _ _ _ _ _)
   | (with_reducible exact impl_DishNeeds.mono _ _ _ _ _)
   | (with_reducible exact laws_sameInts.mono _ _ _)
   | (with_reducible exact laws_sumOf.mono _ _)
   | (with_reducible exact spec_DishNeeds.mono _ _ _ _ _)
   | (with_reducible exact spec_DrawDishNeeds.mono _ _)
   | (with_reducible exact LeO.refl _)
   | (with_reducible exact LeO.none _)
   | (with_reducible refine LeO.ite ?_ ?_)
   | (with_reducible refine LeO.bind ?_ (fun _ => ?_))
   | exact ih0 _ _ _ _ _ _ _ _ _
   | exact ih1 _ _ _ _ _ _
   | exact ih2 _ _ _ _ _ _ _
   | exact impl_DishNeeds.mono _ _ _ _ _
   | exact laws_sameInts.mono _ _ _
   | exact laws_sumOf.mono _ _
   | exact spec_DishNeeds.mono _ _ _ _ _
   | exact spec_DrawDishNeeds.mono _ _
   | exact LeO.none _
   | refine LeO.ite ?_ ?_
   | refine LeO.bind ?_ (fun _ => ?_)
  ·intro y0 y1 y2 y3 y4 y5 y6
   unfold laws_FnNeedsMore.j2
   repeat' first
   | (with_reducible exact ih0 _ _ _ _ _ _ _ _ _)
   | (with_reducible exact ih1 _ _ _ _ _ _)
   | (with_reducible exact ih2 _ _ _ _ _ _ _)
   | (with_reducible exact impl_DishNeeds.mono _ _ _ _ _)
   | (with_reducible exact laws_sameInts.mono _ _ _)
   | (with_reducible exact laws_sumOf.mono _ _)
   | (with_reducible exact spec_DishNeeds.mono _ _ _ _ _)
   | (with_reducible exact spec_DrawDishNeeds.mono _ _)
   | (with_reducible exact LeO.refl _)
   | (with_reducible exact LeO.none _)
   | (with_reducible refine LeO.ite ?_ ?_)
   | (with_reducible refine LeO.bind ?_ (fun _ => ?_))
   | exact ih0 _ _ _ _ _ _ _ _ _
   | exact ih1 _ _ _ _ _ _
   | exact ih2 _ _ _ _ _ _ _
   | exact impl_DishNeeds.mono _ _ _ _ _
   | exact laws_sameInts.mono _ _ _
   | exact laws_sumOf.mono _ _
   | exact spec_DishNeeds.mono _ _ _ _ _
   | exact spec_DrawDishNeeds.mono _ _
   | exact LeO.none _
   | refine LeO.ite ?_ ?_
   | refine LeO.bind ?_ (fun _ => ?_)
theorem laws_FnNeedsMore.mono : ∀ a0 k, LeO (laws_FnNeedsMore.f k a0) (laws_FnNeedsMore.f (k + 1) a0) := by
 intro a0 k
 obtain ⟨ih0, ih1, ih2⟩ := laws_FnNeedsMore.mono_l k
 unfold laws_FnNeedsMore.f
 repeat' first
   | (with_reducible exact ih0 _ _ _ _ _ _ _ _ _)
   | (with_reducible exact ih1 _ _ _ _ _ _)
   | (with_reducible exact ih2 _ _ _ _ _ _ _)
   | (with_reducible exact impl_DishNeeds.mono _ _ _ _ _)
   | (with_reducible exact laws_sameInts.mono _ _ _)
   | (with_reducible exact laws_sumOf.mono _ _)
   | (with_reducible exact spec_DishNeeds.mono _ _ _ _ _)
   | (with_reducible exact spec_DrawDishNeeds.mono _ _)
   | (with_reducible exact LeO.refl _)
   | (with_reducible exact LeO.none _)
   | (with_reducible refine LeO.ite ?_ ?_)
   | (with_reducible refine LeO.bind ?_ (fun _ => ?_))
   | exact ih0 _ _ _ _ _ _ _ _ _
   | exact ih1 _ _ _ _ _ _
   | exact ih2 _ _ _ _ _ _ _
   | exact impl_DishNeeds.mono _ _ _ _ _
   | exact laws_sameInts.mono _ _ _
   | exact laws_sumOf.mono _ _
   | exact spec_DishNeeds.mono _ _ _ _ _
   | exact spec_DrawDishNeeds.mono _ _
   | exact LeO.none _
   | refine LeO.ite ?_ ?_
   | refine LeO.bind ?_ (fun _ => ?_)
theorem F16.q0 {P : Prop} (h : P := by (with_reducible repeat (first | apply Kd.N_alloc | apply Kd.N_drewN | apply Kd.N_drew)); exact HO963.out) : P := h
theorem F16.q1 {P : Prop} (h : P := by (with_reducible repeat (first | apply Kd.N_alloc | apply Kd.N_drewN | apply Kd.N_drew)); exact HO_3.out) : P := h
set_option maxHeartbeats 8000000 in
set_option maxRecDepth 100000 in
theorem laws_FnNeedsMore.calls (k : Nat) (A0 : Option Addr) (c0 : Nat) (l0 : List Int) (r : Bool) (w : World) (hr0 : Kd.C (Kd.int .u8) w A0 l0.length l0) (hc0 : l0.length ≤ c0) (h : laws_FnNeedsMore.f k l0 = some r) :
  Calls Try.prog 16 #[.slice A0 l0.length c0] w fun e w' => e = .returned (.bool r) ∧ Below w.heap.size w w' := by
 have HR0 := Aside0.mk hr0
 have HC0 := Aside0.mk hc0
 clear hr0 hc0
 have HB := Aside0.mk (Below.refl w.heap.size w)
 have H : (if (l0.length : Int) > 1048576 then (some true) else ((spec_DrawDishNeeds.f k l0).bind fun bt961 => ((impl_DishNeeds.f k bt961.1 bt961.2.1 bt961.2.2.1 bt961.2.2.2).bind fun bt969 => ((spec_DishNeeds.f k bt961.1 bt961.2.1 bt961.2.2.1 bt961.2.2.2).bind fun bt973 => (if (bt969.2 != bt973.2) = true then (laws_FnNeedsMore.j0 k bt961.1 bt961.2.1 bt961.2.2.1 bt961.2.2.2 bt969.1 bt969.2 bt973.1 bt973.2 true) else ((laws_sameInts.f k bt969.1 bt973.1).bind fun t977 => (if t977 = true then (if bt969.2 = true then (laws_FnNeedsMore.j0 k bt961.1 bt961.2.1 bt961.2.2.1 bt961.2.2.2 bt969.1 bt969.2 bt973.1 bt973.2 (bt961.2.2.2 == 0)) else (laws_FnNeedsMore.j0 k bt961.1 bt961.2.1 bt961.2.2.1 bt961.2.2.2 bt969.1 bt969.2 bt973.1 bt973.2 true)) else (laws_FnNeedsMore.j0 k bt961.1 bt961.2.1 bt961.2.2.1 bt961.2.2.2 bt969.1 bt969.2 bt973.1 bt973.2 true)))))))) = some r := h
 clear h
 by_cases c2 : (l0.length : Int) > 1048576
 ·rw [if_pos c2] at H
  have c2b0 : decide (1048576 < (l0.length : Int)) = true := decide_eq_true c2
  have c2b1 : decide (1048576 < l0.length) = true := decide_eq_true (by omega)
  clear c2
  obtain rfl := Option.some.inj H
  go_enter Try.func16, Try.ntmps16
  go_wp2
  repeat (go_quiet (fail); try go_wp2)
  go_ret
  exact ⟨pE, pB⟩
 rw [if_neg c2] at H
 have c2b0 : decide (1048576 < (l0.length : Int)) = false := decide_eq_false c2
 have c2b1 : decide (1048576 < l0.length) = false := decide_eq_false (by omega)
 clear c2
 replace H := Option.bind_eq_some_iff.mp H
 obtain ⟨⟨t961, t964, t967, t968⟩, A30, H⟩ := H
 replace H : ((impl_DishNeeds.f k t961 t964 t967 t968).bind fun bt969 => ((spec_DishNeeds.f k t961 t964 t967 t968).bind fun bt973 => (if (bt969.2 != bt973.2) = true then (laws_FnNeedsMore.j0 k t961 t964 t967 t968 bt969.1 bt969.2 bt973.1 bt973.2 true) else ((laws_sameInts.f k bt969.1 bt973.1).bind fun t977 => (if t977 = true then (if bt969.2 = true then (laws_FnNeedsMore.j0 k t961 t964 t967 t968 bt969.1 bt969.2 bt973.1 bt973.2 (t968 == 0)) else (laws_FnNeedsMore.j0 k t961 t964 t967 t968 bt969.1 bt969.2 bt973.1 bt973.2 true)) else (laws_FnNeedsMore.j0 k t961 t964 t967 t968 bt969.1 bt969.2 bt973.1 bt973.2 true)))))) = some r := H
 have A3 := Aside0.mk A30
 clear A30
 replace H := Option.bind_eq_some_iff.mp H
 obtain ⟨⟨t969, t970⟩, A40, H⟩ := H
 replace H : ((spec_DishNeeds.f k t961 t964 t967 t968).bind fun bt973 => (if (t970 != bt973.2) = true then (laws_FnNeedsMore.j0 k t961 t964 t967 t968 t969 t970 bt973.1 bt973.2 true) else ((laws_sameInts.f k t969 bt973.1).bind fun t977 => (if t977 = true then (if t970 = true then (laws_FnNeedsMore.j0 k t961 t964 t967 t968 t969 t970 bt973.1 bt973.2 (t968 == 0)) else (laws_FnNeedsMore.j0 k t961 t964 t967 t968 t969 t970 bt973.1 bt973.2 true)) else (laws_FnNeedsMore.j0 k t961 t964 t967 t968 t969 t970 bt973.1 bt973.2 true))))) = some r := H
 have A4 := Aside0.mk A40
 clear A40
 replace H := Option.bind_eq_some_iff.mp H
 obtain ⟨⟨t973, t974⟩, A50, H⟩ := H
 replace H : (if (t970 != t974) = true then (laws_FnNeedsMore.j0 k t961 t964 t967 t968 t969 t970 t973 t974 true) else ((laws_sameInts.f k t969 t973).bind fun t977 => (if t977 = true then (if t970 = true then (laws_FnNeedsMore.j0 k t961 t964 t967 t968 t969 t970 t973 t974 (t968 == 0)) else (laws_FnNeedsMore.j0 k t961 t964 t967 t968 t969 t970 t973 t974 true)) else (laws_FnNeedsMore.j0 k t961 t964 t967 t968 t969 t970 t973 t974 true)))) = some r := H
 have A5 := Aside0.mk A50
 clear A50
 have HC6 := Aside0.mk H
 clear H
 go_enter Try.func16, Try.ntmps16
 go_upto_region 6 with (first | (go_at_call 45; (with_reducible refine (spec_DrawDishNeeds.calls k _ _ l0 t961 t964 t967 t968 _ ?side1 ?side2 A3.out).mono ?_); (case side1 => exact pS (HR0.out)); (case side2 => exact HC0.out); rintro e w7 ⟨v962, v965, rfl, ho0, ho1, hb⟩; have n0_ := Aside0.mk (Kd.N_lower (Kd.N_mono (ok' := fun k_ => some k_ ≠ (v965 : Value).ownBlock) ho0 (fun k_ hk_ => hk_.2)) (below_size pB)); have n1_ := Aside0.mk (Kd.R_lower (Kd.R_mono (ok' := fun k_ => True) ho1 (fun _ hk_ => trivial)) (below_size pB)); have n2_ := Aside0.mk (below_step pB hb); clear HB; have HO963 := n0_; have HO966 := n1_; have HB := n2_; clear n0_ n1_ n2_; (try clear hb); (try clear hb2); (try clear hk); (try clear hi); (try clear ho0); (try clear ho1); obtain ⟨Ao8, co8, eo8⟩ := Kd.N_slice HO963.out; subst eo8; obtain ⟨Ao9, co9, eo9⟩ := Kd.R_slice HO966.out; subst eo9) | (go_at_call 38; (with_reducible refine (impl_DishNeeds.calls k _ _ t961 _ _ t964 t967 t968 t969 t970 _ ?side1 ?side2 ?side3 ?side4 A4.out).mono ?_); (case side1 => exact pS ((Kd.N_reads' HO963.out).2.2)); (case side2 => exact (Kd.N_reads' HO963.out).2.1); (case side3 => exact pS ((Kd.R_reads' HO966.out).2.2)); (case side4 => exact (Kd.R_reads' HO966.out).2.1); rintro e w10 ⟨v971, rfl, ho0, hb⟩; have n0_ := Aside0.mk (Kd.N_elder' F16.q0 (Kd.R_base ho0) hb); have n1_ := Aside0.mk (Kd.R_below (pR HO966) hb); have n2_ := Aside0.mk (Kd.R_lower ho0 (below_size pB)); have n3_ := Aside0.mk (below_step pB hb); clear HO963; clear HO966; clear HB; have HO963 := n0_; have HO966 := n1_; have HO972 := n2_; have HB := n3_; clear n0_ n1_ n2_ n3_; (try clear hb); (try clear hb2); (try clear hk); (try clear hi); (try clear ho0)) | (go_at_call 37; (with_reducible refine (spec_DishNeeds.calls k _ _ t961 _ _ t964 t967 t968 t973 t974 _ ?side1 ?side2 ?side3 ?side4 A5.out).mono ?_); (case side1 => exact pS ((Kd.N_reads' HO963.out).2.2)); (case side2 => exact (Kd.N_reads' HO963.out).2.1); (case side3 => exact pS ((Kd.R_reads' HO966.out).2.2)); (case side4 => exact (Kd.R_reads' HO966.out).2.1); rintro e w11 ⟨v975, rfl, ho0, hb⟩; have n0_ := Aside0.mk (Kd.N_elder' F16.q0 (Kd.R_base ho0) hb); have n1_ := Aside0.mk (Kd.R_below (pR HO966) hb); have n2_ := Aside0.mk (Kd.R_elder' (pR HO972) (Kd.R_base ho0) hb); have n3_ := Aside0.mk (Kd.R_lower (Kd.R_new' ho0 (Kd.R_lt (pR HO972))) (below_size pB)); have n4_ := Aside0.mk (below_step pB hb); clear HO963; clear HO966; clear HO972; clear HB; have HO963 := n0_; have HO966 := n1_; have HO972 := n2_; have HO976 := n3_; have HB := n4_; clear n0_ n1_ n2_ n3_ n4_; (try clear hb); (try clear hb2); (try clear hk); (try clear hi); (try clear ho0)))
 repeat (go_quiet (first | (go_at_call 45; (with_reducible refine (spec_DrawDishNeeds.calls k _ _ l0 t961 t964 t967 t968 _ ?side1 ?side2 A3.out).mono ?_); (case side1 => exact pS (HR0.out)); (case side2 => exact HC0.out); rintro e w7 ⟨v962, v965, rfl, ho0, ho1, hb⟩; have n0_ := Aside0.mk (Kd.N_lower (Kd.N_mono (ok' := fun k_ => some k_ ≠ (v965 : Value).ownBlock) ho0 (fun k_ hk_ => hk_.2)) (below_size pB)); have n1_ := Aside0.mk (Kd.R_lower (Kd.R_mono (ok' := fun k_ => True) ho1 (fun _ hk_ => trivial)) (below_size pB)); have n2_ := Aside0.mk (below_step pB hb); clear HB; have HO963 := n0_; have HO966 := n1_; have HB := n2_; clear n0_ n1_ n2_; (try clear hb); (try clear hb2); (try clear hk); (try clear hi); (try clear ho0); (try clear ho1); obtain ⟨Ao8, co8, eo8⟩ := Kd.N_slice HO963.out; subst eo8; obtain ⟨Ao9, co9, eo9⟩ := Kd.R_slice HO966.out; subst eo9) | (go_at_call 38; (with_reducible refine (impl_DishNeeds.calls k _ _ t961 _ _ t964 t967 t968 t969 t970 _ ?side1 ?side2 ?side3 ?side4 A4.out).mono ?_); (case side1 => exact pS ((Kd.N_reads' HO963.out).2.2)); (case side2 => exact (Kd.N_reads' HO963.out).2.1); (case side3 => exact pS ((Kd.R_reads' HO966.out).2.2)); (case side4 => exact (Kd.R_reads' HO966.out).2.1); rintro e w10 ⟨v971, rfl, ho0, hb⟩; have n0_ := Aside0.mk (Kd.N_elder' F16.q0 (Kd.R_base ho0) hb); have n1_ := Aside0.mk (Kd.R_below (pR HO966) hb); have n2_ := Aside0.mk (Kd.R_lower ho0 (below_size pB)); have n3_ := Aside0.mk (below_step pB hb); clear HO963; clear HO966; clear HB; have HO963 := n0_; have HO966 := n1_; have HO972 := n2_; have HB := n3_; clear n0_ n1_ n2_ n3_; (try clear hb); (try clear hb2); (try clear hk); (try clear hi); (try clear ho0)) | (go_at_call 37; (with_reducible refine (spec_DishNeeds.calls k _ _ t961 _ _ t964 t967 t968 t973 t974 _ ?side1 ?side2 ?side3 ?side4 A5.out).mono ?_); (case side1 => exact pS ((Kd.N_reads' HO963.out).2.2)); (case side2 => exact (Kd.N_reads' HO963.out).2.1); (case side3 => exact pS ((Kd.R_reads' HO966.out).2.2)); (case side4 => exact (Kd.R_reads' HO966.out).2.1); rintro e w11 ⟨v975, rfl, ho0, hb⟩; have n0_ := Aside0.mk (Kd.N_elder' F16.q0 (Kd.R_base ho0) hb); have n1_ := Aside0.mk (Kd.R_below (pR HO966) hb); have n2_ := Aside0.mk (Kd.R_elder' (pR HO972) (Kd.R_base ho0) hb); have n3_ := Aside0.mk (Kd.R_lower (Kd.R_new' ho0 (Kd.R_lt (pR HO972))) (below_size pB)); have n4_ := Aside0.mk (below_step pB hb); clear HO963; clear HO966; clear HO972; clear HB; have HO963 := n0_; have HO966 := n1_; have HO972 := n2_; have HO976 := n3_; have HB := n4_; clear n0_ n1_ n2_ n3_ n4_; (try clear hb); (try clear hb2); (try clear hk); (try clear hi); (try clear ho0))); go_upto_region 6 with (first | (go_at_call 45; (with_reducible refine (spec_DrawDishNeeds.calls k _ _ l0 t961 t964 t967 t968 _ ?side1 ?side2 A3.out).mono ?_); (case side1 => exact pS (HR0.out)); (case side2 => exact HC0.out); rintro e w7 ⟨v962, v965, rfl, ho0, ho1, hb⟩; have n0_ := Aside0.mk (Kd.N_lower (Kd.N_mono (ok' := fun k_ => some k_ ≠ (v965 : Value).ownBlock) ho0 (fun k_ hk_ => hk_.2)) (below_size pB)); have n1_ := Aside0.mk (Kd.R_lower (Kd.R_mono (ok' := fun k_ => True) ho1 (fun _ hk_ => trivial)) (below_size pB)); have n2_ := Aside0.mk (below_step pB hb); clear HB; have HO963 := n0_; have HO966 := n1_; have HB := n2_; clear n0_ n1_ n2_; (try clear hb); (try clear hb2); (try clear hk); (try clear hi); (try clear ho0); (try clear ho1); obtain ⟨Ao8, co8, eo8⟩ := Kd.N_slice HO963.out; subst eo8; obtain ⟨Ao9, co9, eo9⟩ := Kd.R_slice HO966.out; subst eo9) | (go_at_call 38; (with_reducible refine (impl_DishNeeds.calls k _ _ t961 _ _ t964 t967 t968 t969 t970 _ ?side1 ?side2 ?side3 ?side4 A4.out).mono ?_); (case side1 => exact pS ((Kd.N_reads' HO963.out).2.2)); (case side2 => exact (Kd.N_reads' HO963.out).2.1); (case side3 => exact pS ((Kd.R_reads' HO966.out).2.2)); (case side4 => exact (Kd.R_reads' HO966.out).2.1); rintro e w10 ⟨v971, rfl, ho0, hb⟩; have n0_ := Aside0.mk (Kd.N_elder' F16.q0 (Kd.R_base ho0) hb); have n1_ := Aside0.mk (Kd.R_below (pR HO966) hb); have n2_ := Aside0.mk (Kd.R_lower ho0 (below_size pB)); have n3_ := Aside0.mk (below_step pB hb); clear HO963; clear HO966; clear HB; have HO963 := n0_; have HO966 := n1_; have HO972 := n2_; have HB := n3_; clear n0_ n1_ n2_ n3_; (try clear hb); (try clear hb2); (try clear hk); (try clear hi); (try clear ho0)) | (go_at_call 37; (with_reducible refine (spec_DishNeeds.calls k _ _ t961 _ _ t964 t967 t968 t973 t974 _ ?side1 ?side2 ?side3 ?side4 A5.out).mono ?_); (case side1 => exact pS ((Kd.N_reads' HO963.out).2.2)); (case side2 => exact (Kd.N_reads' HO963.out).2.1); (case side3 => exact pS ((Kd.R_reads' HO966.out).2.2)); (case side4 => exact (Kd.R_reads' HO966.out).2.1); rintro e w11 ⟨v975, rfl, ho0, hb⟩; have n0_ := Aside0.mk (Kd.N_elder' F16.q0 (Kd.R_base ho0) hb); have n1_ := Aside0.mk (Kd.R_below (pR HO966) hb); have n2_ := Aside0.mk (Kd.R_elder' (pR HO972) (Kd.R_base ho0) hb); have n3_ := Aside0.mk (Kd.R_lower (Kd.R_new' ho0 (Kd.R_lt (pR HO972))) (below_size pB)); have n4_ := Aside0.mk (below_step pB hb); clear HO963; clear HO966; clear HO972; clear HB; have HO963 := n0_; have HO966 := n1_; have HO972 := n2_; have HO976 := n3_; have HB := n4_; clear n0_ n1_ n2_ n3_ n4_; (try clear hb); (try clear hb2); (try clear hk); (try clear hi); (try clear ho0))))
 (try simp only [Act.put, List.setIfInBounds_toArray, List.set_cons_zero, List.set_cons_succ])
 go_cut [58] (fun v58 wc => ∃ (kq : Nat) (x58_5 : Bool), v58 = .bool x58_5 ∧ Aside0 (laws_FnNeedsMore.j0 kq t961 t964 t967 t968 t969 t970 t973 t974 x58_5 = some r) ∧ Aside0 (kq ≤ k) ∧ Aside0 (Kd.N k29 29 wc w.heap.size (fun k_ => some k_ ≠ ((.slice Ao9 t964.length co9) : Value).ownBlock ∧ some k_ ≠ (v971 : Value).ownBlock ∧ some k_ ≠ (v975 : Value).ownBlock) (.slice Ao8 t961.length co8) t961) ∧ Aside0 (Kd.R k63 63 wc w.heap.size (fun _ => True) (.slice Ao9 t964.length co9) t964) ∧ Aside0 (Kd.R (Kd.int .i64) 3 wc w.heap.size (fun k_ => some k_ ≠ (v975 : Value).ownBlock) v971 t969) ∧ Aside0 (Kd.R (Kd.int .i64) 3 wc w.heap.size (fun k_ => some k_ ≠ (v971 : Value).ownBlock) v975 t973) ∧ Aside0 (Below w.heap.size w wc))
 case first =>
  have H := HC6.out
  clear HC6
  by_cases c12 : (t970 != t974) = true
  ·rw [if_pos c12] at H
   have c12b0 : (t970 != t974) = true := c12
   (try (have c12b1 : decide (t970 = t974) = false := by simpa using c12))
   (try (have c12b2 : (t970 == t974) = false := by simpa using c12))
   (try (have c12b3 : ¬ (t970 = t974) := by simpa using c12))
   clear c12
   (first | rw [c12b0] | (simp only [i64_w, i32_w]; rw [c12b0]) | skip)
   have H' := Aside0.mk H
   clear H
   go_wp2
   repeat (go_quiet (fail); try go_wp2)
   go_meet
   case rel => exact ⟨_, (true), pF, H', ⟨by first | omega | exact Nat.le_refl _⟩, ⟨by (with_reducible repeat (first | apply Kd.N_alloc | apply Kd.N_drewN | apply Kd.N_drew)); exact Kd.N_mono HO963.out (fun _ hk => ⟨hk.1.1, ⟨hk.1.2, hk.2⟩⟩)⟩, ⟨pR HO966⟩, ⟨by (with_reducible repeat (first | apply Kd.R_alloc | apply Kd.R_drewN | apply Kd.R_drew)); exact Kd.R_mono HO972.out (fun _ hk => hk.2)⟩, ⟨by (with_reducible repeat (first | apply Kd.R_alloc | apply Kd.R_drewN | apply Kd.R_drew)); exact Kd.R_mono HO976.out (fun _ hk => hk.2)⟩, ⟨pB⟩⟩
  rw [if_neg c12] at H
  have c12b0 : (t970 != t974) = false := by simpa using c12
  (try (have c12b1 : decide (t970 = t974) = true := by simpa using c12))
  (try (have c12b2 : (t970 == t974) = true := by simpa using c12))
  clear c12
  (first | rw [c12b0] | (simp only [i64_w, i32_w]; rw [c12b0]) | skip)
  replace H := Option.bind_eq_some_iff.mp H
  obtain ⟨t977, A130, H⟩ := H
  replace H : (if t977 = true then (if t970 = true then (laws_FnNeedsMore.j0 k t961 t964 t967 t968 t969 t970 t973 t974 (t968 == 0)) else (laws_FnNeedsMore.j0 k t961 t964 t967 t968 t969 t970 t973 t974 true)) else (laws_FnNeedsMore.j0 k t961 t964 t967 t968 t969 t970 t973 t974 true)) = some r := H
  have A13 := Aside0.mk A130
  clear A130
  rcases (Classical.em (t977 = true)).symm with c14 | c14
  ·replace c14 := Bool.eq_false_iff.mpr c14
   subst c14
   have H1 : (laws_FnNeedsMore.j0 k t961 t964 t967 t968 t969 t970 t973 t974 true) = some r := by rw [if_neg (show ¬ (false = true) by decide)] at H; exact H
   clear H
   have H := H1
   clear H1
   have H' := Aside0.mk H
   clear H
   obtain ⟨Ao20, co20, eo20⟩ := Kd.R_slice HO972.out
   subst eo20
   obtain ⟨Ao21, co21, eo21⟩ := Kd.R_slice HO976.out
   subst eo21
   go_wp2_with (first | (go_at_call 43; (with_reducible refine (laws_sameInts.calls k _ _ t969 _ _ t973 false _ ?side1 ?side2 ?side3 ?side4 A13.out).mono ?_); (case side1 => exact pS ((Kd.R_reads' HO972.out).2.2)); (case side2 => exact (Kd.R_reads' HO972.out).2.1); (case side3 => exact pS ((Kd.R_reads' HO976.out).2.2)); (case side4 => exact (Kd.R_reads' HO976.out).2.1); rintro e w' ⟨rfl, ⟨nd, rfl⟩⟩; (try exact pD)))
   repeat (go_quiet (first | (go_at_call 43; (with_reducible refine (laws_sameInts.calls k _ _ t969 _ _ t973 false _ ?side1 ?side2 ?side3 ?side4 A13.out).mono ?_); (case side1 => exact pS ((Kd.R_reads' HO972.out).2.2)); (case side2 => exact (Kd.R_reads' HO972.out).2.1); (case side3 => exact pS ((Kd.R_reads' HO976.out).2.2)); (case side4 => exact (Kd.R_reads' HO976.out).2.1); rintro e w' ⟨rfl, ⟨nd, rfl⟩⟩; (try exact pD))); try go_wp2_with (first | (go_at_call 43; (with_reducible refine (laws_sameInts.calls k _ _ t969 _ _ t973 false _ ?side1 ?side2 ?side3 ?side4 A13.out).mono ?_); (case side1 => exact pS ((Kd.R_reads' HO972.out).2.2)); (case side2 => exact (Kd.R_reads' HO972.out).2.1); (case side3 => exact pS ((Kd.R_reads' HO976.out).2.2)); (case side4 => exact (Kd.R_reads' HO976.out).2.1); rintro e w' ⟨rfl, ⟨nd, rfl⟩⟩; (try exact pD))))
   go_meet
   case rel => exact ⟨_, (true), pF, H', ⟨by first | omega | exact Nat.le_refl _⟩, ⟨by (with_reducible repeat (first | apply Kd.N_alloc | apply Kd.N_drewN | apply Kd.N_drew)); exact Kd.N_mono HO963.out (fun _ hk => ⟨hk.1.1, ⟨hk.1.2, hk.2⟩⟩)⟩, ⟨pR HO966⟩, ⟨by (with_reducible repeat (first | apply Kd.R_alloc | apply Kd.R_drewN | apply Kd.R_drew)); exact Kd.R_mono HO972.out (fun _ hk => hk.2)⟩, ⟨by (with_reducible repeat (first | apply Kd.R_alloc | apply Kd.R_drewN | apply Kd.R_drew)); exact Kd.R_mono HO976.out (fun _ hk => hk.2)⟩, ⟨pB⟩⟩
  subst c14
  have H1 : (if t970 = true then (laws_FnNeedsMore.j0 k t961 t964 t967 t968 t969 t970 t973 t974 (t968 == 0)) else (laws_FnNeedsMore.j0 k t961 t964 t967 t968 t969 t970 t973 t974 true)) = some r := by rw [if_pos rfl] at H; exact H
  clear H
  have H := H1
  clear H1
  by_cases c15 : t970 = true
  ·subst c15
   have H1 : (laws_FnNeedsMore.j0 k t961 t964 t967 t968 t969 true t973 t974 (t968 == 0)) = some r := by rw [if_pos rfl] at H; exact H
   clear H
   have H := H1
   clear H1
   have H' := Aside0.mk H
   clear H
   obtain ⟨Ao16, co16, eo16⟩ := Kd.R_slice HO972.out
   subst eo16
   obtain ⟨Ao17, co17, eo17⟩ := Kd.R_slice HO976.out
   subst eo17
   go_wp2_with (first | (go_at_call 43; (with_reducible refine (laws_sameInts.calls k _ _ t969 _ _ t973 true _ ?side1 ?side2 ?side3 ?side4 A13.out).mono ?_); (case side1 => exact pS ((Kd.R_reads' HO972.out).2.2)); (case side2 => exact (Kd.R_reads' HO972.out).2.1); (case side3 => exact pS ((Kd.R_reads' HO976.out).2.2)); (case side4 => exact (Kd.R_reads' HO976.out).2.1); rintro e w' ⟨rfl, ⟨nd, rfl⟩⟩; (try exact pD)))
   repeat (go_quiet (first | (go_at_call 43; (with_reducible refine (laws_sameInts.calls k _ _ t969 _ _ t973 true _ ?side1 ?side2 ?side3 ?side4 A13.out).mono ?_); (case side1 => exact pS ((Kd.R_reads' HO972.out).2.2)); (case side2 => exact (Kd.R_reads' HO972.out).2.1); (case side3 => exact pS ((Kd.R_reads' HO976.out).2.2)); (case side4 => exact (Kd.R_reads' HO976.out).2.1); rintro e w' ⟨rfl, ⟨nd, rfl⟩⟩; (try exact pD))); try go_wp2_with (first | (go_at_call 43; (with_reducible refine (laws_sameInts.calls k _ _ t969 _ _ t973 true _ ?side1 ?side2 ?side3 ?side4 A13.out).mono ?_); (case side1 => exact pS ((Kd.R_reads' HO972.out).2.2)); (case side2 => exact (Kd.R_reads' HO972.out).2.1); (case side3 => exact pS ((Kd.R_reads' HO976.out).2.2)); (case side4 => exact (Kd.R_reads' HO976.out).2.1); rintro e w' ⟨rfl, ⟨nd, rfl⟩⟩; (try exact pD))))
   go_meet
   case rel => exact ⟨_, ((t968 == 0)), pF, H', ⟨by first | omega | exact Nat.le_refl _⟩, ⟨by (with_reducible repeat (first | apply Kd.N_alloc | apply Kd.N_drewN | apply Kd.N_drew)); exact Kd.N_mono HO963.out (fun _ hk => ⟨hk.1.1, ⟨hk.1.2, hk.2⟩⟩)⟩, ⟨pR HO966⟩, ⟨by (with_reducible repeat (first | apply Kd.R_alloc | apply Kd.R_drewN | apply Kd.R_drew)); exact Kd.R_mono HO972.out (fun _ hk => hk.2)⟩, ⟨by (with_reducible repeat (first | apply Kd.R_alloc | apply Kd.R_drewN | apply Kd.R_drew)); exact Kd.R_mono HO976.out (fun _ hk => hk.2)⟩, ⟨pB⟩⟩
  replace c15 := Bool.eq_false_iff.mpr c15
  subst c15
  have H1 : (laws_FnNeedsMore.j0 k t961 t964 t967 t968 t969 false t973 t974 true) = some r := by rw [if_neg (show ¬ (false = true) by decide)] at H; exact H
  clear H
  have H := H1
  clear H1
  have H' := Aside0.mk H
  clear H
  obtain ⟨Ao18, co18, eo18⟩ := Kd.R_slice HO972.out
  subst eo18
  obtain ⟨Ao19, co19, eo19⟩ := Kd.R_slice HO976.out
  subst eo19
  go_wp2_with (first | (go_at_call 43; (with_reducible refine (laws_sameInts.calls k _ _ t969 _ _ t973 true _ ?side1 ?side2 ?side3 ?side4 A13.out).mono ?_); (case side1 => exact pS ((Kd.R_reads' HO972.out).2.2)); (case side2 => exact (Kd.R_reads' HO972.out).2.1); (case side3 => exact pS ((Kd.R_reads' HO976.out).2.2)); (case side4 => exact (Kd.R_reads' HO976.out).2.1); rintro e w' ⟨rfl, ⟨nd, rfl⟩⟩; (try exact pD)))
  repeat (go_quiet (first | (go_at_call 43; (with_reducible refine (laws_sameInts.calls k _ _ t969 _ _ t973 true _ ?side1 ?side2 ?side3 ?side4 A13.out).mono ?_); (case side1 => exact pS ((Kd.R_reads' HO972.out).2.2)); (case side2 => exact (Kd.R_reads' HO972.out).2.1); (case side3 => exact pS ((Kd.R_reads' HO976.out).2.2)); (case side4 => exact (Kd.R_reads' HO976.out).2.1); rintro e w' ⟨rfl, ⟨nd, rfl⟩⟩; (try exact pD))); try go_wp2_with (first | (go_at_call 43; (with_reducible refine (laws_sameInts.calls k _ _ t969 _ _ t973 true _ ?side1 ?side2 ?side3 ?side4 A13.out).mono ?_); (case side1 => exact pS ((Kd.R_reads' HO972.out).2.2)); (case side2 => exact (Kd.R_reads' HO972.out).2.1); (case side3 => exact pS ((Kd.R_reads' HO976.out).2.2)); (case side4 => exact (Kd.R_reads' HO976.out).2.1); rintro e w' ⟨rfl, ⟨nd, rfl⟩⟩; (try exact pD))))
  go_meet
  case rel => exact ⟨_, (true), pF, H', ⟨by first | omega | exact Nat.le_refl _⟩, ⟨by (with_reducible repeat (first | apply Kd.N_alloc | apply Kd.N_drewN | apply Kd.N_drew)); exact Kd.N_mono HO963.out (fun _ hk => ⟨hk.1.1, ⟨hk.1.2, hk.2⟩⟩)⟩, ⟨pR HO966⟩, ⟨by (with_reducible repeat (first | apply Kd.R_alloc | apply Kd.R_drewN | apply Kd.R_drew)); exact Kd.R_mono HO972.out (fun _ hk => hk.2)⟩, ⟨by (with_reducible repeat (first | apply Kd.R_alloc | apply Kd.R_drewN | apply Kd.R_drew)); exact Kd.R_mono HO976.out (fun _ hk => hk.2)⟩, ⟨pB⟩⟩
 case rest =>
  clear HC6
  try clear c1
  try clear c2
  try clear c2b0
  try clear c2b1
  try clear p2
  try clear c12
  try clear c12b0
  try clear c12b1
  try clear c12b2
  try clear c14
  try clear c15
  try clear c16
  obtain ⟨kq, x58_5, rfl, HA, HJ5, HO_3, HO_4, HO_7, HO_9, HB⟩ := hcut
  cases kq with
  | zero => exact absurd HA.out (by simp [laws_FnNeedsMore.j0])
  | succ kj5 =>
   have H := HA.out
   clear HA
   simp only [laws_FnNeedsMore.j0] at H
   by_cases c22 : x58_5 = true
   ·subst c22
    have H1 : (if (t970 == t974) = true then ((laws_sameInts.f kj5 t969 t973).bind fun t978 => (some t978)) else (some false)) = some r := by rw [if_pos rfl] at H; exact H
    clear H
    have H := H1
    clear H1
    rcases (Classical.em ((t970 == t974) = true)).symm with c23 | c23
    ·rw [if_neg c23] at H
     have c23b0 : (t970 == t974) = false := by simpa using c23
     (try (have c23b1 : decide (t970 = t974) = false := by simpa using c23))
     (try (have c23b2 : (t970 == t974) = false := by simpa using c23))
     (try (have c23b3 : ¬ (t970 = t974) := by simpa using c23))
     clear c23
     obtain rfl := Option.some.inj H
     go_wp2
     repeat (go_quiet (fail); try go_wp2)
     go_ret
     exact ⟨pE, pB⟩
    rw [if_pos c23] at H
    have c23b0 : (t970 == t974) = true := c23
    (try (have c23b1 : decide (t970 = t974) = true := by simpa using c23))
    (try (have c23b2 : (t970 == t974) = true := by simpa using c23))
    clear c23
    replace H := Option.bind_eq_some_iff.mp H
    obtain ⟨t978, A240, H⟩ := H
    replace H : (some t978) = some r := H
    have A24 := Aside0.mk A240
    clear A240
    obtain rfl := Option.some.inj H
    obtain ⟨Ao25, co25, eo25⟩ := Kd.R_slice HO_7.out
    subst eo25
    obtain ⟨Ao26, co26, eo26⟩ := Kd.R_slice HO_9.out
    subst eo26
    go_wp2_with (first | (go_at_call 43; (with_reducible refine (laws_sameInts.calls kj5 _ _ t969 _ _ t973 t978 _ ?side1 ?side2 ?side3 ?side4 A24.out).mono ?_); (case side1 => exact pS ((Kd.R_reads' HO_7.out).2.2)); (case side2 => exact (Kd.R_reads' HO_7.out).2.1); (case side3 => exact pS ((Kd.R_reads' HO_9.out).2.2)); (case side4 => exact (Kd.R_reads' HO_9.out).2.1); rintro e w' ⟨rfl, ⟨nd, rfl⟩⟩; (try exact pD)))
    repeat (go_quiet (first | (go_at_call 43; (with_reducible refine (laws_sameInts.calls kj5 _ _ t969 _ _ t973 t978 _ ?side1 ?side2 ?side3 ?side4 A24.out).mono ?_); (case side1 => exact pS ((Kd.R_reads' HO_7.out).2.2)); (case side2 => exact (Kd.R_reads' HO_7.out).2.1); (case side3 => exact pS ((Kd.R_reads' HO_9.out).2.2)); (case side4 => exact (Kd.R_reads' HO_9.out).2.1); rintro e w' ⟨rfl, ⟨nd, rfl⟩⟩; (try exact pD))); try go_wp2_with (first | (go_at_call 43; (with_reducible refine (laws_sameInts.calls kj5 _ _ t969 _ _ t973 t978 _ ?side1 ?side2 ?side3 ?side4 A24.out).mono ?_); (case side1 => exact pS ((Kd.R_reads' HO_7.out).2.2)); (case side2 => exact (Kd.R_reads' HO_7.out).2.1); (case side3 => exact pS ((Kd.R_reads' HO_9.out).2.2)); (case side4 => exact (Kd.R_reads' HO_9.out).2.1); rintro e w' ⟨rfl, ⟨nd, rfl⟩⟩; (try exact pD))))
    go_ret
    exact ⟨pE, pB⟩
   replace c22 := Bool.eq_false_iff.mpr c22
   subst c22
   have H1 : ((impl_DishNeeds.f kj5 t961 t964 t967 (wrap64 (t968 - 1))).bind fun bt979 => ((impl_DishNeeds.f kj5 t961 t964 t967 0).bind fun bt983 => (laws_FnNeedsMore.l0 kj5 t969 bt979.1 bt979.2 bt983.1 bt983.2 0))) = some r := by rw [if_neg (show ¬ (false = true) by decide)] at H; exact H
   clear H
   have H := H1
   clear H1
   replace H := Option.bind_eq_some_iff.mp H
   obtain ⟨⟨t979, t980⟩, A270, H⟩ := H
   replace H : ((impl_DishNeeds.f kj5 t961 t964 t967 0).bind fun bt983 => (laws_FnNeedsMore.l0 kj5 t969 t979 t980 bt983.1 bt983.2 0)) = some r := H
   have A27 := Aside0.mk A270
   clear A270
   replace H := Option.bind_eq_some_iff.mp H
   obtain ⟨⟨t983, t984⟩, A280, H⟩ := H
   replace H : (laws_FnNeedsMore.l0 kj5 t969 t979 t980 t983 t984 0) = some r := H
   have A28 := Aside0.mk A280
   clear A280
   have H' := Aside0.mk H
   clear H
   go_wp2_with (first | (go_at_call 38; (with_reducible refine (impl_DishNeeds.calls kj5 _ _ t961 _ _ t964 t967 (wrap64 (t968 - 1)) t979 t980 _ ?side1 ?side2 ?side3 ?side4 A27.out).mono ?_); (case side1 => exact pS ((Kd.N_reads' HO_3.out).2.2)); (case side2 => exact (Kd.N_reads' HO_3.out).2.1); (case side3 => exact pS ((Kd.R_reads' HO_4.out).2.2)); (case side4 => exact (Kd.R_reads' HO_4.out).2.1); rintro e w29 ⟨v981, rfl, ho0, hb⟩; have n0_ := Aside0.mk (Kd.N_elder' F16.q1 (Kd.R_base ho0) hb); have n1_ := Aside0.mk (Kd.R_below (pR HO_4) hb); have n2_ := Aside0.mk (Kd.R_elder' (pR HO_7) (Kd.R_base ho0) hb); have n3_ := Aside0.mk (Kd.R_elder' (pR HO_9) (Kd.R_base ho0) hb); have n4_ := Aside0.mk (Kd.R_lower (Kd.R_new' (Kd.R_new' ho0 (Kd.R_lt (pR HO_7))) (Kd.R_lt (pR HO_9))) (below_size pB)); have n5_ := Aside0.mk (below_step pB hb); clear HO_3; clear HO_4; clear HO_7; clear HO_9; clear HB; have HO_3 := n0_; have HO_4 := n1_; have HO_7 := n2_; have HO_9 := n3_; have HO982 := n4_; have HB := n5_; clear n0_ n1_ n2_ n3_ n4_ n5_; (try clear hb); (try clear hb2); (try clear hk); (try clear hi); (try clear ho0)) | (go_at_call 38; (with_reducible refine (impl_DishNeeds.calls kj5 _ _ t961 _ _ t964 t967 0 t983 t984 _ ?side1 ?side2 ?side3 ?side4 A28.out).mono ?_); (case side1 => exact pS ((Kd.N_reads' HO_3.out).2.2)); (case side2 => exact (Kd.N_reads' HO_3.out).2.1); (case side3 => exact pS ((Kd.R_reads' HO_4.out).2.2)); (case side4 => exact (Kd.R_reads' HO_4.out).2.1); rintro e w30 ⟨v985, rfl, ho0, hb⟩; have n0_ := Aside0.mk (Kd.N_elder' F16.q1 (Kd.R_base ho0) hb); have n1_ := Aside0.mk (Kd.R_below (pR HO_4) hb); have n2_ := Aside0.mk (Kd.R_elder' (pR HO_7) (Kd.R_base ho0) hb); have n3_ := Aside0.mk (Kd.R_elder' (pR HO_9) (Kd.R_base ho0) hb); have n4_ := Aside0.mk (Kd.R_elder' (pR HO982) (Kd.R_base ho0) hb); have n5_ := Aside0.mk (Kd.R_lower (Kd.R_new' (Kd.R_new' (Kd.R_new' ho0 (Kd.R_lt (pR HO_7))) (Kd.R_lt (pR HO_9))) (Kd.R_lt (pR HO982))) (below_size pB)); have n6_ := Aside0.mk (below_step pB hb); clear HO_3; clear HO_4; clear HO_7; clear HO_9; clear HO982; clear HB; have HO_3 := n0_; have HO_4 := n1_; have HO_7 := n2_; have HO_9 := n3_; have HO982 := n4_; have HO986 := n5_; have HB := n6_; clear n0_ n1_ n2_ n3_ n4_ n5_ n6_; (try clear hb); (try clear hb2); (try clear hk); (try clear hi); (try clear ho0)))
   repeat (go_quiet (first | (go_at_call 38; (with_reducible refine (impl_DishNeeds.calls kj5 _ _ t961 _ _ t964 t967 (wrap64 (t968 - 1)) t979 t980 _ ?side1 ?side2 ?side3 ?side4 A27.out).mono ?_); (case side1 => exact pS ((Kd.N_reads' HO_3.out).2.2)); (case side2 => exact (Kd.N_reads' HO_3.out).2.1); (case side3 => exact pS ((Kd.R_reads' HO_4.out).2.2)); (case side4 => exact (Kd.R_reads' HO_4.out).2.1); rintro e w29 ⟨v981, rfl, ho0, hb⟩; have n0_ := Aside0.mk (Kd.N_elder' F16.q1 (Kd.R_base ho0) hb); have n1_ := Aside0.mk (Kd.R_below (pR HO_4) hb); have n2_ := Aside0.mk (Kd.R_elder' (pR HO_7) (Kd.R_base ho0) hb); have n3_ := Aside0.mk (Kd.R_elder' (pR HO_9) (Kd.R_base ho0) hb); have n4_ := Aside0.mk (Kd.R_lower (Kd.R_new' (Kd.R_new' ho0 (Kd.R_lt (pR HO_7))) (Kd.R_lt (pR HO_9))) (below_size pB)); have n5_ := Aside0.mk (below_step pB hb); clear HO_3; clear HO_4; clear HO_7; clear HO_9; clear HB; have HO_3 := n0_; have HO_4 := n1_; have HO_7 := n2_; have HO_9 := n3_; have HO982 := n4_; have HB := n5_; clear n0_ n1_ n2_ n3_ n4_ n5_; (try clear hb); (try clear hb2); (try clear hk); (try clear hi); (try clear ho0)) | (go_at_call 38; (with_reducible refine (impl_DishNeeds.calls kj5 _ _ t961 _ _ t964 t967 0 t983 t984 _ ?side1 ?side2 ?side3 ?side4 A28.out).mono ?_); (case side1 => exact pS ((Kd.N_reads' HO_3.out).2.2)); (case side2 => exact (Kd.N_reads' HO_3.out).2.1); (case side3 => exact pS ((Kd.R_reads' HO_4.out).2.2)); (case side4 => exact (Kd.R_reads' HO_4.out).2.1); rintro e w30 ⟨v985, rfl, ho0, hb⟩; have n0_ := Aside0.mk (Kd.N_elder' F16.q1 (Kd.R_base ho0) hb); have n1_ := Aside0.mk (Kd.R_below (pR HO_4) hb); have n2_ := Aside0.mk (Kd.R_elder' (pR HO_7) (Kd.R_base ho0) hb); have n3_ := Aside0.mk (Kd.R_elder' (pR HO_9) (Kd.R_base ho0) hb); have n4_ := Aside0.mk (Kd.R_elder' (pR HO982) (Kd.R_base ho0) hb); have n5_ := Aside0.mk (Kd.R_lower (Kd.R_new' (Kd.R_new' (Kd.R_new' ho0 (Kd.R_lt (pR HO_7))) (Kd.R_lt (pR HO_9))) (Kd.R_lt (pR HO982))) (below_size pB)); have n6_ := Aside0.mk (below_step pB hb); clear HO_3; clear HO_4; clear HO_7; clear HO_9; clear HO982; clear HB; have HO_3 := n0_; have HO_4 := n1_; have HO_7 := n2_; have HO_9 := n3_; have HO982 := n4_; have HO986 := n5_; have HB := n6_; clear n0_ n1_ n2_ n3_ n4_ n5_ n6_; (try clear hb); (try clear hb2); (try clear hk); (try clear hi); (try clear ho0))); try go_wp2_with (first | (go_at_call 38; (with_reducible refine (impl_DishNeeds.calls kj5 _ _ t961 _ _ t964 t967 (wrap64 (t968 - 1)) t979 t980 _ ?side1 ?side2 ?side3 ?side4 A27.out).mono ?_); (case side1 => exact pS ((Kd.N_reads' HO_3.out).2.2)); (case side2 => exact (Kd.N_reads' HO_3.out).2.1); (case side3 => exact pS ((Kd.R_reads' HO_4.out).2.2)); (case side4 => exact (Kd.R_reads' HO_4.out).2.1); rintro e w29 ⟨v981, rfl, ho0, hb⟩; have n0_ := Aside0.mk (Kd.N_elder' F16.q1 (Kd.R_base ho0) hb); have n1_ := Aside0.mk (Kd.R_below (pR HO_4) hb); have n2_ := Aside0.mk (Kd.R_elder' (pR HO_7) (Kd.R_base ho0) hb); have n3_ := Aside0.mk (Kd.R_elder' (pR HO_9) (Kd.R_base ho0) hb); have n4_ := Aside0.mk (Kd.R_lower (Kd.R_new' (Kd.R_new' ho0 (Kd.R_lt (pR HO_7))) (Kd.R_lt (pR HO_9))) (below_size pB)); have n5_ := Aside0.mk (below_step pB hb); clear HO_3; clear HO_4; clear HO_7; clear HO_9; clear HB; have HO_3 := n0_; have HO_4 := n1_; have HO_7 := n2_; have HO_9 := n3_; have HO982 := n4_; have HB := n5_; clear n0_ n1_ n2_ n3_ n4_ n5_; (try clear hb); (try clear hb2); (try clear hk); (try clear hi); (try clear ho0)) | (go_at_call 38; (with_reducible refine (impl_DishNeeds.calls kj5 _ _ t961 _ _ t964 t967 0 t983 t984 _ ?side1 ?side2 ?side3 ?side4 A28.out).mono ?_); (case side1 => exact pS ((Kd.N_reads' HO_3.out).2.2)); (case side2 => exact (Kd.N_reads' HO_3.out).2.1); (case side3 => exact pS ((Kd.R_reads' HO_4.out).2.2)); (case side4 => exact (Kd.R_reads' HO_4.out).2.1); rintro e w30 ⟨v985, rfl, ho0, hb⟩; have n0_ := Aside0.mk (Kd.N_elder' F16.q1 (Kd.R_base ho0) hb); have n1_ := Aside0.mk (Kd.R_below (pR HO_4) hb); have n2_ := Aside0.mk (Kd.R_elder' (pR HO_7) (Kd.R_base ho0) hb); have n3_ := Aside0.mk (Kd.R_elder' (pR HO_9) (Kd.R_base ho0) hb); have n4_ := Aside0.mk (Kd.R_elder' (pR HO982) (Kd.R_base ho0) hb); have n5_ := Aside0.mk (Kd.R_lower (Kd.R_new' (Kd.R_new' (Kd.R_new' ho0 (Kd.R_lt (pR HO_7))) (Kd.R_lt (pR HO_9))) (Kd.R_lt (pR HO982))) (below_size pB)); have n6_ := Aside0.mk (below_step pB hb); clear HO_3; clear HO_4; clear HO_7; clear HO_9; clear HO982; clear HB; have HO_3 := n0_; have HO_4 := n1_; have HO_7 := n2_; have HO_9 := n3_; have HO982 := n4_; have HO986 := n5_; have HB := n6_; clear n0_ n1_ n2_ n3_ n4_ n5_ n6_; (try clear hb); (try clear hb2); (try clear hk); (try clear hi); (try clear ho0))))
   go_loopg [15] kj5 (fun kq v15 w' => ∃ (x15_2 : Int), v15 = .int .i64 x15_2 ∧ Aside0 (laws_FnNeedsMore.l0 kq t969 t979 t980 t983 t984 x15_2 = some r) ∧ Aside0 (kq ≤ kj5) ∧ Aside0 (Kd.R (Kd.int .i64) 3 w' w.heap.size (fun k_ => some k_ ≠ (v981 : Value).ownBlock ∧ some k_ ≠ (v985 : Value).ownBlock) v971 t969) ∧ Aside0 (Kd.R (Kd.int .i64) 3 w' w.heap.size (fun k_ => some k_ ≠ (v971 : Value).ownBlock ∧ some k_ ≠ (v985 : Value).ownBlock) v981 t979) ∧ Aside0 (Kd.R (Kd.int .i64) 3 w' w.heap.size (fun k_ => some k_ ≠ (v971 : Value).ownBlock ∧ some k_ ≠ (v981 : Value).ownBlock) v985 t983) ∧ Aside0 (Below w.heap.size w w'))
   case atStart => exact ⟨(0), pF, H', ⟨Nat.le_refl _⟩, ⟨by (with_reducible repeat (first | apply Kd.R_alloc | apply Kd.R_drewN | apply Kd.R_drew)); exact Kd.R_mono HO_7.out (fun _ hk => ⟨hk.1.2, hk.2⟩)⟩, ⟨by (with_reducible repeat (first | apply Kd.R_alloc | apply Kd.R_drewN | apply Kd.R_drew)); exact Kd.R_mono HO982.out (fun _ hk => ⟨hk.1.1.2, hk.2⟩)⟩, ⟨by (with_reducible repeat (first | apply Kd.R_alloc | apply Kd.R_drewN | apply Kd.R_drew)); exact Kd.R_mono HO986.out (fun _ hk => ⟨hk.1.1.2, hk.2⟩)⟩, ⟨pB⟩⟩
   case round =>
    clear H'
    try clear c1
    try clear c2
    try clear c2b0
    try clear c2b1
    try clear p2
    try clear p6
    try clear c12
    try clear c12b0
    try clear c12b1
    try clear c12b2
    try clear c14
    try clear c15
    try clear c16
    try clear c22
    try clear c23
    try clear c23b0
    try clear c23b1
    try clear c23b2
    try clear p2
    obtain ⟨x15_2, rfl, HA, HK2, HO_7, HO_11, HO_13, HB⟩ := hrel
    cases gk with
    | zero => exact absurd HA.out (by simp [laws_FnNeedsMore.l0])
    | succ k2 =>
     have H := HA.out
     clear HA
     simp only [laws_FnNeedsMore.l0] at H
     have HC31 := Aside0.mk H
     clear H
     go_upto_region 11 with (fail)
     repeat (go_quiet (fail); go_upto_region 11 with (fail))
     go_cut [92] (fun v92 wc => ∃ (kq : Nat) (x92_30 : Bool), v92 = .bool x92_30 ∧ Aside0 (laws_FnNeedsMore.j2 kq t969 t979 t980 t983 t984 x15_2 x92_30 = some r) ∧ Aside0 (kq ≤ k2) ∧ Aside0 (Kd.R (Kd.int .i64) 3 wc w.heap.size (fun k_ => some k_ ≠ (v981 : Value).ownBlock ∧ some k_ ≠ (v985 : Value).ownBlock) v971 t969) ∧ Aside0 (Kd.R (Kd.int .i64) 3 wc w.heap.size (fun k_ => some k_ ≠ (v971 : Value).ownBlock ∧ some k_ ≠ (v985 : Value).ownBlock) v981 t979) ∧ Aside0 (Kd.R (Kd.int .i64) 3 wc w.heap.size (fun k_ => some k_ ≠ (v971 : Value).ownBlock ∧ some k_ ≠ (v981 : Value).ownBlock) v985 t983) ∧ Aside0 (Below w.heap.size w wc))
     case first =>
      have H := HC31.out
      clear HC31
      rcases (Classical.em (x15_2 < (t979.length : Int))).symm with c32 | c32
      ·rw [if_neg c32] at H
       have c32b0 : decide (x15_2 < (t979.length : Int)) = false := decide_eq_false c32
       clear c32
       (first | rw [c32b0] | (simp only [i64_w, i32_w]; rw [c32b0]) | skip)
       have H' := Aside0.mk H
       clear H
       obtain ⟨Ao35, co35, eo35⟩ := Kd.R_slice HO_11.out
       subst eo35
       go_wp2
       repeat (go_quiet (fail); try go_wp2)
       go_meet
       case rel => exact ⟨_, (false), pF, H', ⟨by have := HJ5.out; have := HK2.out; first | omega | exact Nat.le_refl _⟩, ⟨pR HO_7⟩, ⟨pR HO_11⟩, ⟨pR HO_13⟩, ⟨pB⟩⟩
      rw [if_pos c32] at H
      have c32b0 : decide (x15_2 < (t979.length : Int)) = true := decide_eq_true c32
      clear c32
      (first | rw [c32b0] | (simp only [i64_w, i32_w]; rw [c32b0]) | skip)
      have H' := Aside0.mk H
      clear H
      obtain ⟨Ao33, co33, eo33⟩ := Kd.R_slice HO_11.out
      subst eo33
      obtain ⟨Ao34, co34, eo34⟩ := Kd.R_slice HO_7.out
      subst eo34
      go_wp2
      repeat (go_quiet (fail); try go_wp2)
      go_meet
      case rel => exact ⟨_, (decide (x15_2 < (t969.length : Int))), pF, H', ⟨by have := HJ5.out; have := HK2.out; first | omega | exact Nat.le_refl _⟩, ⟨pR HO_7⟩, ⟨pR HO_11⟩, ⟨pR HO_13⟩, ⟨pB⟩⟩
     case rest =>
      clear HC31
      try clear c1
      try clear c2
      try clear c2b0
      try clear c2b1
      try clear p2
      try clear c3
      try clear p6
      try clear c12
      try clear c12b0
      try clear c12b1
      try clear c12b2
      try clear c14
      try clear c15
      try clear c16
      try clear c22
      try clear c23
      try clear c23b0
      try clear c23b1
      try clear c23b2
      try clear c32
      try clear c32b0
      try clear p2
      try clear p6
      obtain ⟨kq, x92_30, rfl, HA, HJ30, HO_7, HO_11, HO_13, HB⟩ := hcut
      cases kq with
      | zero => exact absurd HA.out (by simp [laws_FnNeedsMore.j2])
      | succ kj30 =>
       have H := HA.out
       clear HA
       simp only [laws_FnNeedsMore.j2] at H
       by_cases c36 : x92_30 = true
       ·subst c36
        have H1 : (if 0 ≤ x15_2 then (if x15_2 < (t979.length : Int) then (if x15_2 < (t969.length : Int) then (if (rd t979 x15_2) > (rd t969 x15_2) then (some false) else (laws_FnNeedsMore.l0 kj30 t969 t979 t980 t983 t984 (wrap64 (x15_2 + 1)))) else (none)) else (none)) else (none)) = some r := by rw [if_pos rfl] at H; exact H
        clear H
        have H := H1
        clear H1
        rcases (Classical.em (0 ≤ x15_2)).symm with c37 | c37
        ·rw [if_neg c37] at H
         exact absurd H (by simp)
        rw [if_pos c37] at H
        have c37b0 : decide (0 ≤ x15_2) = true := decide_eq_true c37
        clear c37
        rcases (Classical.em (x15_2 < (t979.length : Int))).symm with c38 | c38
        ·rw [if_neg c38] at H
         exact absurd H (by simp)
        rw [if_pos c38] at H
        have c38b0 : decide (x15_2 < (t979.length : Int)) = true := decide_eq_true c38
        clear c38
        rcases (Classical.em (x15_2 < (t969.length : Int))).symm with c39 | c39
        ·rw [if_neg c39] at H
         exact absurd H (by simp)
        rw [if_pos c39] at H
        have c39b0 : decide (x15_2 < (t969.length : Int)) = true := decide_eq_true c39
        clear c39
        by_cases c40 : (rd t979 x15_2) > (rd t969 x15_2)
        ·rw [if_pos c40] at H
         have c40b0 : decide ((rd t969 x15_2) < (rd t979 x15_2)) = true := decide_eq_true c40
         clear c40
         obtain rfl := Option.some.inj H
         obtain ⟨Ao41, co41, eo41⟩ := Kd.R_slice HO_11.out
         subst eo41
         have p987 : 0 ≤ (x15_2 : Int) := of_decide_eq_true pA
         have q987 : x15_2 < (t979.length : Int) := of_decide_eq_true pA
         obtain ⟨ad987, e987, hx987_0⟩ := Kd.at_int (Kd.R_reads' HO_11.out).2.2 x15_2 p987 q987
         cases e987
         replace p987 := eq_true p987
         replace q987 := eq_true q987
         obtain ⟨Ao42, co42, eo42⟩ := Kd.R_slice HO_7.out
         subst eo42
         have p988 : 0 ≤ (x15_2 : Int) := of_decide_eq_true pA
         have q988 : x15_2 < (t969.length : Int) := of_decide_eq_true pA
         obtain ⟨ad988, e988, hx988_0⟩ := Kd.at_int (Kd.R_reads' HO_7.out).2.2 x15_2 p988 q988
         cases e988
         replace p988 := eq_true p988
         replace q988 := eq_true q988
         go_wp2
         repeat (go_quiet (fail); try go_wp2)
         go_ret
         exact ⟨pE, pB⟩
        rw [if_neg c40] at H
        have c40b0 : decide ((rd t969 x15_2) < (rd t979 x15_2)) = false := decide_eq_false c40
        clear c40
        have H' := Aside0.mk H
        clear H
        obtain ⟨Ao43, co43, eo43⟩ := Kd.R_slice HO_11.out
        subst eo43
        have p987 : 0 ≤ (x15_2 : Int) := of_decide_eq_true pA
        have q987 : x15_2 < (t979.length : Int) := of_decide_eq_true pA
        obtain ⟨ad987, e987, hx987_0⟩ := Kd.at_int (Kd.R_reads' HO_11.out).2.2 x15_2 p987 q987
        cases e987
        replace p987 := eq_true p987
        replace q987 := eq_true q987
        obtain ⟨Ao44, co44, eo44⟩ := Kd.R_slice HO_7.out
        subst eo44
        have p988 : 0 ≤ (x15_2 : Int) := of_decide_eq_true pA
        have q988 : x15_2 < (t969.length : Int) := of_decide_eq_true pA
        obtain ⟨ad988, e988, hx988_0⟩ := Kd.at_int (Kd.R_reads' HO_7.out).2.2 x15_2 p988 q988
        cases e988
        replace p988 := eq_true p988
        replace q988 := eq_true q988
        go_wp2
        repeat (go_quiet (fail); try go_wp2)
        go_roundg kj30
        case measure => have := HJ5.out; have := HK2.out; have := HJ30.out; omega
        case rel => exact ⟨(wrap64 (x15_2 + 1)), pF, H', ⟨by have := HJ5.out; have := HK2.out; have := HJ30.out; omega⟩, ⟨pR HO_7⟩, ⟨pR HO_11⟩, ⟨pR HO_13⟩, ⟨pB⟩⟩
       replace c36 := Bool.eq_false_iff.mpr c36
       subst c36
       have H1 : (if t980 = true then (if t984 = true then (if (t979.length : Int) = (t969.length : Int) then ((laws_sumOf.f kj30 t983).bind fun t989 => (some (t989 == 0))) else (some false)) else (some false)) else (some false)) = some r := by rw [if_neg (show ¬ (false = true) by decide)] at H; exact H
       clear H
       have H := H1
       clear H1
       rcases (Classical.em (t980 = true)).symm with c45 | c45
       ·replace c45 := Bool.eq_false_iff.mpr c45
        subst c45
        have H1 : (some false) = some r := by rw [if_neg (show ¬ (false = true) by decide)] at H; exact H
        clear H
        have H := H1
        clear H1
        obtain rfl := Option.some.inj H
        go_wp2
        repeat (go_quiet (fail); try go_wp2)
        go_ret
        exact ⟨pE, pB⟩

       subst c45
       have H1 : (if t984 = true then (if (t979.length : Int) = (t969.length : Int) then ((laws_sumOf.f kj30 t983).bind fun t989 => (some (t989 == 0))) else (some false)) else (some false)) = some r := by rw [if_pos rfl] at H; exact H
       clear H
       have H := H1
       clear H1
       rcases (Classical.em (t984 = true)).symm with c46 | c46
       ·replace c46 := Bool.eq_false_iff.mpr c46
        subst c46
        have H1 : (some false) = some r := by rw [if_neg (show ¬ (false = true) by decide)] at H; exact H
        clear H
        have H := H1
        clear H1
        obtain rfl := Option.some.inj H
        go_wp2
        repeat (go_quiet (fail); try go_wp2)
        go_ret
        exact ⟨pE, pB⟩
       subst c46
       have H1 : (if (t979.length : Int) = (t969.length : Int) then ((laws_sumOf.f kj30 t983).bind fun t989 => (some (t989 == 0))) else (some false)) = some r := by rw [if_pos rfl] at H; exact H
       clear H
       have H := H1
       clear H1
       rcases (Classical.em ((t979.length : Int) = (t969.length : Int))).symm with c47 | c47
       ·rw [if_neg c47] at H
        have c47b0 : ((t979.length : Int) == (t969.length : Int)) = false := beq_eq_false_iff_ne.mpr c47
        have c47b1 : ((t979.length : Int) != (t969.length : Int)) = true := bne_iff_ne.mpr c47
        have c47b2 : (t979.length == t969.length) = false := by first | simpa using c47 | (simp at c47 ⊢; omega)
        obtain rfl := Option.some.inj H
        obtain ⟨Ao52, co52, eo52⟩ := Kd.R_slice HO_11.out
        subst eo52
        obtain ⟨Ao53, co53, eo53⟩ := Kd.R_slice HO_7.out
        subst eo53
        go_wp2
        repeat (go_quiet (fail); try go_wp2)
        go_ret
        exact ⟨pE, pB⟩
       rw [if_pos c47] at H
       have c47b0 : ((t979.length : Int) == (t969.length : Int)) = true := beq_iff_eq.mpr c47
       have c47b1 : ((t979.length : Int) != (t969.length : Int)) = false := bne_eq_false_iff_eq.mpr c47
       have c47b2 : (t979.length == t969.length) = true := by first | simpa using c47 | (simp at c47 ⊢; omega)
       clear c47
       replace H := Option.bind_eq_some_iff.mp H
       obtain ⟨t989, A480, H⟩ := H
       replace H : (some (t989 == 0)) = some r := H
       have A48 := Aside0.mk A480
       clear A480
       obtain rfl := Option.some.inj H
       obtain ⟨Ao49, co49, eo49⟩ := Kd.R_slice HO_11.out
       subst eo49
       obtain ⟨Ao50, co50, eo50⟩ := Kd.R_slice HO_7.out
       subst eo50
       obtain ⟨Ao51, co51, eo51⟩ := Kd.R_slice HO_13.out
       subst eo51
       go_wp2_with (first | (go_at_call 50; (with_reducible refine (laws_sumOf.calls kj30 _ _ t983 t989 _ ?side1 ?side2 A48.out).mono ?_); (case side1 => exact pS ((Kd.R_reads' HO_13.out).2.2)); (case side2 => exact (Kd.R_reads' HO_13.out).2.1); rintro e w' ⟨rfl, ⟨nd, rfl⟩⟩; (try exact pD)))
       repeat (go_quiet (first | (go_at_call 50; (with_reducible refine (laws_sumOf.calls kj30 _ _ t983 t989 _ ?side1 ?side2 A48.out).mono ?_); (case side1 => exact pS ((Kd.R_reads' HO_13.out).2.2)); (case side2 => exact (Kd.R_reads' HO_13.out).2.1); rintro e w' ⟨rfl, ⟨nd, rfl⟩⟩; (try exact pD))); try go_wp2_with (first | (go_at_call 50; (with_reducible refine (laws_sumOf.calls kj30 _ _ t983 t989 _ ?side1 ?side2 A48.out).mono ?_); (case side1 => exact pS ((Kd.R_reads' HO_13.out).2.2)); (case side2 => exact (Kd.R_reads' HO_13.out).2.1); rintro e w' ⟨rfl, ⟨nd, rfl⟩⟩; (try exact pD))))
       go_ret
       exact ⟨pE, pB⟩
/-- THE ONE PURE STATEMENT of laws_FnNeedsMore: yours. -/
def laws_FnNeedsMore.Pure : Prop := ∀ (l0 : List Int), l0.length ≤ maxLen → l0.length * 1 ≤ 140737488351232 → (∀ x ∈ l0, (Lit.int .u8 x).wf = true) → ∃ k, laws_FnNeedsMore.f k l0 = some true
theorem laws_FnNeedsMore.walk (P : laws_FnNeedsMore.Pure) (a0 : Option Addr) (len0 cap0 : Nat) (z0 : List Int) (w : World) (w0 : (a0 = none ∧ len0 = 0 ∧ cap0 = 0 ∧ z0 = []) ∨ ∃ x, a0 = some x ∧ len0 ≤ cap0 ∧ cap0 ≤ maxLen ∧ z0.length = cap0 ∧ (∀ i, i < z0.length → w.cell? (x.add i) = some (.int .u8 (z0.getD i 0))) ∧ ∀ n ∈ z0, (Lit.int .u8 n).wf = true) (y0 : len0 * 1 ≤ 140737488351232) :
  Calls Try.prog 16 #[.slice a0 len0 cap0] w fun e w' => e = .returned (.bool true) ∧ Below w.heap.size w w' := by
 obtain ⟨l0, rfl, hr0, hm0, hw0, hc0⟩ := ReadsInt.ofRowC w0
 obtain ⟨k, h⟩ := P l0 hm0 y0 hw0
 refine (laws_FnNeedsMore.calls k _ _ l0 true w (Kd.C_of_reads (d := (0 : Int)) (h1 := fun _ => rfl) hr0) hc0 h).mono ?_
 rintro e w' ⟨rfl, hd⟩
 exact ⟨rfl, hd⟩

end Go.Proofs.Ytclldijjbmnkeaa.Q
