-- Written by the kit's print.py for all laws of the seat at once (one namespace), by a program of this session.
import Derived.Test.YtclldijjbmnkeaaQx0
import Derived.Test.YtclldijjbmnkeaaQx5
import Derived.Test.YtclldijjbmnkeaaQx10
import Derived.Test.YtclldijjbmnkeaaQx11
namespace Go.Proofs.Ytclldijjbmnkeaa.Q
open Go.RowKit Go.Proofs.YtclldijjbmnkeaaW.PrintWords Go.Proofs.YtclldijjbmnkeaaW.PrintLast Go.Proofs.YtclldijjbmnkeaaW.PrintMore
attribute [local go_sem] max2_int min2_int max_two min_two max_three min_three max_four min_four   -- for this text's walks alone
set_option linter.unusedVariables false
set_option linter.unusedSimpArgs false

/-! ### impl_DishesValid: function 40 -/
mutual
def impl_DishesValid.j0 : Nat → List (S29) → List (S63) → Bool → Option (Bool)
 | 0, _, _, _ => none
 | k + 1, x0, x1, x18 => if x18 = true then (some false) else (impl_DishesValid.l0 k x0 x1 x0 (x0.length : Int) 0)
def impl_DishesValid.l0 : Nat → List (S29) → List (S63) → List (S29) → Int → Int → Option (Bool)
 | 0, _, _, _, _, _ => none
 | k + 1, x0, x1, x19, x20, x21 => if x21 < x20 then (if 0 ≤ x21 then (if x21 < (x19.length : Int) then ((impl_isId.f ((rd_T29 x19 x21).f0)).bind fun t398 => (if t398 = true then (if x21 > 0 then (if 0 ≤ (wrap64 (x21 - 1)) then (if (wrap64 (x21 - 1)) < (x0.length : Int) then (if ((rd_T29 x0 (wrap64 (x21 - 1))).f0) ≥ ((rd_T29 x19 x21).f0) then (impl_DishesValid.j2 k x0 x1 x21 x19 x20 x21 true ((rd_T29 x19 x21).f0) ((rd_T29 x19 x21).f1) ((rd_T29 x19 x21).f2)) else ((impl_within.f ((rd_T29 x19 x21).f1) 1 12).bind fun t400 => (if t400 = true then ((impl_within.f (((rd_T29 x19 x21).f2).length : Int) 1 5).bind fun t401 => (impl_DishesValid.j2 k x0 x1 x21 x19 x20 x21 (!t401) ((rd_T29 x19 x21).f0) ((rd_T29 x19 x21).f1) ((rd_T29 x19 x21).f2))) else (impl_DishesValid.j2 k x0 x1 x21 x19 x20 x21 true ((rd_T29 x19 x21).f0) ((rd_T29 x19 x21).f1) ((rd_T29 x19 x21).f2))))) else (none)) else (none)) else ((impl_within.f ((rd_T29 x19 x21).f1) 1 12).bind fun t402 => (if t402 = true then ((impl_within.f (((rd_T29 x19 x21).f2).length : Int) 1 5).bind fun t403 => (impl_DishesValid.j2 k x0 x1 x21 x19 x20 x21 (!t403) ((rd_T29 x19 x21).f0) ((rd_T29 x19 x21).f1) ((rd_T29 x19 x21).f2))) else (impl_DishesValid.j2 k x0 x1 x21 x19 x20 x21 true ((rd_T29 x19 x21).f0) ((rd_T29 x19 x21).f1) ((rd_T29 x19 x21).f2))))) else (impl_DishesValid.j2 k x0 x1 x21 x19 x20 x21 true ((rd_T29 x19 x21).f0) ((rd_T29 x19 x21).f1) ((rd_T29 x19 x21).f2)))) else (none)) else (none)) else (some true)
def impl_DishesValid.j2 : Nat → List (S29) → List (S63) → Int → List (S29) → Int → Int → Bool → Int → Int → List (S55) → Option (Bool)
 | 0, _, _, _, _, _, _, _, _, _, _ => none
 | k + 1, x0, x1, x5, x19, x20, x21, x57, x398000, x398001, x398002 => if x57 = true then (some false) else (impl_DishesValid.l1 k x0 x1 x5 x19 x20 x21 x398002 (x398002.length : Int) 0)
def impl_DishesValid.l1 : Nat → List (S29) → List (S63) → Int → List (S29) → Int → Int → List (S55) → Int → Int → Option (Bool)
 | 0, _, _, _, _, _, _, _, _, _ => none
 | k + 1, x0, x1, x5, x19, x20, x21, x59, x60, x61 => if x61 < x60 then (if 0 ≤ x61 then (if x61 < (x59.length : Int) then (if ((rd_T55 x59 x61).f1) = 0 then ((impl_foodPlace.f x1 ((rd_T55 x59 x61).f0)).bind fun t406 => (if t406 ≥ 0 then ((impl_within.f ((rd_T55 x59 x61).f2) 1 999).bind fun t407 => (impl_DishesValid.j4 k x0 x1 x5 t407 x19 x20 x21 x59 x60 x61 ((rd_T55 x59 x61).f0) ((rd_T55 x59 x61).f1) ((rd_T55 x59 x61).f2))) else (impl_DishesValid.j4 k x0 x1 x5 false x19 x20 x21 x59 x60 x61 ((rd_T55 x59 x61).f0) ((rd_T55 x59 x61).f1) ((rd_T55 x59 x61).f2)))) else (impl_DishesValid.j4 k x0 x1 x5 false x19 x20 x21 x59 x60 x61 ((rd_T55 x59 x61).f0) ((rd_T55 x59 x61).f1) ((rd_T55 x59 x61).f2))) else (none)) else (none)) else (impl_DishesValid.l0 k x0 x1 x19 x20 (wrap64 (x21 + 1)))
def impl_DishesValid.j4 : Nat → List (S29) → List (S63) → Int → Bool → List (S29) → Int → Int → List (S55) → Int → Int → Int → Int → Int → Option (Bool)
 | 0, _, _, _, _, _, _, _, _, _, _, _, _, _ => none
 | k + 1, x0, x1, x5, x9, x19, x20, x21, x59, x60, x61, x406000, x406001, x406002 => if x406000 = 0 then (if 0 ≤ x5 then (if x5 ≤ (x0.length : Int) then ((impl_DishesFind.f (x0.take (x5 : Int).toNat) x406001).bind fun t412 => (if t412 ≥ 0 then ((impl_within.f x406002 1 9).bind fun t413 => (if x9 = true then (impl_DishesValid.l1 k x0 x1 x5 x19 x20 x21 x59 x60 (wrap64 (x61 + 1))) else (if t413 = true then (impl_DishesValid.l1 k x0 x1 x5 x19 x20 x21 x59 x60 (wrap64 (x61 + 1))) else (some false)))) else (if x9 = true then (impl_DishesValid.l1 k x0 x1 x5 x19 x20 x21 x59 x60 (wrap64 (x61 + 1))) else (some false)))) else (none)) else (none)) else (if x9 = true then (impl_DishesValid.l1 k x0 x1 x5 x19 x20 x21 x59 x60 (wrap64 (x61 + 1))) else (some false))
end
def impl_DishesValid.f (k : Nat) (l0 : List (S29)) (l1 : List (S63)) : Option (Bool) := (impl_FoodsValid.f k l1).bind fun t395 => (if t395 = true then (impl_DishesValid.j0 k l0 l1 (decide ((l0.length : Int) > 4))) else (impl_DishesValid.j0 k l0 l1 true))
theorem impl_DishesValid.mono_l : ∀ k, (∀ y0 y1 y2, LeO (impl_DishesValid.j0 k y0 y1 y2) (impl_DishesValid.j0 (k + 1) y0 y1 y2)) ∧ (∀ y0 y1 y2 y3 y4, LeO (impl_DishesValid.l0 k y0 y1 y2 y3 y4) (impl_DishesValid.l0 (k + 1) y0 y1 y2 y3 y4)) ∧ (∀ y0 y1 y2 y3 y4 y5 y6 y7 y8 y9, LeO (impl_DishesValid.j2 k y0 y1 y2 y3 y4 y5 y6 y7 y8 y9) (impl_DishesValid.j2 (k + 1) y0 y1 y2 y3 y4 y5 y6 y7 y8 y9)) ∧ (∀ y0 y1 y2 y3 y4 y5 y6 y7 y8, LeO (impl_DishesValid.l1 k y0 y1 y2 y3 y4 y5 y6 y7 y8) (impl_DishesValid.l1 (k + 1) y0 y1 y2 y3 y4 y5 y6 y7 y8)) ∧ (∀ y0 y1 y2 y3 y4 y5 y6 y7 y8 y9 y10 y11 y12, LeO (impl_DishesValid.j4 k y0 y1 y2 y3 y4 y5 y6 y7 y8 y9 y10 y11 y12) (impl_DishesValid.j4 (k + 1) y0 y1 y2 y3 y4 y5 y6 y7 y8 y9 y10 y11 y12))
 | 0 => ⟨fun _ _ _ r h => by simp [impl_DishesValid.j0] at h, fun _ _ _ _ _ r h => by simp [impl_DishesValid.l0] at h, fun _ _ _ _ _ _ _ _ _ _ r h => by simp [impl_DishesValid.j2] at h, fun _ _ _ _ _ _ _ _ _ r h => by simp [impl_DishesValid.l1] at h, fun _ _ _ _ _ _ _ _ _ _ _ _ _ r h => by simp [impl_DishesValid.j4] at h⟩
 | k + 1 => by
  obtain ⟨ih0, ih1, ih2, ih3, ih4⟩ := impl_DishesValid.mono_l k
  refine ⟨?_, ?_, ?_, ?_, ?_⟩
  ·intro y0 y1 y2
   unfold impl_DishesValid.j0
   repeat' first
   | (with_reducible exact ih0 _ _ _)
   | (with_reducible exact ih1 _ _ _ _ _)
   | (with_reducible exact ih2 _ _ _ _ _ _ _ _ _ _)
   | (with_reducible exact ih3 _ _ _ _ _ _ _ _ _)
   | (with_reducible exact ih4 _ _ _ _ _ _ _ _ _ _ _ _ _)
   | (with_reducible exact impl_FoodsValid.mono _ _)
   | (with_reducible exact LeO.refl _)
   | (with_reducible exact LeO.none _)
   | (with_reducible refine LeO.ite ?_ ?_)
   | (with_reducible refine LeO.bind ?_ (fun _ => ?_))
   | exact ih0 _ _ _
   | exact ih1 _ _ _ _ _
   | exact ih2 _ _ _ _ _ _ _ _ _ _
   | exact ih3 _ _ _ _ _ _ _ _ _
   | exact ih4 _ _ _ _ _ _ _ _ _ _ _ _ _
   | exact impl_FoodsValid.mono _ _
   | exact LeO.none _
   | refine LeO.ite ?_ ?_
   | refine LeO.bind ?_ (fun _ => ?_)
  ·intro y0 y1 y2 y3 y4
   unfold impl_DishesValid.l0
   repeat' first
   | (with_reducible exact ih0 _ _ _)
   | (with_reducible exact ih1 _ _ _ _ _)
   | (with_reducible exact ih2 _ _ _ _ _ _ _ _ _ _)
   | (with_reducible exact ih3 _ _ _ _ _ _ _ _ _)
   | (with_reducible exact ih4 _ _ _ _ _ _ _ _ _ _ _ _ _)
   | (with_reducible exact impl_FoodsValid.mono _ _)
   | (with_reducible exact LeO.refl _)
   | (with_reducible exact LeO.none _)
   | (with_reducible refine LeO.ite ?_ ?_)
   | (with_reducible refine LeO.bind ?_ (fun _ => ?_))
   | exact ih0 _ _ _
   | exact ih1 _ _ _ _ _
   | exact ih2 _ _ _ _ _ _ _ _ _ _
   | exact ih3 _ _ _ _ _ _ _ _ _
   | exact ih4 _ _ _ _ _ _ _ _ _ _ _ _ _
   | exact impl_FoodsValid.mono _ _
   | exact LeO.none _
   | refine LeO.ite ?_ ?_
   | refine LeO.bind ?_ (fun _ => ?_)
  ·intro y0 y1 y2 y3 y4 y5 y6 y7 y8 y9
   unfold impl_DishesValid.j2
   repeat' first
   | (with_reducible exact ih0 _ _ _)
   | (with_reducible exact ih1 _ _ _ _ _)
   | (with_reducible exact ih2 _ _ _ _ _ _ _ _ _ _)
   | (with_reducible exact ih3 _ _ _ _ _ _ _ _ _)
   | (with_reducible exact ih4 _ _ _ _ _ _ _ _ _ _ _ _ _)
   | (with_reducible exact impl_FoodsValid.mono _ _)
   | (with_reducible exact LeO.refl _)
   | (with_reducible exact LeO.none _)
   | (with_reducible refine LeO.ite ?_ ?_)
   | (with_reducible refine LeO.bind ?_ (fun _ => ?_))
   | exact ih0 _ _ _
   | exact ih1 _ _ _ _ _
   | exact ih2 _ _ _ _ _ _ _ _ _ _
   | exact ih3 _ _ _ _ _ _ _ _ _
   | exact ih4 _ _ _ _ _ _ _ _ _ _ _ _ _
   | exact impl_FoodsValid.mono _ _
   | exact LeO.none _
   | refine LeO.ite ?_ ?_
   | refine LeO.bind ?_ (fun _ => ?_)
  ·intro y0 y1 y2 y3 y4 y5 y6 y7 y8
   unfold impl_DishesValid.l1
   repeat' first
   | (with_reducible exact ih0 _ _ _)
   | (with_reducible exact ih1 _ _ _ _ _)
   | (with_reducible exact ih2 _ _ _ _ _ _ _ _ _ _)
   | (with_reducible exact ih3 _ _ _ _ _ _ _ _ _)
   | (with_reducible exact ih4 _ _ _ _ _ _ _ _ _ _ _ _ _)
   | (with_reducible exact impl_FoodsValid.mono _ _)
   | (with_reducible exact LeO.refl _)
   | (with_reducible exact LeO.none _)
   | (with_reducible refine LeO.ite ?_ ?_)
   | (with_reducible refine LeO.bind ?_ (fun _ => ?_))
   | exact ih0 _ _ _
   | exact ih1 _ _ _ _ _
   | exact ih2 _ _ _ _ _ _ _ _ _ _
   | exact ih3 _ _ _ _ _ _ _ _ _
   | exact ih4 _ _ _ _ _ _ _ _ _ _ _ _ _
   | exact impl_FoodsValid.mono _ _
   | exact LeO.none _
   | refine LeO.ite ?_ ?_
   | refine LeO.bind ?_ (fun _ => ?_)
  ·intro y0 y1 y2 y3 y4 y5 y6 y7 y8 y9 y10 y11 y12
   unfold impl_DishesValid.j4
   repeat' first
   | (with_reducible exact ih0 _ _ _)
   | (with_reducible exact ih1 _ _ _ _ _)
   | (with_reducible exact ih2 _ _ _ _ _ _ _ _ _ _)
   | (with_reducible exact ih3 _ _ _ _ _ _ _ _ _)
   | (with_reducible exact ih4 _ _ _ _ _ _ _ _ _ _ _ _ _)
   | (with_reducible exact impl_FoodsValid.mono _ _)
   | (with_reducible exact LeO.refl _)
   | (with_reducible exact LeO.none _)
   | (with_reducible refine LeO.ite ?_ ?_)
   | (with_reducible refine LeO.bind ?_ (fun _ => ?_))
   | exact ih0 _ _ _
   | exact ih1 _ _ _ _ _
   | exact ih2 _ _ _ _ _ _ _ _ _ _
   | exact ih3 _ _ _ _ _ _ _ _ _
   | exact ih4 _ _ _ _ _ _ _ _ _ _ _ _ _
   | exact impl_FoodsValid.mono _ _
   | exact LeO.none _
   | refine LeO.ite ?_ ?_
   | refine LeO.bind ?_ (fun _ => ?_)
theorem impl_DishesValid.mono : ∀ a0 a1 k, LeO (impl_DishesValid.f k a0 a1) (impl_DishesValid.f (k + 1) a0 a1) := by
 intro a0 a1 k
 obtain ⟨ih0, ih1, ih2, ih3, ih4⟩ := impl_DishesValid.mono_l k
 unfold impl_DishesValid.f
 repeat' first
   | (with_reducible exact ih0 _ _ _)
   | (with_reducible exact ih1 _ _ _ _ _)
   | (with_reducible exact ih2 _ _ _ _ _ _ _ _ _ _)
   | (with_reducible exact ih3 _ _ _ _ _ _ _ _ _)
   | (with_reducible exact ih4 _ _ _ _ _ _ _ _ _ _ _ _ _)
   | (with_reducible exact impl_FoodsValid.mono _ _)
   | (with_reducible exact LeO.refl _)
   | (with_reducible exact LeO.none _)
   | (with_reducible refine LeO.ite ?_ ?_)
   | (with_reducible refine LeO.bind ?_ (fun _ => ?_))
   | exact ih0 _ _ _
   | exact ih1 _ _ _ _ _
   | exact ih2 _ _ _ _ _ _ _ _ _ _
   | exact ih3 _ _ _ _ _ _ _ _ _
   | exact ih4 _ _ _ _ _ _ _ _ _ _ _ _ _
   | exact impl_FoodsValid.mono _ _
   | exact LeO.none _
   | refine LeO.ite ?_ ?_
   | refine LeO.bind ?_ (fun _ => ?_)
def impl_DishesValid.T6 : Bool × List (List Nat × List Nat) := (true, [([], []), ([0], [0]), ([1], [1]), ([2], [2]), ([3, 2], [3]), ([4], [4]), ([5, 4], [4, 5]), ([6, 4, 4], [4, 6]), ([7], [7]), ([7], [7]), ([9, 7], [7, 9]), ([8, 10, 7], [7, 8, 10]), ([11, 7], [7, 11]), ([12, 7], [7, 12]), ([7], [7]), ([14, 7], [7, 14]), ([13, 15, 7], [7, 13, 15]), ([7, 16, 4], [4, 7, 16]), ([4, 17], [4, 17]), ([18, 7], [18]), ([19], [19]), ([20, 19], [19, 20]), ([21, 19, 19], [19, 21]), ([22, 19], [19, 22]), ([19, 23], [19, 23]), ([24, 22], [24]), ([25], [25]), ([26, 25], [25, 26]), ([27, 25], [25, 27]), ([28, 25, 25], [25, 28]), ([29, 25], [25, 29]), ([25, 30], [25, 30])])
def impl_DishesValid.B6 : List Nat := [0, 1, 3, 7, 15, 31, 63, 127, 255, 255, 767, 2047, 4095, 8191, 255, 16639, 65535, 131071, 262143, 524287, 1048575, 2097151, 4194303, 8388607, 16777215, 33554431, 67108863, 134217727, 268435455, 536870911, 1073741823, 2147483647]
theorem impl_DishesValid.tab6 : rtab .any (opsOf Try.f40 6) = impl_DishesValid.T6 := by kernel_rfl
theorem impl_DishesValid.bits6 : waitsOk impl_DishesValid.T6.2 impl_DishesValid.B6 = true := by kernel_rfl
def impl_DishesValid.T12 : Bool × List (List Nat × List Nat) := (true, [([], []), ([0], [0]), ([1], [1]), ([2], [2]), ([3], [3]), ([3], [3]), ([4, 5, 3], [3, 4, 5]), ([3], [3]), ([7, 3], [3, 7]), ([6, 8, 3, 3], [3, 6, 8]), ([9, 3], [3, 9]), ([3, 10], [3, 10]), ([11, 9], [11]), ([12], [12]), ([13, 12], [12, 13]), ([14, 12, 12], [12, 14]), ([12, 15], [12, 15]), ([16, 15, 0, 1, 2, 3, 4, 5, 6, 7, 8, 9, 10, 11, 12, 13, 14, 15, 16], [16])])
def impl_DishesValid.B12 : List Nat := [0, 1, 3, 7, 15, 15, 63, 15, 143, 511, 1023, 2047, 4095, 8191, 16383, 32767, 65535, 131071]
theorem impl_DishesValid.tab12 : rtab .any (opsOf Try.f40 12) = impl_DishesValid.T12 := by kernel_rfl
theorem impl_DishesValid.bits12 : waitsOk impl_DishesValid.T12.2 impl_DishesValid.B12 = true := by kernel_rfl
@[reducible] def F40.b0 : Array Bool := #[true, true, true, true, true, true, true, true, true, false, false, false, false, false, false, false, false, false]
@[reducible] def F40.b1 : Array Bool := #[true, true, true, false, false, false, false, false, false, false, false, false, false, false, false, false, false, false, false, false, false, false, false, false, false, false, false, false, false, false, false, false]
@[reducible] def F40.b2 : Array Bool := #[true, true, true, true, true, true, true, true, true, true, true, true, false, false, false, false, false, false, false, false, false, false, false, false, false, false, false, false, false, false, false, false]
@[reducible] def F40.b3 : Array Bool := #[true, true, true, true, true, true, true, true, true, true, true, true, true, true, true, true, true, true, true, true, true, false, false, false, false, false, false, false, false, false, false, false]
@[reducible] def F40.b4 : Array Bool := #[true, true, true, true, true, true, true, true, true, true, false, false, false, false, false, false, false, false]
@[reducible] def F40.b5 : Array Bool := #[true, true, true, true, true, true, true, true, true, true, true, true, true, true, true, true, true, true, true, true, true, true, true, true, true, true, true, true, true, true, false, false]
@[reducible] def F40.b6 : Array Bool := #[true, true, true, true, true, true, true, true, true, true, true, true, true, true, true, true, true, true, true, true, true, true, true, false, false, false, false, false, false, false, false, false]
@[reducible] def F40.b7 : Array Bool := #[true, true, true, true, true, true, true, true, true, true, true, true, true, true, true, true, false, false]
@[reducible] def F40.b8 : Array Bool := #[true, true, true, true, true, true, true, true, true, true, true, true, true, true, true, true, true, true, true, true, true, true, true, true, true, true, true, true, true, true, true, true]
@[reducible] def F40.b9 : Array Bool := #[true, true, true, true, true, true, true, true, true, true, true, true, true, true, true, true, true, true]
theorem F40.q0 {P : Prop} (h : P := by exact ⟨(blk_cell BK397.out 0).trans rfl, (blk_cell BK397.out 1).trans rfl, (blk_cell BK397.out 2).trans rfl, ((HB.out.cell (World.block_lt_of_cell? w _ hw399_0)).trans hw399_0), ((HB.out.cell (World.block_lt_of_cell? w _ hw399_1)).trans hw399_1), ((HB.out.cell (World.block_lt_of_cell? w _ hw399_2)).trans hw399_2)⟩) : P := h
theorem F40.q1 {P : Prop} (h : P := by repeat (first | (with_reducible first | exact HB.out | apply below_alloc | apply pw_below_drewN | apply below_drew1 | refine below_set ?_ GE397.out | refine below_set ?_ GE405.out) | exact HB.out)) : P := h
theorem F40.q2 {P : Prop} (h : P := by (with_reducible repeat (first | refine blk_drewN ?_ _ | refine blk_drew ?_ | refine blk_alloc ?_ _)); refine blk_put (cs := #[.int .i64 ((rd_T55 ((rd_T29 l0 x21_2).f2) x61_4).f0), .int .i64 ((rd_T55 ((rd_T29 l0 x21_2).f2) x61_4).f1), .int .i64 0]) ?_ 2 _ rfl; (with_reducible repeat (first | refine blk_drewN ?_ _ | refine blk_drew ?_ | refine blk_alloc ?_ _)); refine blk_put (cs := #[.int .i64 ((rd_T55 ((rd_T29 l0 x21_2).f2) x61_4).f0), .int .i64 0, .int .i64 0]) ?_ 1 _ rfl; (with_reducible repeat (first | refine blk_drewN ?_ _ | refine blk_drew ?_ | refine blk_alloc ?_ _)); refine blk_put (cs := #[.int .i64 0, .int .i64 0, .int .i64 0]) ?_ 0 _ rfl; (with_reducible repeat (first | refine blk_drewN ?_ _ | refine blk_drew ?_ | refine blk_alloc ?_ _)); exact BK405.out) : P := h
theorem F40.q3 {P : Prop} (h : P := by exact ⟨(blk_cell BK405.out 0).trans rfl, (blk_cell BK405.out 1).trans rfl, (blk_cell BK405.out 2).trans rfl⟩) : P := h
theorem F40.q4 {P : Prop} (h : P := by rintro w' ⟨s0, s1, s2, s3, s4, s5⟩; go_simp; with_reducible rfl) : P := h
theorem F40.q5 {P : Prop} (h : P := by (with_reducible repeat (first | refine blk_drewN ?_ _ | refine blk_drew ?_ | refine blk_alloc ?_ _)); refine blk_far ?_ NB397_405.out _; (with_reducible repeat (first | refine blk_drewN ?_ _ | refine blk_drew ?_ | refine blk_alloc ?_ _)); refine blk_far ?_ NB397_405.out _; (with_reducible repeat (first | refine blk_drewN ?_ _ | refine blk_drew ?_ | refine blk_alloc ?_ _)); refine blk_far ?_ NB397_405.out _; (with_reducible repeat (first | refine blk_drewN ?_ _ | refine blk_drew ?_ | refine blk_alloc ?_ _)); exact BK397.out) : P := h
theorem F40.q6 {P : Prop} (h : P := by exact ⟨(blk_cell BK397.out 0).trans rfl, (blk_cell BK397.out 1).trans rfl, (blk_cell BK397.out 2).trans rfl⟩) : P := h
set_option maxHeartbeats 8000000 in
set_option maxRecDepth 100000 in
theorem impl_DishesValid.calls (k : Nat) (A0 : Option Addr) (c0 : Nat) (l0 : List (S29)) (A1 : Option Addr) (c1 : Nat) (l1 : List (S63)) (r : Bool) (w : World) (hr0 : Kd.C k29 w A0 l0.length l0) (hc0 : l0.length ≤ c0) (hr1 : Kd.C k63 w A1 l1.length l1) (hc1 : l1.length ≤ c1) (h : impl_DishesValid.f k l0 l1 = some r) :
  Calls Try.prog 40 #[.slice A0 l0.length c0, .slice A1 l1.length c1] w fun e w' => e = .returned (.bool r) ∧ Below w.heap.size w w' := by
 have hu29 := Try.underlying29
 have hu55 := Try.underlying55
 have HR0 := Aside0.mk hr0
 have HC0 := Aside0.mk hc0
 clear hr0 hc0
 have HR1 := Aside0.mk hr1
 have HC1 := Aside0.mk hc1
 clear hr1 hc1
 have HB := Aside0.mk (Below.refl w.heap.size w)
 have H : ((impl_FoodsValid.f k l1).bind fun t395 => (if t395 = true then (impl_DishesValid.j0 k l0 l1 (decide ((l0.length : Int) > 4))) else (impl_DishesValid.j0 k l0 l1 true))) = some r := h
 clear h
 have HC3 := Aside0.mk H
 clear H
 go_enter Try.func40, Try.ntmps40
 go_upto_region 1 with (fail)
 go_cut [18] (fun v18 wc => ∃ (kq : Nat) (x18_2 : Bool), v18 = .bool x18_2 ∧ Aside0 (impl_DishesValid.j0 kq l0 l1 x18_2 = some r) ∧ Aside0 (kq ≤ k) ∧ Aside0 (Below w.heap.size w wc))
 case first =>
  have H := HC3.out
  clear HC3
  replace H := Option.bind_eq_some_iff.mp H
  obtain ⟨t395, A40, H⟩ := H
  replace H : (if t395 = true then (impl_DishesValid.j0 k l0 l1 (decide ((l0.length : Int) > 4))) else (impl_DishesValid.j0 k l0 l1 true)) = some r := H
  have A4 := Aside0.mk A40
  clear A40
  by_cases c5 : t395 = true
  ·subst c5
   have H1 : (impl_DishesValid.j0 k l0 l1 (decide ((l0.length : Int) > 4))) = some r := by rw [if_pos rfl] at H; exact H
   clear H
   have H := H1
   clear H1
   have H' := Aside0.mk H
   clear H
   go_wp2_with (first | ((with_reducible refine gate_callee (f := 79) rfl ?_); refine goesL_ (some 12) rfl rfl Try.func79 pL rfl #[.slice A1 l1.length c1] rfl pM ?_; (with_reducible refine (impl_FoodsValid.calls k _ _ l1 true _ ?side1 ?side2 A4.out).mono ?_); (case side1 => exact pS ((Kd.C_below HR1.out HB.out))); (case side2 => exact HC1.out); rintro e w6 ⟨rfl, hb⟩; refine ⟨_, rfl, ?_⟩; have n0_ := Aside0.mk (below_step pB hb); clear HB; have HB := n0_; clear n0_; (try clear hb); (try clear hb2); (try clear hk); (try clear hi)))
   go_meet
   case rel => exact ⟨_, (decide ((l0.length : Int) > 4)), pF, H', ⟨by first | omega | exact Nat.le_refl _⟩, ⟨pB⟩⟩
  replace c5 := Bool.eq_false_iff.mpr c5
  subst c5
  have H1 : (impl_DishesValid.j0 k l0 l1 true) = some r := by rw [if_neg (show ¬ (false = true) by decide)] at H; exact H
  clear H
  have H := H1
  clear H1
  have H' := Aside0.mk H
  clear H
  go_wp2_with (first | ((with_reducible refine gate_callee (f := 79) rfl ?_); refine goesL_ (some 12) rfl rfl Try.func79 pL rfl #[.slice A1 l1.length c1] rfl pM ?_; (with_reducible refine (impl_FoodsValid.calls k _ _ l1 false _ ?side1 ?side2 A4.out).mono ?_); (case side1 => exact pS ((Kd.C_below HR1.out HB.out))); (case side2 => exact HC1.out); rintro e w7 ⟨rfl, hb⟩; refine ⟨_, rfl, ?_⟩; have n0_ := Aside0.mk (below_step pB hb); clear HB; have HB := n0_; clear n0_; (try clear hb); (try clear hb2); (try clear hk); (try clear hi)))
  go_meet
  case rel => exact ⟨_, (true), pF, H', ⟨by first | omega | exact Nat.le_refl _⟩, ⟨pB⟩⟩
 case rest =>
  clear HC3
  try clear c1
  try clear p2
  try clear c4
  try clear c5
  try clear c7
  obtain ⟨kq, x18_2, rfl, HA, HJ2, HB⟩ := hcut
  cases kq with
  | zero => exact absurd HA.out (by simp [impl_DishesValid.j0])
  | succ kj2 =>
   have H := HA.out
   clear HA
   simp only [impl_DishesValid.j0] at H
   by_cases c8 : x18_2 = true
   ·subst c8
    have H1 : (some false) = some r := by rw [if_pos rfl] at H; exact H
    clear H
    have H := H1
    clear H1
    obtain rfl := Option.some.inj H
    go_wp2
    go_ret
    exact ⟨pE, pB⟩
   replace c8 := Bool.eq_false_iff.mpr c8
   subst c8
   have H1 : (impl_DishesValid.l0 kj2 l0 l1 l0 (l0.length : Int) 0) = some r := by rw [if_neg (show ¬ (false = true) by decide)] at H; exact H
   clear H
   have H := H1
   clear H1
   have H' := Aside0.mk H
   clear H
   go_wp2
   go_loopg [21] kj2 (fun kq v21 w' => ∃ (x21_2 : Int), v21 = .int .i64 x21_2 ∧ Aside0 (impl_DishesValid.l0 kq l0 l1 l0 (l0.length : Int) x21_2 = some r) ∧ Aside0 (kq ≤ kj2) ∧ Aside0 (Below w.heap.size w w'))
   case atStart => exact ⟨(0), pF, H', ⟨Nat.le_refl _⟩, ⟨pB⟩⟩
   case round =>
    clear H'
    try clear c1
    try clear p2
    try clear c4
    try clear c5
    try clear c7
    try clear c8
    try clear p2
    obtain ⟨x21_2, rfl, HA, HK2, HB⟩ := hrel
    cases gk with
    | zero => exact absurd HA.out (by simp [impl_DishesValid.l0])
    | succ k2 =>
     have H := HA.out
     clear HA
     simp only [impl_DishesValid.l0] at H
     rcases (Classical.em (x21_2 < (l0.length : Int))).symm with c9 | c9
     ·rw [if_neg c9] at H
      have c9b0 : decide (x21_2 < (l0.length : Int)) = false := decide_eq_false c9
      clear c9
      obtain rfl := Option.some.inj H
      go_wp2
      go_ret
      exact ⟨pE, pB⟩

     rw [if_pos c9] at H
     have c9b0 : decide (x21_2 < (l0.length : Int)) = true := decide_eq_true c9
     clear c9
     rcases (Classical.em (0 ≤ x21_2)).symm with c10 | c10
     ·rw [if_neg c10] at H
      exact absurd H (by simp)
     rw [if_pos c10] at H
     have c10b0 : decide (0 ≤ x21_2) = true := decide_eq_true c10
     clear c10
     rcases (Classical.em (x21_2 < (l0.length : Int))).symm with c11 | c11
     ·rw [if_neg c11] at H
      exact absurd H (by simp)
     rw [if_pos c11] at H
     have c11b0 : decide (x21_2 < (l0.length : Int)) = true := decide_eq_true c11
     clear c11
     have HC12 := Aside0.mk H
     clear H
     have p396 : 0 ≤ (x21_2 : Int) := of_decide_eq_true pA
     have q396 : x21_2 < (l0.length : Int) := of_decide_eq_true pA
     obtain ⟨ad396, A396_2, c396_2, e396, hx396_0, hx396_1, hx396_2, hl396_2, hi396_2⟩ := at_T29 HR0.out x21_2 p396 q396
     cases e396
     replace hx396_0 := (HB.out.cell (World.block_lt_of_cell? w _ hx396_0)).trans hx396_0
     replace hx396_1 := (HB.out.cell (World.block_lt_of_cell? w _ hx396_1)).trans hx396_1
     replace hx396_2 := (HB.out.cell (World.block_lt_of_cell? w _ hx396_2)).trans hx396_2
     have HR396_2 := Aside0.mk (hi396_2)
     have HC396_2 := Aside0.mk hl396_2
     clear hi396_2 hl396_2
     replace p396 := eq_true p396
     replace q396 := eq_true q396
     go_upto_region 6 with (first | ((with_reducible refine gate_dst (N := 6) rfl ?_); (try (refine gate_guard (by rfl) ?_; dsimp only)); refine box_event ?hg (N := 6) ?hd (cs := #[.int .i64 0, .int .i64 0, .slice none 0 0]) (t := 29) ?hr ?_; (case hd => rfl); (case hg => rfl); (case hr => first | (go_simp; done) | (go_simp; rfl)); intro gb397 hg w13 hbox hb; have n0_ := Aside0.mk (below_step pB hb); have n1_ := Aside0.mk (hbox); have n2_ := Aside0.mk ((by rw [hg]; exact (below_size pB) : w.heap.size ≤ gb397)); have n3_ := Aside0.mk ((by rw [hg]; exact (below_size pB) : w.heap.size ≤ gb397)); clear HB; have HB := n0_; have BK397 := n1_; have GW397 := n2_; have GE397 := n3_; clear n0_ n1_ n2_ n3_; clear hb hbox hg; have hcz14_0 : w13.cell? ⟨gb397, 0, none⟩ = some (.int .i64 0) := (blk_cell BK397.out 0).trans rfl; have hcz14_1 : w13.cell? ⟨gb397, 1, none⟩ = some (.int .i64 0) := (blk_cell BK397.out 1).trans rfl; have hcz14_2 : w13.cell? ⟨gb397, 2, none⟩ = some (.slice none 0 0) := (blk_cell BK397.out 2).trans rfl; have hfz14_0 := blk_frozen BK397.out 0; have hfz14_1 := blk_frozen BK397.out 1; have hfz14_2 := blk_frozen BK397.out 2))
     (try simp only [Act.put, List.setIfInBounds_toArray, List.set_cons_zero, List.set_cons_succ])
     go_cut [57] (fun v57 wc => ∃ (kq : Nat) (x57_11 : Bool), v57 = .bool x57_11 ∧ Aside0 (impl_DishesValid.j2 kq l0 l1 x21_2 l0 (l0.length : Int) x21_2 x57_11 ((rd_T29 l0 x21_2).f0) ((rd_T29 l0 x21_2).f1) ((rd_T29 l0 x21_2).f2) = some r) ∧ Aside0 (kq ≤ k2) ∧ Aside0 (wc.heap[gb397]? = some (.cells #[.int .i64 ((rd_T29 l0 x21_2).f0), .int .i64 ((rd_T29 l0 x21_2).f1), (.slice A396_2 ((rd_T29 l0 x21_2).f2).length c396_2)] 29 (0, 0))) ∧ Aside0 (Below w.heap.size w wc))
     case first =>
      have H := HC12.out
      clear HC12
      replace H := Option.bind_eq_some_iff.mp H
      obtain ⟨t398, A150, H⟩ := H
      replace H : (if t398 = true then (if x21_2 > 0 then (if 0 ≤ (wrap64 (x21_2 - 1)) then (if (wrap64 (x21_2 - 1)) < (l0.length : Int) then (if ((rd_T29 l0 (wrap64 (x21_2 - 1))).f0) ≥ ((rd_T29 l0 x21_2).f0) then (impl_DishesValid.j2 k2 l0 l1 x21_2 l0 (l0.length : Int) x21_2 true ((rd_T29 l0 x21_2).f0) ((rd_T29 l0 x21_2).f1) ((rd_T29 l0 x21_2).f2)) else ((impl_within.f ((rd_T29 l0 x21_2).f1) 1 12).bind fun t400 => (if t400 = true then ((impl_within.f (((rd_T29 l0 x21_2).f2).length : Int) 1 5).bind fun t401 => (impl_DishesValid.j2 k2 l0 l1 x21_2 l0 (l0.length : Int) x21_2 (!t401) ((rd_T29 l0 x21_2).f0) ((rd_T29 l0 x21_2).f1) ((rd_T29 l0 x21_2).f2))) else (impl_DishesValid.j2 k2 l0 l1 x21_2 l0 (l0.length : Int) x21_2 true ((rd_T29 l0 x21_2).f0) ((rd_T29 l0 x21_2).f1) ((rd_T29 l0 x21_2).f2))))) else (none)) else (none)) else ((impl_within.f ((rd_T29 l0 x21_2).f1) 1 12).bind fun t402 => (if t402 = true then ((impl_within.f (((rd_T29 l0 x21_2).f2).length : Int) 1 5).bind fun t403 => (impl_DishesValid.j2 k2 l0 l1 x21_2 l0 (l0.length : Int) x21_2 (!t403) ((rd_T29 l0 x21_2).f0) ((rd_T29 l0 x21_2).f1) ((rd_T29 l0 x21_2).f2))) else (impl_DishesValid.j2 k2 l0 l1 x21_2 l0 (l0.length : Int) x21_2 true ((rd_T29 l0 x21_2).f0) ((rd_T29 l0 x21_2).f1) ((rd_T29 l0 x21_2).f2))))) else (impl_DishesValid.j2 k2 l0 l1 x21_2 l0 (l0.length : Int) x21_2 true ((rd_T29 l0 x21_2).f0) ((rd_T29 l0 x21_2).f1) ((rd_T29 l0 x21_2).f2))) = some r := H
      have A15 := Aside0.mk A150
      clear A150
      rcases (Classical.em (t398 = true)).symm with c16 | c16
      ·replace c16 := Bool.eq_false_iff.mpr c16
       subst c16
       have H1 : (impl_DishesValid.j2 k2 l0 l1 x21_2 l0 (l0.length : Int) x21_2 true ((rd_T29 l0 x21_2).f0) ((rd_T29 l0 x21_2).f1) ((rd_T29 l0 x21_2).f2)) = some r := by rw [if_neg (show ¬ (false = true) by decide)] at H; exact H
       clear H
       have H := H1
       clear H1
       have H' := Aside0.mk H
       clear H
       try go_wp2
       have n0_ : Aside0 ((((w13.setCell ⟨gb397, 0, none⟩ (.int .i64 ((rd_T29 l0 x21_2).f0))).setCell ⟨gb397, 1, none⟩ (.int .i64 ((rd_T29 l0 x21_2).f1))).setCell ⟨gb397, 2, none⟩ (.slice A396_2 ((rd_T29 l0 x21_2).f2).length c396_2)).heap[gb397]? = some (.cells #[.int .i64 ((rd_T29 l0 x21_2).f0), .int .i64 ((rd_T29 l0 x21_2).f1), .slice A396_2 ((rd_T29 l0 x21_2).f2).length c396_2] 29 (0, 0))) := ⟨by (with_reducible repeat (first | refine blk_drewN ?_ _ | refine blk_drew ?_ | refine blk_alloc ?_ _)); refine blk_put (cs := #[.int .i64 ((rd_T29 l0 x21_2).f0), .int .i64 ((rd_T29 l0 x21_2).f1), .slice none 0 0]) ?_ 2 _ rfl; (with_reducible repeat (first | refine blk_drewN ?_ _ | refine blk_drew ?_ | refine blk_alloc ?_ _)); refine blk_put (cs := #[.int .i64 ((rd_T29 l0 x21_2).f0), .int .i64 0, .slice none 0 0]) ?_ 1 _ rfl; (with_reducible repeat (first | refine blk_drewN ?_ _ | refine blk_drew ?_ | refine blk_alloc ?_ _)); refine blk_put (cs := #[.int .i64 0, .int .i64 0, .slice none 0 0]) ?_ 0 _ rfl; (with_reducible repeat (first | refine blk_drewN ?_ _ | refine blk_drew ?_ | refine blk_alloc ?_ _)); exact BK397.out⟩
       have n1_ : Aside0 (Below w.heap.size w (((w13.setCell ⟨gb397, 0, none⟩ (.int .i64 ((rd_T29 l0 x21_2).f0))).setCell ⟨gb397, 1, none⟩ (.int .i64 ((rd_T29 l0 x21_2).f1))).setCell ⟨gb397, 2, none⟩ (.slice A396_2 ((rd_T29 l0 x21_2).f2).length c396_2))) := ⟨pG GE397⟩
       (try clear BK397)
       (try clear HB)
       generalize (((w13.setCell ⟨gb397, 0, none⟩ (.int .i64 ((rd_T29 l0 x21_2).f0))).setCell ⟨gb397, 1, none⟩ (.int .i64 ((rd_T29 l0 x21_2).f1))).setCell ⟨gb397, 2, none⟩ (.slice A396_2 ((rd_T29 l0 x21_2).f2).length c396_2)) = w38 at n0_ n1_ ⊢
       have BK397 := n0_
       have HB := n1_
       clear n0_ n1_
       have n0_ := Aside0.mk (blk_drew BK397.out)
       have n1_ := Aside0.mk (below_drew1 HB.out)
       clear BK397
       clear HB
       have BK397 := n0_
       have HB := n1_
       clear n0_ n1_
       refine start_ (n := 32) (S := fun w' => w'.cell? ⟨gb397, 0, none⟩ = some (.int .i64 ((rd_T29 l0 x21_2).f0)) ∧ w'.cell? ⟨gb397, 1, none⟩ = some (.int .i64 ((rd_T29 l0 x21_2).f1)) ∧ w'.cell? ⟨gb397, 2, none⟩ = some (.slice A396_2 ((rd_T29 l0 x21_2).f2).length c396_2)) (ds := []) #[false, false, false, false, false, false, false, false, false, false, false, false, false, false, false, false, false, false, false, false, false, false, false, false, false, false, false, false, false, false, false, false] pL rfl rfl ⟨(blk_cell BK397.out 0).trans rfl, (blk_cell BK397.out 1).trans rfl, (blk_cell BK397.out 2).trans rfl⟩ (fun hHeld => ?_); refine with_tabW impl_DishesValid.tab6 impl_DishesValid.bits6 (fun HT_ HW_ => ?_)
       generalize w38.drew = w39 at BK397 HB hHeld ⊢
       refine pv 0 (some 26) HT_ rfl rfl pL ?_
       refine tv 1 (some 27) HT_ HW_ rfl rfl pL (fun _ _ _ h => h) (by rfl) (by rintro w' ⟨s0, s1, s2⟩; go_simp; with_reducible rfl) hHeld pP ?_
       refine one_ (i := 2) (N := some 28) F40.b1 rfl rfl (one_of HT_.out pL) (by decide) (fun K hK => ?_)
       refine goes_ Try.func80 pL rfl #[.int .i64 ((rd_T29 l0 x21_2).f0)] (by rfl) rfl rfl pM ?_
       with_reducible refine (impl_isId.calls ((rd_T29 l0 x21_2).f0) false _ A15.out).mono ?_
       rintro e w' ⟨rfl, ⟨nd, rfl⟩⟩
       refine ⟨_, rfl, ?_⟩
       refine hK.out _ _ F40.q6 (fun hHeld => ?_)
       clear hK K
       refine norm_ (a' := ?_) ?_ ?_
       rotate_left
       ·show Act.put _ (some 28) _ = _
        exact pP
       refine pv 3 (some 29) HT_ rfl rfl pL ?_
       refine pv 4 (some 30) HT_ rfl rfl pL ?_
       refine uv 5 (some 31) HT_ rfl rfl pL ?_
       refine uv 6 (some 32) HT_ rfl rfl pL ?_
       refine uv 7 (some 33) HT_ rfl rfl pL ?_
       refine uv 8 (some 34) HT_ rfl rfl pL ?_
       refine uv 9 (some 35) HT_ rfl rfl pL ?_
       refine uv 10 (some 36) HT_ rfl rfl pL ?_
       refine un 11 (some 37) F40.b2 HT_ rfl rfl pL (fun _ _ _ h => h) (by rfl) pP ?_
       refine uv 12 (some 38) HT_ rfl rfl pL ?_
       refine uv 13 (some 39) HT_ rfl rfl pL ?_
       refine uv 14 (some 40) HT_ rfl rfl pL ?_
       refine uv 15 (some 41) HT_ rfl rfl pL ?_
       refine uv 16 (some 42) HT_ rfl rfl pL ?_
       refine uv 17 (some 43) HT_ rfl rfl pL ?_
       refine pv 18 (some 44) HT_ rfl rfl pL ?_
       refine pv 19 (some 45) HT_ rfl rfl pL ?_
       refine un 20 (some 46) F40.b3 HT_ rfl rfl pL (fun _ _ _ h => h) (by rfl) pP ?_
       refine uv 21 (some 47) HT_ rfl rfl pL ?_
       refine uv 22 (some 48) HT_ rfl rfl pL ?_
       refine uv 23 (some 49) HT_ rfl rfl pL ?_
       refine pv 24 (some 50) HT_ rfl rfl pL ?_
       refine pv 25 (some 51) HT_ rfl rfl pL ?_
       refine uv 26 (some 52) HT_ rfl rfl pL ?_
       refine uv 27 (some 53) HT_ rfl rfl pL ?_
       refine uv 28 (some 54) HT_ rfl rfl pL ?_
       refine un 29 (some 55) F40.b5 HT_ rfl rfl pL (fun _ _ _ h => h) (by rfl) pP ?_
       refine uv 30 (some 56) HT_ rfl rfl pL ?_
       refine pv 31 (some 57) HT_ rfl rfl pL ?_
       refine done_ (done_of HT_.out pL) ?_
       try go_wp2
       go_meet
       case rel => exact ⟨_, (true), pF, H', ⟨by have := HJ2.out; have := HK2.out; first | omega | exact Nat.le_refl _⟩, ⟨pC BK397⟩, ⟨pG GE397⟩⟩
      subst c16
      have H1 : (if x21_2 > 0 then (if 0 ≤ (wrap64 (x21_2 - 1)) then (if (wrap64 (x21_2 - 1)) < (l0.length : Int) then (if ((rd_T29 l0 (wrap64 (x21_2 - 1))).f0) ≥ ((rd_T29 l0 x21_2).f0) then (impl_DishesValid.j2 k2 l0 l1 x21_2 l0 (l0.length : Int) x21_2 true ((rd_T29 l0 x21_2).f0) ((rd_T29 l0 x21_2).f1) ((rd_T29 l0 x21_2).f2)) else ((impl_within.f ((rd_T29 l0 x21_2).f1) 1 12).bind fun t400 => (if t400 = true then ((impl_within.f (((rd_T29 l0 x21_2).f2).length : Int) 1 5).bind fun t401 => (impl_DishesValid.j2 k2 l0 l1 x21_2 l0 (l0.length : Int) x21_2 (!t401) ((rd_T29 l0 x21_2).f0) ((rd_T29 l0 x21_2).f1) ((rd_T29 l0 x21_2).f2))) else (impl_DishesValid.j2 k2 l0 l1 x21_2 l0 (l0.length : Int) x21_2 true ((rd_T29 l0 x21_2).f0) ((rd_T29 l0 x21_2).f1) ((rd_T29 l0 x21_2).f2))))) else (none)) else (none)) else ((impl_within.f ((rd_T29 l0 x21_2).f1) 1 12).bind fun t402 => (if t402 = true then ((impl_within.f (((rd_T29 l0 x21_2).f2).length : Int) 1 5).bind fun t403 => (impl_DishesValid.j2 k2 l0 l1 x21_2 l0 (l0.length : Int) x21_2 (!t403) ((rd_T29 l0 x21_2).f0) ((rd_T29 l0 x21_2).f1) ((rd_T29 l0 x21_2).f2))) else (impl_DishesValid.j2 k2 l0 l1 x21_2 l0 (l0.length : Int) x21_2 true ((rd_T29 l0 x21_2).f0) ((rd_T29 l0 x21_2).f1) ((rd_T29 l0 x21_2).f2))))) = some r := by rw [if_pos rfl] at H; exact H
      clear H
      have H := H1
      clear H1
      rcases (Classical.em (x21_2 > 0)).symm with c17 | c17
      ·rw [if_neg c17] at H
       have c17b0 : decide (0 < x21_2) = false := decide_eq_false c17
       clear c17
       (first | rw [c17b0] | (simp only [i64_w, i32_w]; rw [c17b0]) | skip)
       replace H := Option.bind_eq_some_iff.mp H
       obtain ⟨t402, A310, H⟩ := H
       replace H : (if t402 = true then ((impl_within.f (((rd_T29 l0 x21_2).f2).length : Int) 1 5).bind fun t403 => (impl_DishesValid.j2 k2 l0 l1 x21_2 l0 (l0.length : Int) x21_2 (!t403) ((rd_T29 l0 x21_2).f0) ((rd_T29 l0 x21_2).f1) ((rd_T29 l0 x21_2).f2))) else (impl_DishesValid.j2 k2 l0 l1 x21_2 l0 (l0.length : Int) x21_2 true ((rd_T29 l0 x21_2).f0) ((rd_T29 l0 x21_2).f1) ((rd_T29 l0 x21_2).f2))) = some r := H
       have A31 := Aside0.mk A310
       clear A310
       rcases (Classical.em (t402 = true)).symm with c32 | c32
       ·replace c32 := Bool.eq_false_iff.mpr c32
        subst c32
        have H1 : (impl_DishesValid.j2 k2 l0 l1 x21_2 l0 (l0.length : Int) x21_2 true ((rd_T29 l0 x21_2).f0) ((rd_T29 l0 x21_2).f1) ((rd_T29 l0 x21_2).f2)) = some r := by rw [if_neg (show ¬ (false = true) by decide)] at H; exact H
        clear H
        have H := H1
        clear H1
        have H' := Aside0.mk H
        clear H
        try go_wp2
        have n0_ : Aside0 ((((w13.setCell ⟨gb397, 0, none⟩ (.int .i64 ((rd_T29 l0 x21_2).f0))).setCell ⟨gb397, 1, none⟩ (.int .i64 ((rd_T29 l0 x21_2).f1))).setCell ⟨gb397, 2, none⟩ (.slice A396_2 ((rd_T29 l0 x21_2).f2).length c396_2)).heap[gb397]? = some (.cells #[.int .i64 ((rd_T29 l0 x21_2).f0), .int .i64 ((rd_T29 l0 x21_2).f1), .slice A396_2 ((rd_T29 l0 x21_2).f2).length c396_2] 29 (0, 0))) := ⟨by (with_reducible repeat (first | refine blk_drewN ?_ _ | refine blk_drew ?_ | refine blk_alloc ?_ _)); refine blk_put (cs := #[.int .i64 ((rd_T29 l0 x21_2).f0), .int .i64 ((rd_T29 l0 x21_2).f1), .slice none 0 0]) ?_ 2 _ rfl; (with_reducible repeat (first | refine blk_drewN ?_ _ | refine blk_drew ?_ | refine blk_alloc ?_ _)); refine blk_put (cs := #[.int .i64 ((rd_T29 l0 x21_2).f0), .int .i64 0, .slice none 0 0]) ?_ 1 _ rfl; (with_reducible repeat (first | refine blk_drewN ?_ _ | refine blk_drew ?_ | refine blk_alloc ?_ _)); refine blk_put (cs := #[.int .i64 0, .int .i64 0, .slice none 0 0]) ?_ 0 _ rfl; (with_reducible repeat (first | refine blk_drewN ?_ _ | refine blk_drew ?_ | refine blk_alloc ?_ _)); exact BK397.out⟩
        have n1_ : Aside0 (Below w.heap.size w (((w13.setCell ⟨gb397, 0, none⟩ (.int .i64 ((rd_T29 l0 x21_2).f0))).setCell ⟨gb397, 1, none⟩ (.int .i64 ((rd_T29 l0 x21_2).f1))).setCell ⟨gb397, 2, none⟩ (.slice A396_2 ((rd_T29 l0 x21_2).f2).length c396_2))) := ⟨pG GE397⟩
        (try clear BK397)
        (try clear HB)
        generalize (((w13.setCell ⟨gb397, 0, none⟩ (.int .i64 ((rd_T29 l0 x21_2).f0))).setCell ⟨gb397, 1, none⟩ (.int .i64 ((rd_T29 l0 x21_2).f1))).setCell ⟨gb397, 2, none⟩ (.slice A396_2 ((rd_T29 l0 x21_2).f2).length c396_2)) = w36 at n0_ n1_ ⊢
        have BK397 := n0_
        have HB := n1_
        clear n0_ n1_
        have n0_ := Aside0.mk (blk_drew BK397.out)
        have n1_ := Aside0.mk (below_drew1 HB.out)
        clear BK397
        clear HB
        have BK397 := n0_
        have HB := n1_
        clear n0_ n1_
        refine start_ (n := 32) (S := fun w' => w'.cell? ⟨gb397, 0, none⟩ = some (.int .i64 ((rd_T29 l0 x21_2).f0)) ∧ w'.cell? ⟨gb397, 1, none⟩ = some (.int .i64 ((rd_T29 l0 x21_2).f1)) ∧ w'.cell? ⟨gb397, 2, none⟩ = some (.slice A396_2 ((rd_T29 l0 x21_2).f2).length c396_2)) (ds := []) #[false, false, false, false, false, false, false, false, false, false, false, false, false, false, false, false, false, false, false, false, false, false, false, false, false, false, false, false, false, false, false, false] pL rfl rfl ⟨(blk_cell BK397.out 0).trans rfl, (blk_cell BK397.out 1).trans rfl, (blk_cell BK397.out 2).trans rfl⟩ (fun hHeld => ?_); refine with_tabW impl_DishesValid.tab6 impl_DishesValid.bits6 (fun HT_ HW_ => ?_)
        generalize w36.drew = w37 at BK397 HB hHeld ⊢
        refine pv 0 (some 26) HT_ rfl rfl pL ?_
        refine tv 1 (some 27) HT_ HW_ rfl rfl pL (fun _ _ _ h => h) (by rfl) (by rintro w' ⟨s0, s1, s2⟩; go_simp; with_reducible rfl) hHeld pP ?_
        refine one_ (i := 2) (N := some 28) F40.b1 rfl rfl (one_of HT_.out pL) (by decide) (fun K hK => ?_)
        refine goes_ Try.func80 pL rfl #[.int .i64 ((rd_T29 l0 x21_2).f0)] (by rfl) rfl rfl pM ?_
        with_reducible refine (impl_isId.calls ((rd_T29 l0 x21_2).f0) true _ A15.out).mono ?_
        rintro e w' ⟨rfl, ⟨nd, rfl⟩⟩
        refine ⟨_, rfl, ?_⟩
        refine hK.out _ _ F40.q6 (fun hHeld => ?_)
        clear hK K
        refine norm_ (a' := ?_) ?_ ?_
        rotate_left
        ·show Act.put _ (some 28) _ = _
         exact pP
        refine pv 3 (some 29) HT_ rfl rfl pL ?_
        refine pv 4 (some 30) HT_ rfl rfl pL ?_
        refine pv 5 (some 31) HT_ rfl rfl pL ?_
        refine pv 6 (some 32) HT_ rfl rfl pL ?_
        refine pv 7 (some 33) HT_ rfl rfl pL ?_
        refine uv 8 (some 34) HT_ rfl rfl pL ?_
        refine uv 9 (some 35) HT_ rfl rfl pL ?_
        refine uv 10 (some 36) HT_ rfl rfl pL ?_
        refine un 11 (some 37) F40.b2 HT_ rfl rfl pL (fun _ _ _ h => h) (by rfl) pP ?_
        refine uv 12 (some 38) HT_ rfl rfl pL ?_
        refine uv 13 (some 39) HT_ rfl rfl pL ?_
        refine uv 14 (some 40) HT_ rfl rfl pL ?_
        refine uv 15 (some 41) HT_ rfl rfl pL ?_
        refine uv 16 (some 42) HT_ rfl rfl pL ?_
        refine pv 17 (some 43) HT_ rfl rfl pL ?_
        refine pv 18 (some 44) HT_ rfl rfl pL ?_
        refine pv 19 (some 45) HT_ rfl rfl pL ?_
        refine pu 20 (some 46) F40.b3 HT_ rfl rfl pL (fun _ _ _ h => h) (by rfl) pY pP ?_
        refine tv 21 (some 47) HT_ HW_ rfl rfl pL (fun _ _ _ h => h) (by rfl) (by rintro w' ⟨s0, s1, s2⟩; go_simp; with_reducible rfl) hHeld pP ?_
        refine one_ (i := 22) (N := some 48) F40.b6 rfl rfl (one_of HT_.out pL) (by decide) (fun K hK => ?_)
        refine goes_ Try.func76 pL rfl #[.int .i64 ((rd_T29 l0 x21_2).f1), .int .i64 1, .int .i64 12] (by rfl) rfl rfl pM ?_
        with_reducible refine (impl_within.calls ((rd_T29 l0 x21_2).f1) 1 12 false _ A31.out).mono ?_
        rintro e w' ⟨rfl, ⟨nd, rfl⟩⟩
        refine ⟨_, rfl, ?_⟩
        refine hK.out _ _ F40.q6 (fun hHeld => ?_)
        clear hK K
        refine norm_ (a' := ?_) ?_ ?_
        rotate_left
        ·show Act.put _ (some 48) _ = _
         exact pP
        refine pv 23 (some 49) HT_ rfl rfl pL ?_
        refine pv 24 (some 50) HT_ rfl rfl pL ?_
        refine pv 25 (some 51) HT_ rfl rfl pL ?_
        refine uv 26 (some 52) HT_ rfl rfl pL ?_
        refine uv 27 (some 53) HT_ rfl rfl pL ?_
        refine uv 28 (some 54) HT_ rfl rfl pL ?_
        refine uv 29 (some 55) HT_ rfl rfl pL ?_
        refine uv 30 (some 56) HT_ rfl rfl pL ?_
        refine pu 31 (some 57) F40.b8 HT_ rfl rfl pL (fun _ _ _ h => h) (by rfl) pY pP ?_
        refine done_ (done_of HT_.out pL) ?_
        try go_wp2
        go_meet
        case rel => exact ⟨_, (true), pF, H', ⟨by have := HJ2.out; have := HK2.out; first | omega | exact Nat.le_refl _⟩, ⟨pC BK397⟩, ⟨pG GE397⟩⟩
       subst c32
       have H1 : ((impl_within.f (((rd_T29 l0 x21_2).f2).length : Int) 1 5).bind fun t403 => (impl_DishesValid.j2 k2 l0 l1 x21_2 l0 (l0.length : Int) x21_2 (!t403) ((rd_T29 l0 x21_2).f0) ((rd_T29 l0 x21_2).f1) ((rd_T29 l0 x21_2).f2))) = some r := by rw [if_pos rfl] at H; exact H
       clear H
       have H := H1
       clear H1
       replace H := Option.bind_eq_some_iff.mp H
       obtain ⟨t403, A330, H⟩ := H
       replace H : (impl_DishesValid.j2 k2 l0 l1 x21_2 l0 (l0.length : Int) x21_2 (!t403) ((rd_T29 l0 x21_2).f0) ((rd_T29 l0 x21_2).f1) ((rd_T29 l0 x21_2).f2)) = some r := H
       have A33 := Aside0.mk A330
       clear A330
       have H' := Aside0.mk H
       clear H
       try go_wp2
       have n0_ : Aside0 ((((w13.setCell ⟨gb397, 0, none⟩ (.int .i64 ((rd_T29 l0 x21_2).f0))).setCell ⟨gb397, 1, none⟩ (.int .i64 ((rd_T29 l0 x21_2).f1))).setCell ⟨gb397, 2, none⟩ (.slice A396_2 ((rd_T29 l0 x21_2).f2).length c396_2)).heap[gb397]? = some (.cells #[.int .i64 ((rd_T29 l0 x21_2).f0), .int .i64 ((rd_T29 l0 x21_2).f1), .slice A396_2 ((rd_T29 l0 x21_2).f2).length c396_2] 29 (0, 0))) := ⟨by (with_reducible repeat (first | refine blk_drewN ?_ _ | refine blk_drew ?_ | refine blk_alloc ?_ _)); refine blk_put (cs := #[.int .i64 ((rd_T29 l0 x21_2).f0), .int .i64 ((rd_T29 l0 x21_2).f1), .slice none 0 0]) ?_ 2 _ rfl; (with_reducible repeat (first | refine blk_drewN ?_ _ | refine blk_drew ?_ | refine blk_alloc ?_ _)); refine blk_put (cs := #[.int .i64 ((rd_T29 l0 x21_2).f0), .int .i64 0, .slice none 0 0]) ?_ 1 _ rfl; (with_reducible repeat (first | refine blk_drewN ?_ _ | refine blk_drew ?_ | refine blk_alloc ?_ _)); refine blk_put (cs := #[.int .i64 0, .int .i64 0, .slice none 0 0]) ?_ 0 _ rfl; (with_reducible repeat (first | refine blk_drewN ?_ _ | refine blk_drew ?_ | refine blk_alloc ?_ _)); exact BK397.out⟩
       have n1_ : Aside0 (Below w.heap.size w (((w13.setCell ⟨gb397, 0, none⟩ (.int .i64 ((rd_T29 l0 x21_2).f0))).setCell ⟨gb397, 1, none⟩ (.int .i64 ((rd_T29 l0 x21_2).f1))).setCell ⟨gb397, 2, none⟩ (.slice A396_2 ((rd_T29 l0 x21_2).f2).length c396_2))) := ⟨pG GE397⟩
       (try clear BK397)
       (try clear HB)
       generalize (((w13.setCell ⟨gb397, 0, none⟩ (.int .i64 ((rd_T29 l0 x21_2).f0))).setCell ⟨gb397, 1, none⟩ (.int .i64 ((rd_T29 l0 x21_2).f1))).setCell ⟨gb397, 2, none⟩ (.slice A396_2 ((rd_T29 l0 x21_2).f2).length c396_2)) = w34 at n0_ n1_ ⊢
       have BK397 := n0_
       have HB := n1_
       clear n0_ n1_
       have n0_ := Aside0.mk (blk_drew BK397.out)
       have n1_ := Aside0.mk (below_drew1 HB.out)
       clear BK397
       clear HB
       have BK397 := n0_
       have HB := n1_
       clear n0_ n1_
       refine start_ (n := 32) (S := fun w' => w'.cell? ⟨gb397, 0, none⟩ = some (.int .i64 ((rd_T29 l0 x21_2).f0)) ∧ w'.cell? ⟨gb397, 1, none⟩ = some (.int .i64 ((rd_T29 l0 x21_2).f1)) ∧ w'.cell? ⟨gb397, 2, none⟩ = some (.slice A396_2 ((rd_T29 l0 x21_2).f2).length c396_2)) (ds := []) #[false, false, false, false, false, false, false, false, false, false, false, false, false, false, false, false, false, false, false, false, false, false, false, false, false, false, false, false, false, false, false, false] pL rfl rfl ⟨(blk_cell BK397.out 0).trans rfl, (blk_cell BK397.out 1).trans rfl, (blk_cell BK397.out 2).trans rfl⟩ (fun hHeld => ?_); refine with_tabW impl_DishesValid.tab6 impl_DishesValid.bits6 (fun HT_ HW_ => ?_)
       generalize w34.drew = w35 at BK397 HB hHeld ⊢
       refine pv 0 (some 26) HT_ rfl rfl pL ?_
       refine tv 1 (some 27) HT_ HW_ rfl rfl pL (fun _ _ _ h => h) (by rfl) (by rintro w' ⟨s0, s1, s2⟩; go_simp; with_reducible rfl) hHeld pP ?_
       refine one_ (i := 2) (N := some 28) F40.b1 rfl rfl (one_of HT_.out pL) (by decide) (fun K hK => ?_)
       refine goes_ Try.func80 pL rfl #[.int .i64 ((rd_T29 l0 x21_2).f0)] (by rfl) rfl rfl pM ?_
       with_reducible refine (impl_isId.calls ((rd_T29 l0 x21_2).f0) true _ A15.out).mono ?_
       rintro e w' ⟨rfl, ⟨nd, rfl⟩⟩
       refine ⟨_, rfl, ?_⟩
       refine hK.out _ _ F40.q6 (fun hHeld => ?_)
       clear hK K
       refine norm_ (a' := ?_) ?_ ?_
       rotate_left
       ·show Act.put _ (some 28) _ = _
        exact pP
       refine pv 3 (some 29) HT_ rfl rfl pL ?_
       refine pv 4 (some 30) HT_ rfl rfl pL ?_
       refine pv 5 (some 31) HT_ rfl rfl pL ?_
       refine pv 6 (some 32) HT_ rfl rfl pL ?_
       refine pv 7 (some 33) HT_ rfl rfl pL ?_
       refine uv 8 (some 34) HT_ rfl rfl pL ?_
       refine uv 9 (some 35) HT_ rfl rfl pL ?_
       refine uv 10 (some 36) HT_ rfl rfl pL ?_
       refine un 11 (some 37) F40.b2 HT_ rfl rfl pL (fun _ _ _ h => h) (by rfl) pP ?_
       refine uv 12 (some 38) HT_ rfl rfl pL ?_
       refine uv 13 (some 39) HT_ rfl rfl pL ?_
       refine uv 14 (some 40) HT_ rfl rfl pL ?_
       refine uv 15 (some 41) HT_ rfl rfl pL ?_
       refine uv 16 (some 42) HT_ rfl rfl pL ?_
       refine pv 17 (some 43) HT_ rfl rfl pL ?_
       refine pv 18 (some 44) HT_ rfl rfl pL ?_
       refine pv 19 (some 45) HT_ rfl rfl pL ?_
       refine pu 20 (some 46) F40.b3 HT_ rfl rfl pL (fun _ _ _ h => h) (by rfl) pY pP ?_
       refine tv 21 (some 47) HT_ HW_ rfl rfl pL (fun _ _ _ h => h) (by rfl) (by rintro w' ⟨s0, s1, s2⟩; go_simp; with_reducible rfl) hHeld pP ?_
       refine one_ (i := 22) (N := some 48) F40.b6 rfl rfl (one_of HT_.out pL) (by decide) (fun K hK => ?_)
       refine goes_ Try.func76 pL rfl #[.int .i64 ((rd_T29 l0 x21_2).f1), .int .i64 1, .int .i64 12] (by rfl) rfl rfl pM ?_
       with_reducible refine (impl_within.calls ((rd_T29 l0 x21_2).f1) 1 12 true _ A31.out).mono ?_
       rintro e w' ⟨rfl, ⟨nd, rfl⟩⟩
       refine ⟨_, rfl, ?_⟩
       refine hK.out _ _ F40.q6 (fun hHeld => ?_)
       clear hK K
       refine norm_ (a' := ?_) ?_ ?_
       rotate_left
       ·show Act.put _ (some 48) _ = _
        exact pP
       refine pv 23 (some 49) HT_ rfl rfl pL ?_
       refine pv 24 (some 50) HT_ rfl rfl pL ?_
       refine pv 25 (some 51) HT_ rfl rfl pL ?_
       refine pv 26 (some 52) HT_ rfl rfl pL ?_
       refine tv 27 (some 53) HT_ HW_ rfl rfl pL (fun _ _ _ h => h) (by rfl) (by rintro w' ⟨s0, s1, s2⟩; go_simp; with_reducible rfl) hHeld pP ?_
       refine pv 28 (some 54) HT_ rfl rfl pL ?_
       refine one_ (i := 29) (N := some 55) F40.b5 rfl rfl (one_of HT_.out pL) (by decide) (fun K hK => ?_)
       refine goes_ Try.func76 pL rfl #[.int .i64 (((rd_T29 l0 x21_2).f2).length : Int), .int .i64 1, .int .i64 5] (by rfl) rfl rfl pM ?_
       with_reducible refine (impl_within.calls (((rd_T29 l0 x21_2).f2).length : Int) 1 5 t403 _ A33.out).mono ?_
       rintro e w' ⟨rfl, ⟨nd, rfl⟩⟩
       refine ⟨_, rfl, ?_⟩
       refine hK.out _ _ F40.q6 (fun hHeld => ?_)
       clear hK K
       refine norm_ (a' := ?_) ?_ ?_
       rotate_left
       ·show Act.put _ (some 55) _ = _
        exact pP
       refine pv 30 (some 56) HT_ rfl rfl pL ?_
       refine pv 31 (some 57) HT_ rfl rfl pL ?_
       refine done_ (done_of HT_.out pL) ?_
       try go_wp2
       go_meet
       case rel => exact ⟨_, (!t403), pF, H', ⟨by have := HJ2.out; have := HK2.out; first | omega | exact Nat.le_refl _⟩, ⟨pC BK397⟩, ⟨pG GE397⟩⟩
      rw [if_pos c17] at H
      have c17b0 : decide (0 < x21_2) = true := decide_eq_true c17
      clear c17
      (first | rw [c17b0] | (simp only [i64_w, i32_w]; rw [c17b0]) | skip)
      obtain ⟨ji18, hji18⟩ : ∃ j_ : Int, (wrap64 (x21_2 - 1)) = j_ := ⟨_, rfl⟩
      replace H : (if 0 ≤ (ji18) then (if (ji18) < (l0.length : Int) then (if ((rd_T29 l0 (ji18)).f0) ≥ ((rd_T29 l0 x21_2).f0) then (impl_DishesValid.j2 k2 l0 l1 x21_2 l0 (l0.length : Int) x21_2 true ((rd_T29 l0 x21_2).f0) ((rd_T29 l0 x21_2).f1) ((rd_T29 l0 x21_2).f2)) else ((impl_within.f ((rd_T29 l0 x21_2).f1) 1 12).bind fun t400 => (if t400 = true then ((impl_within.f (((rd_T29 l0 x21_2).f2).length : Int) 1 5).bind fun t401 => (impl_DishesValid.j2 k2 l0 l1 x21_2 l0 (l0.length : Int) x21_2 (!t401) ((rd_T29 l0 x21_2).f0) ((rd_T29 l0 x21_2).f1) ((rd_T29 l0 x21_2).f2))) else (impl_DishesValid.j2 k2 l0 l1 x21_2 l0 (l0.length : Int) x21_2 true ((rd_T29 l0 x21_2).f0) ((rd_T29 l0 x21_2).f1) ((rd_T29 l0 x21_2).f2))))) else (none)) else (none)) = some r := by first | (rw [hji18] at H; exact H) | (simp only [hji18] at H ⊢; exact H)
      (try rw [hji18] at A15)
      have hji18w : (IntKind.i64.wrap (x21_2 - 1)) = ji18 := (i64_w _).trans hji18
      rcases (Classical.em (0 ≤ (ji18))).symm with c19 | c19
      ·rw [if_neg c19] at H
       exact absurd H (by simp)
      rw [if_pos c19] at H
      have c19b0 : decide (0 ≤ (ji18)) = true := decide_eq_true c19
      clear c19
      rcases (Classical.em ((ji18) < (l0.length : Int))).symm with c20 | c20
      ·rw [if_neg c20] at H
       exact absurd H (by simp)
      rw [if_pos c20] at H
      have c20b0 : decide ((ji18) < (l0.length : Int)) = true := decide_eq_true c20
      clear c20
      by_cases c21 : ((rd_T29 l0 (ji18)).f0) ≥ ((rd_T29 l0 x21_2).f0)
      ·rw [if_pos c21] at H
       have c21b0 : decide (((rd_T29 l0 x21_2).f0) ≤ ((rd_T29 l0 (ji18)).f0)) = true := decide_eq_true c21
       clear c21
       have H' := Aside0.mk H
       clear H
       try go_wp2
       have n0_ : Aside0 ((((w13.setCell ⟨gb397, 0, none⟩ (.int .i64 ((rd_T29 l0 x21_2).f0))).setCell ⟨gb397, 1, none⟩ (.int .i64 ((rd_T29 l0 x21_2).f1))).setCell ⟨gb397, 2, none⟩ (.slice A396_2 ((rd_T29 l0 x21_2).f2).length c396_2)).heap[gb397]? = some (.cells #[.int .i64 ((rd_T29 l0 x21_2).f0), .int .i64 ((rd_T29 l0 x21_2).f1), .slice A396_2 ((rd_T29 l0 x21_2).f2).length c396_2] 29 (0, 0))) := ⟨by (with_reducible repeat (first | refine blk_drewN ?_ _ | refine blk_drew ?_ | refine blk_alloc ?_ _)); refine blk_put (cs := #[.int .i64 ((rd_T29 l0 x21_2).f0), .int .i64 ((rd_T29 l0 x21_2).f1), .slice none 0 0]) ?_ 2 _ rfl; (with_reducible repeat (first | refine blk_drewN ?_ _ | refine blk_drew ?_ | refine blk_alloc ?_ _)); refine blk_put (cs := #[.int .i64 ((rd_T29 l0 x21_2).f0), .int .i64 0, .slice none 0 0]) ?_ 1 _ rfl; (with_reducible repeat (first | refine blk_drewN ?_ _ | refine blk_drew ?_ | refine blk_alloc ?_ _)); refine blk_put (cs := #[.int .i64 0, .int .i64 0, .slice none 0 0]) ?_ 0 _ rfl; (with_reducible repeat (first | refine blk_drewN ?_ _ | refine blk_drew ?_ | refine blk_alloc ?_ _)); exact BK397.out⟩
       have n1_ : Aside0 (Below w.heap.size w (((w13.setCell ⟨gb397, 0, none⟩ (.int .i64 ((rd_T29 l0 x21_2).f0))).setCell ⟨gb397, 1, none⟩ (.int .i64 ((rd_T29 l0 x21_2).f1))).setCell ⟨gb397, 2, none⟩ (.slice A396_2 ((rd_T29 l0 x21_2).f2).length c396_2))) := ⟨pG GE397⟩
       (try clear BK397)
       (try clear HB)
       generalize (((w13.setCell ⟨gb397, 0, none⟩ (.int .i64 ((rd_T29 l0 x21_2).f0))).setCell ⟨gb397, 1, none⟩ (.int .i64 ((rd_T29 l0 x21_2).f1))).setCell ⟨gb397, 2, none⟩ (.slice A396_2 ((rd_T29 l0 x21_2).f2).length c396_2)) = w22 at n0_ n1_ ⊢
       have BK397 := n0_
       have HB := n1_
       clear n0_ n1_
       have n0_ := Aside0.mk (blk_drew BK397.out)
       have n1_ := Aside0.mk (below_drew1 HB.out)
       clear BK397
       clear HB
       have BK397 := n0_
       have HB := n1_
       clear n0_ n1_
       have p399 : 0 ≤ ((ji18) : Int) := of_decide_eq_true pA
       have q399 : (ji18) < (l0.length : Int) := of_decide_eq_true pA
       obtain ⟨ad399, A399_2, c399_2, e399, hx399_0, hx399_1, hx399_2, hl399_2, hi399_2⟩ := at_T29 HR0.out (ji18) p399 q399
       have hw399_2 := hx399_2
       have hw399_1 := hx399_1
       have hw399_0 := hx399_0
       obtain rfl : ad396 = ad399 := (by injection e399)
       replace hx399_0 := (HB.out.cell (World.block_lt_of_cell? w _ hx399_0)).trans hx399_0
       replace hx399_1 := (HB.out.cell (World.block_lt_of_cell? w _ hx399_1)).trans hx399_1
       replace hx399_2 := (HB.out.cell (World.block_lt_of_cell? w _ hx399_2)).trans hx399_2
       have HR399_2 := Aside0.mk (hi399_2)
       have HC399_2 := Aside0.mk hl399_2
       clear hi399_2 hl399_2
       replace p399 := eq_true p399
       replace q399 := eq_true q399
       refine start_ (n := 32) (S := fun w' => w'.cell? ⟨gb397, 0, none⟩ = some (.int .i64 ((rd_T29 l0 x21_2).f0)) ∧ w'.cell? ⟨gb397, 1, none⟩ = some (.int .i64 ((rd_T29 l0 x21_2).f1)) ∧ w'.cell? ⟨gb397, 2, none⟩ = some (.slice A396_2 ((rd_T29 l0 x21_2).f2).length c396_2) ∧ w'.cell? (ad396.add (((ji18)).toNat * 3)) = some (.int .i64 ((rd_T29 l0 (ji18)).f0)) ∧ w'.cell? ⟨(ad396.add (((ji18)).toNat * 3)).block, (ad396.add (((ji18)).toNat * 3)).off + 1, none⟩ = some (.int .i64 ((rd_T29 l0 (ji18)).f1)) ∧ w'.cell? ⟨(ad396.add (((ji18)).toNat * 3)).block, (ad396.add (((ji18)).toNat * 3)).off + 2, none⟩ = some (.slice A399_2 ((rd_T29 l0 (ji18)).f2).length c399_2)) (ds := []) #[false, false, false, false, false, false, false, false, false, false, false, false, false, false, false, false, false, false, false, false, false, false, false, false, false, false, false, false, false, false, false, false] pL rfl rfl ⟨(blk_cell BK397.out 0).trans rfl, (blk_cell BK397.out 1).trans rfl, (blk_cell BK397.out 2).trans rfl, ((HB.out.cell (World.block_lt_of_cell? w _ hw399_0)).trans hw399_0), ((HB.out.cell (World.block_lt_of_cell? w _ hw399_1)).trans hw399_1), ((HB.out.cell (World.block_lt_of_cell? w _ hw399_2)).trans hw399_2)⟩ (fun hHeld => ?_); refine with_tabW impl_DishesValid.tab6 impl_DishesValid.bits6 (fun HT_ HW_ => ?_)
       generalize w22.drew = w23 at BK397 HB HR399_2 hx399_0 hx399_1 hx399_2 hHeld ⊢
       refine pv 0 (some 26) HT_ rfl rfl pL ?_
       refine tv 1 (some 27) HT_ HW_ rfl rfl pL (fun _ _ _ h => h) (by rfl) F40.q4 hHeld pP ?_
       refine one_ (i := 2) (N := some 28) F40.b1 rfl rfl (one_of HT_.out pL) (by decide) (fun K hK => ?_)
       refine goes_ Try.func80 pL rfl #[.int .i64 ((rd_T29 l0 x21_2).f0)] (by rfl) rfl rfl pM ?_
       with_reducible refine (impl_isId.calls ((rd_T29 l0 x21_2).f0) true _ A15.out).mono ?_
       rintro e w' ⟨rfl, ⟨nd, rfl⟩⟩
       refine ⟨_, rfl, ?_⟩
       refine hK.out _ _ F40.q0 (fun hHeld => ?_)
       clear hK K
       refine norm_ (a' := ?_) ?_ ?_
       rotate_left
       ·show Act.put _ (some 28) _ = _
        exact pP
       refine pv 3 (some 29) HT_ rfl rfl pL ?_
       refine pv 4 (some 30) HT_ rfl rfl pL ?_
       refine pv 5 (some 31) HT_ rfl rfl pL ?_
       refine pv 6 (some 32) HT_ rfl rfl pL ?_
       refine pv 7 (some 33) HT_ rfl rfl pL ?_
       refine pv 8 (some 34) HT_ rfl rfl pL ?_
       refine pv 9 (some 35) HT_ rfl rfl pL ?_
       refine pv 10 (some 36) HT_ rfl rfl pL ?_
       refine pu 11 (some 37) F40.b2 HT_ rfl rfl pL (fun _ _ _ h => h) (by rfl) pY pP ?_
       refine pv 12 (some 38) HT_ rfl rfl pL ?_
       refine pv 14 (some 40) HT_ rfl rfl pL ?_
       refine tv 13 (some 39) HT_ HW_ rfl rfl pL (fun _ _ _ h => h) (by rfl) F40.q4 hHeld pP ?_
       refine tv 15 (some 41) HT_ HW_ rfl rfl pL (fun _ _ _ h => h) (by rfl) F40.q4 hHeld pP ?_
       refine pv 16 (some 42) HT_ rfl rfl pL ?_
       refine pv 17 (some 43) HT_ rfl rfl pL ?_
       refine pv 18 (some 44) HT_ rfl rfl pL ?_
       refine pv 19 (some 45) HT_ rfl rfl pL ?_
       refine un 20 (some 46) F40.b3 HT_ rfl rfl pL (fun _ _ _ h => h) (by rfl) pP ?_
       refine uv 21 (some 47) HT_ rfl rfl pL ?_
       refine uv 22 (some 48) HT_ rfl rfl pL ?_
       refine uv 23 (some 49) HT_ rfl rfl pL ?_
       refine pv 24 (some 50) HT_ rfl rfl pL ?_
       refine pv 25 (some 51) HT_ rfl rfl pL ?_
       refine uv 26 (some 52) HT_ rfl rfl pL ?_
       refine uv 27 (some 53) HT_ rfl rfl pL ?_
       refine uv 28 (some 54) HT_ rfl rfl pL ?_
       refine un 29 (some 55) F40.b5 HT_ rfl rfl pL (fun _ _ _ h => h) (by rfl) pP ?_
       refine uv 30 (some 56) HT_ rfl rfl pL ?_
       refine pv 31 (some 57) HT_ rfl rfl pL ?_
       refine done_ (done_of HT_.out pL) ?_
       try go_wp2
       go_meet
       case rel => exact ⟨_, (true), pF, H', ⟨by have := HJ2.out; have := HK2.out; first | omega | exact Nat.le_refl _⟩, ⟨pC BK397⟩, ⟨pG GE397⟩⟩
      rw [if_neg c21] at H
      have c21b0 : decide (((rd_T29 l0 x21_2).f0) ≤ ((rd_T29 l0 (ji18)).f0)) = false := decide_eq_false c21
      clear c21
      replace H := Option.bind_eq_some_iff.mp H
      obtain ⟨t400, A240, H⟩ := H
      replace H : (if t400 = true then ((impl_within.f (((rd_T29 l0 x21_2).f2).length : Int) 1 5).bind fun t401 => (impl_DishesValid.j2 k2 l0 l1 x21_2 l0 (l0.length : Int) x21_2 (!t401) ((rd_T29 l0 x21_2).f0) ((rd_T29 l0 x21_2).f1) ((rd_T29 l0 x21_2).f2))) else (impl_DishesValid.j2 k2 l0 l1 x21_2 l0 (l0.length : Int) x21_2 true ((rd_T29 l0 x21_2).f0) ((rd_T29 l0 x21_2).f1) ((rd_T29 l0 x21_2).f2))) = some r := H
      have A24 := Aside0.mk A240
      clear A240
      rcases (Classical.em (t400 = true)).symm with c25 | c25
      ·replace c25 := Bool.eq_false_iff.mpr c25
       subst c25
       have H1 : (impl_DishesValid.j2 k2 l0 l1 x21_2 l0 (l0.length : Int) x21_2 true ((rd_T29 l0 x21_2).f0) ((rd_T29 l0 x21_2).f1) ((rd_T29 l0 x21_2).f2)) = some r := by rw [if_neg (show ¬ (false = true) by decide)] at H; exact H
       clear H
       have H := H1
       clear H1
       have H' := Aside0.mk H
       clear H
       try go_wp2
       have n0_ : Aside0 ((((w13.setCell ⟨gb397, 0, none⟩ (.int .i64 ((rd_T29 l0 x21_2).f0))).setCell ⟨gb397, 1, none⟩ (.int .i64 ((rd_T29 l0 x21_2).f1))).setCell ⟨gb397, 2, none⟩ (.slice A396_2 ((rd_T29 l0 x21_2).f2).length c396_2)).heap[gb397]? = some (.cells #[.int .i64 ((rd_T29 l0 x21_2).f0), .int .i64 ((rd_T29 l0 x21_2).f1), .slice A396_2 ((rd_T29 l0 x21_2).f2).length c396_2] 29 (0, 0))) := ⟨by (with_reducible repeat (first | refine blk_drewN ?_ _ | refine blk_drew ?_ | refine blk_alloc ?_ _)); refine blk_put (cs := #[.int .i64 ((rd_T29 l0 x21_2).f0), .int .i64 ((rd_T29 l0 x21_2).f1), .slice none 0 0]) ?_ 2 _ rfl; (with_reducible repeat (first | refine blk_drewN ?_ _ | refine blk_drew ?_ | refine blk_alloc ?_ _)); refine blk_put (cs := #[.int .i64 ((rd_T29 l0 x21_2).f0), .int .i64 0, .slice none 0 0]) ?_ 1 _ rfl; (with_reducible repeat (first | refine blk_drewN ?_ _ | refine blk_drew ?_ | refine blk_alloc ?_ _)); refine blk_put (cs := #[.int .i64 0, .int .i64 0, .slice none 0 0]) ?_ 0 _ rfl; (with_reducible repeat (first | refine blk_drewN ?_ _ | refine blk_drew ?_ | refine blk_alloc ?_ _)); exact BK397.out⟩
       have n1_ : Aside0 (Below w.heap.size w (((w13.setCell ⟨gb397, 0, none⟩ (.int .i64 ((rd_T29 l0 x21_2).f0))).setCell ⟨gb397, 1, none⟩ (.int .i64 ((rd_T29 l0 x21_2).f1))).setCell ⟨gb397, 2, none⟩ (.slice A396_2 ((rd_T29 l0 x21_2).f2).length c396_2))) := ⟨pG GE397⟩
       (try clear BK397)
       (try clear HB)
       generalize (((w13.setCell ⟨gb397, 0, none⟩ (.int .i64 ((rd_T29 l0 x21_2).f0))).setCell ⟨gb397, 1, none⟩ (.int .i64 ((rd_T29 l0 x21_2).f1))).setCell ⟨gb397, 2, none⟩ (.slice A396_2 ((rd_T29 l0 x21_2).f2).length c396_2)) = w29 at n0_ n1_ ⊢
       have BK397 := n0_
       have HB := n1_
       clear n0_ n1_
       have n0_ := Aside0.mk (blk_drew BK397.out)
       have n1_ := Aside0.mk (below_drew1 HB.out)
       clear BK397
       clear HB
       have BK397 := n0_
       have HB := n1_
       clear n0_ n1_
       have p399 : 0 ≤ ((ji18) : Int) := of_decide_eq_true pA
       have q399 : (ji18) < (l0.length : Int) := of_decide_eq_true pA
       obtain ⟨ad399, A399_2, c399_2, e399, hx399_0, hx399_1, hx399_2, hl399_2, hi399_2⟩ := at_T29 HR0.out (ji18) p399 q399
       have hw399_2 := hx399_2
       have hw399_1 := hx399_1
       have hw399_0 := hx399_0
       obtain rfl : ad396 = ad399 := (by injection e399)
       replace hx399_0 := (HB.out.cell (World.block_lt_of_cell? w _ hx399_0)).trans hx399_0
       replace hx399_1 := (HB.out.cell (World.block_lt_of_cell? w _ hx399_1)).trans hx399_1
       replace hx399_2 := (HB.out.cell (World.block_lt_of_cell? w _ hx399_2)).trans hx399_2
       have HR399_2 := Aside0.mk (hi399_2)
       have HC399_2 := Aside0.mk hl399_2
       clear hi399_2 hl399_2
       replace p399 := eq_true p399
       replace q399 := eq_true q399
       refine start_ (n := 32) (S := fun w' => w'.cell? ⟨gb397, 0, none⟩ = some (.int .i64 ((rd_T29 l0 x21_2).f0)) ∧ w'.cell? ⟨gb397, 1, none⟩ = some (.int .i64 ((rd_T29 l0 x21_2).f1)) ∧ w'.cell? ⟨gb397, 2, none⟩ = some (.slice A396_2 ((rd_T29 l0 x21_2).f2).length c396_2) ∧ w'.cell? (ad396.add (((ji18)).toNat * 3)) = some (.int .i64 ((rd_T29 l0 (ji18)).f0)) ∧ w'.cell? ⟨(ad396.add (((ji18)).toNat * 3)).block, (ad396.add (((ji18)).toNat * 3)).off + 1, none⟩ = some (.int .i64 ((rd_T29 l0 (ji18)).f1)) ∧ w'.cell? ⟨(ad396.add (((ji18)).toNat * 3)).block, (ad396.add (((ji18)).toNat * 3)).off + 2, none⟩ = some (.slice A399_2 ((rd_T29 l0 (ji18)).f2).length c399_2)) (ds := []) #[false, false, false, false, false, false, false, false, false, false, false, false, false, false, false, false, false, false, false, false, false, false, false, false, false, false, false, false, false, false, false, false] pL rfl rfl ⟨(blk_cell BK397.out 0).trans rfl, (blk_cell BK397.out 1).trans rfl, (blk_cell BK397.out 2).trans rfl, ((HB.out.cell (World.block_lt_of_cell? w _ hw399_0)).trans hw399_0), ((HB.out.cell (World.block_lt_of_cell? w _ hw399_1)).trans hw399_1), ((HB.out.cell (World.block_lt_of_cell? w _ hw399_2)).trans hw399_2)⟩ (fun hHeld => ?_); refine with_tabW impl_DishesValid.tab6 impl_DishesValid.bits6 (fun HT_ HW_ => ?_)
       generalize w29.drew = w30 at BK397 HB HR399_2 hx399_0 hx399_1 hx399_2 hHeld ⊢
       refine pv 0 (some 26) HT_ rfl rfl pL ?_
       refine tv 1 (some 27) HT_ HW_ rfl rfl pL (fun _ _ _ h => h) (by rfl) F40.q4 hHeld pP ?_
       refine one_ (i := 2) (N := some 28) F40.b1 rfl rfl (one_of HT_.out pL) (by decide) (fun K hK => ?_)
       refine goes_ Try.func80 pL rfl #[.int .i64 ((rd_T29 l0 x21_2).f0)] (by rfl) rfl rfl pM ?_
       with_reducible refine (impl_isId.calls ((rd_T29 l0 x21_2).f0) true _ A15.out).mono ?_
       rintro e w' ⟨rfl, ⟨nd, rfl⟩⟩
       refine ⟨_, rfl, ?_⟩
       refine hK.out _ _ F40.q0 (fun hHeld => ?_)
       clear hK K
       refine norm_ (a' := ?_) ?_ ?_
       rotate_left
       ·show Act.put _ (some 28) _ = _
        exact pP
       refine pv 3 (some 29) HT_ rfl rfl pL ?_
       refine pv 4 (some 30) HT_ rfl rfl pL ?_
       refine pv 5 (some 31) HT_ rfl rfl pL ?_
       refine pv 6 (some 32) HT_ rfl rfl pL ?_
       refine pv 7 (some 33) HT_ rfl rfl pL ?_
       refine pv 8 (some 34) HT_ rfl rfl pL ?_
       refine pv 9 (some 35) HT_ rfl rfl pL ?_
       refine pv 10 (some 36) HT_ rfl rfl pL ?_
       refine pu 11 (some 37) F40.b2 HT_ rfl rfl pL (fun _ _ _ h => h) (by rfl) pY pP ?_
       refine pv 12 (some 38) HT_ rfl rfl pL ?_
       refine pv 14 (some 40) HT_ rfl rfl pL ?_
       refine tv 13 (some 39) HT_ HW_ rfl rfl pL (fun _ _ _ h => h) (by rfl) F40.q4 hHeld pP ?_
       refine tv 15 (some 41) HT_ HW_ rfl rfl pL (fun _ _ _ h => h) (by rfl) F40.q4 hHeld pP ?_
       refine pv 16 (some 42) HT_ rfl rfl pL ?_
       refine pv 17 (some 43) HT_ rfl rfl pL ?_
       refine pv 18 (some 44) HT_ rfl rfl pL ?_
       refine pv 19 (some 45) HT_ rfl rfl pL ?_
       refine pu 20 (some 46) F40.b3 HT_ rfl rfl pL (fun _ _ _ h => h) (by rfl) pY pP ?_
       refine tv 21 (some 47) HT_ HW_ rfl rfl pL (fun _ _ _ h => h) (by rfl) F40.q4 hHeld pP ?_
       refine one_ (i := 22) (N := some 48) F40.b6 rfl rfl (one_of HT_.out pL) (by decide) (fun K hK => ?_)
       refine goes_ Try.func76 pL rfl #[.int .i64 ((rd_T29 l0 x21_2).f1), .int .i64 1, .int .i64 12] (by rfl) rfl rfl pM ?_
       with_reducible refine (impl_within.calls ((rd_T29 l0 x21_2).f1) 1 12 false _ A24.out).mono ?_
       rintro e w' ⟨rfl, ⟨nd, rfl⟩⟩
       refine ⟨_, rfl, ?_⟩
       refine hK.out _ _ F40.q0 (fun hHeld => ?_)
       clear hK K
       refine norm_ (a' := ?_) ?_ ?_
       rotate_left
       ·show Act.put _ (some 48) _ = _
        exact pP
       refine pv 23 (some 49) HT_ rfl rfl pL ?_
       refine pv 24 (some 50) HT_ rfl rfl pL ?_
       refine pv 25 (some 51) HT_ rfl rfl pL ?_
       refine uv 26 (some 52) HT_ rfl rfl pL ?_
       refine uv 27 (some 53) HT_ rfl rfl pL ?_
       refine uv 28 (some 54) HT_ rfl rfl pL ?_
       refine uv 29 (some 55) HT_ rfl rfl pL ?_
       refine uv 30 (some 56) HT_ rfl rfl pL ?_
       refine pu 31 (some 57) F40.b8 HT_ rfl rfl pL (fun _ _ _ h => h) (by rfl) pY pP ?_
       refine done_ (done_of HT_.out pL) ?_
       try go_wp2
       go_meet
       case rel => exact ⟨_, (true), pF, H', ⟨by have := HJ2.out; have := HK2.out; first | omega | exact Nat.le_refl _⟩, ⟨pC BK397⟩, ⟨pG GE397⟩⟩
      subst c25
      have H1 : ((impl_within.f (((rd_T29 l0 x21_2).f2).length : Int) 1 5).bind fun t401 => (impl_DishesValid.j2 k2 l0 l1 x21_2 l0 (l0.length : Int) x21_2 (!t401) ((rd_T29 l0 x21_2).f0) ((rd_T29 l0 x21_2).f1) ((rd_T29 l0 x21_2).f2))) = some r := by rw [if_pos rfl] at H; exact H
      clear H
      have H := H1
      clear H1
      replace H := Option.bind_eq_some_iff.mp H
      obtain ⟨t401, A260, H⟩ := H
      replace H : (impl_DishesValid.j2 k2 l0 l1 x21_2 l0 (l0.length : Int) x21_2 (!t401) ((rd_T29 l0 x21_2).f0) ((rd_T29 l0 x21_2).f1) ((rd_T29 l0 x21_2).f2)) = some r := H
      have A26 := Aside0.mk A260
      clear A260
      have H' := Aside0.mk H
      clear H
      try go_wp2
      have n0_ : Aside0 ((((w13.setCell ⟨gb397, 0, none⟩ (.int .i64 ((rd_T29 l0 x21_2).f0))).setCell ⟨gb397, 1, none⟩ (.int .i64 ((rd_T29 l0 x21_2).f1))).setCell ⟨gb397, 2, none⟩ (.slice A396_2 ((rd_T29 l0 x21_2).f2).length c396_2)).heap[gb397]? = some (.cells #[.int .i64 ((rd_T29 l0 x21_2).f0), .int .i64 ((rd_T29 l0 x21_2).f1), .slice A396_2 ((rd_T29 l0 x21_2).f2).length c396_2] 29 (0, 0))) := ⟨by (with_reducible repeat (first | refine blk_drewN ?_ _ | refine blk_drew ?_ | refine blk_alloc ?_ _)); refine blk_put (cs := #[.int .i64 ((rd_T29 l0 x21_2).f0), .int .i64 ((rd_T29 l0 x21_2).f1), .slice none 0 0]) ?_ 2 _ rfl; (with_reducible repeat (first | refine blk_drewN ?_ _ | refine blk_drew ?_ | refine blk_alloc ?_ _)); refine blk_put (cs := #[.int .i64 ((rd_T29 l0 x21_2).f0), .int .i64 0, .slice none 0 0]) ?_ 1 _ rfl; (with_reducible repeat (first | refine blk_drewN ?_ _ | refine blk_drew ?_ | refine blk_alloc ?_ _)); refine blk_put (cs := #[.int .i64 0, .int .i64 0, .slice none 0 0]) ?_ 0 _ rfl; (with_reducible repeat (first | refine blk_drewN ?_ _ | refine blk_drew ?_ | refine blk_alloc ?_ _)); exact BK397.out⟩
      have n1_ : Aside0 (Below w.heap.size w (((w13.setCell ⟨gb397, 0, none⟩ (.int .i64 ((rd_T29 l0 x21_2).f0))).setCell ⟨gb397, 1, none⟩ (.int .i64 ((rd_T29 l0 x21_2).f1))).setCell ⟨gb397, 2, none⟩ (.slice A396_2 ((rd_T29 l0 x21_2).f2).length c396_2))) := ⟨pG GE397⟩
      (try clear BK397)
      (try clear HB)
      generalize (((w13.setCell ⟨gb397, 0, none⟩ (.int .i64 ((rd_T29 l0 x21_2).f0))).setCell ⟨gb397, 1, none⟩ (.int .i64 ((rd_T29 l0 x21_2).f1))).setCell ⟨gb397, 2, none⟩ (.slice A396_2 ((rd_T29 l0 x21_2).f2).length c396_2)) = w27 at n0_ n1_ ⊢
      have BK397 := n0_
      have HB := n1_
      clear n0_ n1_
      have n0_ := Aside0.mk (blk_drew BK397.out)
      have n1_ := Aside0.mk (below_drew1 HB.out)
      clear BK397
      clear HB
      have BK397 := n0_
      have HB := n1_
      clear n0_ n1_
      have p399 : 0 ≤ ((ji18) : Int) := of_decide_eq_true pA
      have q399 : (ji18) < (l0.length : Int) := of_decide_eq_true pA
      obtain ⟨ad399, A399_2, c399_2, e399, hx399_0, hx399_1, hx399_2, hl399_2, hi399_2⟩ := at_T29 HR0.out (ji18) p399 q399
      have hw399_2 := hx399_2
      have hw399_1 := hx399_1
      have hw399_0 := hx399_0
      obtain rfl : ad396 = ad399 := (by injection e399)
      replace hx399_0 := (HB.out.cell (World.block_lt_of_cell? w _ hx399_0)).trans hx399_0
      replace hx399_1 := (HB.out.cell (World.block_lt_of_cell? w _ hx399_1)).trans hx399_1
      replace hx399_2 := (HB.out.cell (World.block_lt_of_cell? w _ hx399_2)).trans hx399_2
      have HR399_2 := Aside0.mk (hi399_2)
      have HC399_2 := Aside0.mk hl399_2
      clear hi399_2 hl399_2
      replace p399 := eq_true p399
      replace q399 := eq_true q399
      refine start_ (n := 32) (S := fun w' => w'.cell? ⟨gb397, 0, none⟩ = some (.int .i64 ((rd_T29 l0 x21_2).f0)) ∧ w'.cell? ⟨gb397, 1, none⟩ = some (.int .i64 ((rd_T29 l0 x21_2).f1)) ∧ w'.cell? ⟨gb397, 2, none⟩ = some (.slice A396_2 ((rd_T29 l0 x21_2).f2).length c396_2) ∧ w'.cell? (ad396.add (((ji18)).toNat * 3)) = some (.int .i64 ((rd_T29 l0 (ji18)).f0)) ∧ w'.cell? ⟨(ad396.add (((ji18)).toNat * 3)).block, (ad396.add (((ji18)).toNat * 3)).off + 1, none⟩ = some (.int .i64 ((rd_T29 l0 (ji18)).f1)) ∧ w'.cell? ⟨(ad396.add (((ji18)).toNat * 3)).block, (ad396.add (((ji18)).toNat * 3)).off + 2, none⟩ = some (.slice A399_2 ((rd_T29 l0 (ji18)).f2).length c399_2)) (ds := []) #[false, false, false, false, false, false, false, false, false, false, false, false, false, false, false, false, false, false, false, false, false, false, false, false, false, false, false, false, false, false, false, false] pL rfl rfl ⟨(blk_cell BK397.out 0).trans rfl, (blk_cell BK397.out 1).trans rfl, (blk_cell BK397.out 2).trans rfl, ((HB.out.cell (World.block_lt_of_cell? w _ hw399_0)).trans hw399_0), ((HB.out.cell (World.block_lt_of_cell? w _ hw399_1)).trans hw399_1), ((HB.out.cell (World.block_lt_of_cell? w _ hw399_2)).trans hw399_2)⟩ (fun hHeld => ?_); refine with_tabW impl_DishesValid.tab6 impl_DishesValid.bits6 (fun HT_ HW_ => ?_)
      generalize w27.drew = w28 at BK397 HB HR399_2 hx399_0 hx399_1 hx399_2 hHeld ⊢
      refine pv 0 (some 26) HT_ rfl rfl pL ?_
      refine tv 1 (some 27) HT_ HW_ rfl rfl pL (fun _ _ _ h => h) (by rfl) F40.q4 hHeld pP ?_
      refine one_ (i := 2) (N := some 28) F40.b1 rfl rfl (one_of HT_.out pL) (by decide) (fun K hK => ?_)
      refine goes_ Try.func80 pL rfl #[.int .i64 ((rd_T29 l0 x21_2).f0)] (by rfl) rfl rfl pM ?_
      with_reducible refine (impl_isId.calls ((rd_T29 l0 x21_2).f0) true _ A15.out).mono ?_
      rintro e w' ⟨rfl, ⟨nd, rfl⟩⟩
      refine ⟨_, rfl, ?_⟩
      refine hK.out _ _ F40.q0 (fun hHeld => ?_)
      clear hK K
      refine norm_ (a' := ?_) ?_ ?_
      rotate_left
      ·show Act.put _ (some 28) _ = _
       exact pP
      refine pv 3 (some 29) HT_ rfl rfl pL ?_
      refine pv 4 (some 30) HT_ rfl rfl pL ?_
      refine pv 5 (some 31) HT_ rfl rfl pL ?_
      refine pv 6 (some 32) HT_ rfl rfl pL ?_
      refine pv 7 (some 33) HT_ rfl rfl pL ?_
      refine pv 8 (some 34) HT_ rfl rfl pL ?_
      refine pv 9 (some 35) HT_ rfl rfl pL ?_
      refine pv 10 (some 36) HT_ rfl rfl pL ?_
      refine pu 11 (some 37) F40.b2 HT_ rfl rfl pL (fun _ _ _ h => h) (by rfl) pY pP ?_
      refine pv 12 (some 38) HT_ rfl rfl pL ?_
      refine pv 14 (some 40) HT_ rfl rfl pL ?_
      refine tv 13 (some 39) HT_ HW_ rfl rfl pL (fun _ _ _ h => h) (by rfl) F40.q4 hHeld pP ?_
      refine tv 15 (some 41) HT_ HW_ rfl rfl pL (fun _ _ _ h => h) (by rfl) F40.q4 hHeld pP ?_
      refine pv 16 (some 42) HT_ rfl rfl pL ?_
      refine pv 17 (some 43) HT_ rfl rfl pL ?_
      refine pv 18 (some 44) HT_ rfl rfl pL ?_
      refine pv 19 (some 45) HT_ rfl rfl pL ?_
      refine pu 20 (some 46) F40.b3 HT_ rfl rfl pL (fun _ _ _ h => h) (by rfl) pY pP ?_
      refine tv 21 (some 47) HT_ HW_ rfl rfl pL (fun _ _ _ h => h) (by rfl) F40.q4 hHeld pP ?_
      refine one_ (i := 22) (N := some 48) F40.b6 rfl rfl (one_of HT_.out pL) (by decide) (fun K hK => ?_)
      refine goes_ Try.func76 pL rfl #[.int .i64 ((rd_T29 l0 x21_2).f1), .int .i64 1, .int .i64 12] (by rfl) rfl rfl pM ?_
      with_reducible refine (impl_within.calls ((rd_T29 l0 x21_2).f1) 1 12 true _ A24.out).mono ?_
      rintro e w' ⟨rfl, ⟨nd, rfl⟩⟩
      refine ⟨_, rfl, ?_⟩
      refine hK.out _ _ F40.q0 (fun hHeld => ?_)
      clear hK K
      refine norm_ (a' := ?_) ?_ ?_
      rotate_left
      ·show Act.put _ (some 48) _ = _
       exact pP
      refine pv 23 (some 49) HT_ rfl rfl pL ?_
      refine pv 24 (some 50) HT_ rfl rfl pL ?_
      refine pv 25 (some 51) HT_ rfl rfl pL ?_
      refine pv 26 (some 52) HT_ rfl rfl pL ?_
      refine tv 27 (some 53) HT_ HW_ rfl rfl pL (fun _ _ _ h => h) (by rfl) F40.q4 hHeld pP ?_
      refine pv 28 (some 54) HT_ rfl rfl pL ?_
      refine one_ (i := 29) (N := some 55) F40.b5 rfl rfl (one_of HT_.out pL) (by decide) (fun K hK => ?_)
      refine goes_ Try.func76 pL rfl #[.int .i64 (((rd_T29 l0 x21_2).f2).length : Int), .int .i64 1, .int .i64 5] (by rfl) rfl rfl pM ?_
      with_reducible refine (impl_within.calls (((rd_T29 l0 x21_2).f2).length : Int) 1 5 t401 _ A26.out).mono ?_
      rintro e w' ⟨rfl, ⟨nd, rfl⟩⟩
      refine ⟨_, rfl, ?_⟩
      refine hK.out _ _ F40.q0 (fun hHeld => ?_)
      clear hK K
      refine norm_ (a' := ?_) ?_ ?_
      rotate_left
      ·show Act.put _ (some 55) _ = _
       exact pP
      refine pv 30 (some 56) HT_ rfl rfl pL ?_
      refine pv 31 (some 57) HT_ rfl rfl pL ?_
      refine done_ (done_of HT_.out pL) ?_
      try go_wp2
      go_meet
      case rel => exact ⟨_, (!t401), pF, H', ⟨by have := HJ2.out; have := HK2.out; first | omega | exact Nat.le_refl _⟩, ⟨pC BK397⟩, ⟨pG GE397⟩⟩
     case rest =>
      clear HC12
      try clear c1
      try clear p2
      try clear c3
      try clear c7
      try clear c8
      try clear c16
      try clear c32
      try clear c39
      obtain ⟨kq, x57_11, rfl, HA, HJ11, BK397, HB⟩ := hcut
      cases kq with
      | zero => exact absurd HA.out (by simp [impl_DishesValid.j2])
      | succ kj11 =>
       have H := HA.out
       clear HA
       simp only [impl_DishesValid.j2] at H
       by_cases c40 : x57_11 = true
       ·subst c40
        have H1 : (some false) = some r := by rw [if_pos rfl] at H; exact H
        clear H
        have H := H1
        clear H1
        obtain rfl := Option.some.inj H
        go_wp2
        go_ret
        exact ⟨pE, pG GE397⟩
       replace c40 := Bool.eq_false_iff.mpr c40
       subst c40
       have H1 : (impl_DishesValid.l1 kj11 l0 l1 x21_2 l0 (l0.length : Int) x21_2 ((rd_T29 l0 x21_2).f2) (((rd_T29 l0 x21_2).f2).length : Int) 0) = some r := by rw [if_neg (show ¬ (false = true) by decide)] at H; exact H
       clear H
       have H := H1
       clear H1
       have H' := Aside0.mk H
       clear H
       have hcz41_0 : wc.cell? ⟨gb397, 0, none⟩ = some (.int .i64 ((rd_T29 l0 x21_2).f0)) := (blk_cell BK397.out 0).trans rfl
       have hcz41_1 : wc.cell? ⟨gb397, 1, none⟩ = some (.int .i64 ((rd_T29 l0 x21_2).f1)) := (blk_cell BK397.out 1).trans rfl
       have hcz41_2 : wc.cell? ⟨gb397, 2, none⟩ = some (.slice A396_2 ((rd_T29 l0 x21_2).f2).length c396_2) := (blk_cell BK397.out 2).trans rfl
       have hfz41_0 := blk_frozen BK397.out 0
       have hfz41_1 := blk_frozen BK397.out 1
       have hfz41_2 := blk_frozen BK397.out 2
       go_wp2
       go_loopg [61] kj11 (fun kq v61 w' => ∃ (x61_4 : Int), v61 = .int .i64 x61_4 ∧ Aside0 (impl_DishesValid.l1 kq l0 l1 x21_2 l0 (l0.length : Int) x21_2 ((rd_T29 l0 x21_2).f2) (((rd_T29 l0 x21_2).f2).length : Int) x61_4 = some r) ∧ Aside0 (kq ≤ kj11) ∧ Aside0 (w'.heap[gb397]? = some (.cells #[.int .i64 ((rd_T29 l0 x21_2).f0), .int .i64 ((rd_T29 l0 x21_2).f1), (.slice A396_2 ((rd_T29 l0 x21_2).f2).length c396_2)] 29 (0, 0))) ∧ Aside0 (Below w.heap.size w w'))
       case atStart => exact ⟨(0), pF, H', ⟨Nat.le_refl _⟩, ⟨pC BK397⟩, ⟨pG GE397⟩⟩
       case round =>
        clear H'
        try clear c1
        try clear p2
        try clear c3
        try clear c4
        try clear c7
        try clear c8
        try clear c16
        try clear c32
        try clear c39
        try clear c40
        try clear hcz41_0
        try clear hcz41_1
        try clear hcz41_2
        try clear hfz41_0
        try clear hfz41_1
        try clear hfz41_2
        try clear p2
        obtain ⟨x61_4, rfl, HA, HK4, BK397, HB⟩ := hrel
        cases gk with
        | zero => exact absurd HA.out (by simp [impl_DishesValid.l1])
        | succ k4 =>
         have H := HA.out
         clear HA
         simp only [impl_DishesValid.l1] at H
         rcases (Classical.em (x61_4 < (((rd_T29 l0 x21_2).f2).length : Int))).symm with c42 | c42
         ·rw [if_neg c42] at H
          have c42b0 : decide (x61_4 < (((rd_T29 l0 x21_2).f2).length : Int)) = false := decide_eq_false c42
          clear c42
          have H' := Aside0.mk H
          clear H
          go_wp2
          go_roundg k4
          case measure => have := HJ2.out; have := HK2.out; have := HJ11.out; have := HK4.out; omega
          case rel => exact ⟨(wrap64 (x21_2 + 1)), pF, H', ⟨by have := HJ2.out; have := HK2.out; have := HJ11.out; have := HK4.out; omega⟩, ⟨pG GE397⟩⟩
         rw [if_pos c42] at H
         have c42b0 : decide (x61_4 < (((rd_T29 l0 x21_2).f2).length : Int)) = true := decide_eq_true c42
         clear c42
         rcases (Classical.em (0 ≤ x61_4)).symm with c43 | c43
         ·rw [if_neg c43] at H
          exact absurd H (by simp)
         rw [if_pos c43] at H
         have c43b0 : decide (0 ≤ x61_4) = true := decide_eq_true c43
         clear c43
         rcases (Classical.em (x61_4 < (((rd_T29 l0 x21_2).f2).length : Int))).symm with c44 | c44
         ·rw [if_neg c44] at H
          exact absurd H (by simp)
         rw [if_pos c44] at H
         have c44b0 : decide (x61_4 < (((rd_T29 l0 x21_2).f2).length : Int)) = true := decide_eq_true c44
         clear c44
         have HC45 := Aside0.mk H
         clear H
         have p404 : 0 ≤ (x61_4 : Int) := of_decide_eq_true pA
         have q404 : x61_4 < (((rd_T29 l0 x21_2).f2).length : Int) := of_decide_eq_true pA
         obtain ⟨ad404, e404, hx404_0, hx404_1, hx404_2⟩ := at_T55 HR396_2.out x61_4 p404 q404
         cases e404
         replace hx404_0 := (HB.out.cell (World.block_lt_of_cell? w _ hx404_0)).trans hx404_0
         replace hx404_1 := (HB.out.cell (World.block_lt_of_cell? w _ hx404_1)).trans hx404_1
         replace hx404_2 := (HB.out.cell (World.block_lt_of_cell? w _ hx404_2)).trans hx404_2
         replace p404 := eq_true p404
         replace q404 := eq_true q404
         go_upto_region 11 with (first | ((with_reducible refine gate_dst (N := 8) rfl ?_); (try (refine gate_guard (by rfl) ?_; dsimp only)); refine box_event ?hg (N := 8) ?hd (cs := #[.int .i64 0, .int .i64 0, .int .i64 0]) (t := 55) ?hr ?_; (case hd => rfl); (case hg => rfl); (case hr => first | (go_simp; done) | (go_simp; rfl)); intro gb405 hg w46 hbox hb; have n0_ := Aside0.mk (blk_below (g := gb397) (o := .cells #[.int .i64 ((rd_T29 l0 x21_2).f0), .int .i64 ((rd_T29 l0 x21_2).f1), .slice (some ad404) ((rd_T29 l0 x21_2).f2).length c396_2] 29 (0, 0)) (pC BK397) hb); have n1_ := Aside0.mk (below_step (pG GE397) hb); have n2_ := Aside0.mk (hbox); have n3_ := Aside0.mk ((by rw [hg]; exact (below_size (pG GE397)) : w.heap.size ≤ gb405)); have n4_ := Aside0.mk ((by rw [hg]; exact (below_size (pG GE397)) : w.heap.size ≤ gb405)); have n5_ := Aside0.mk ((by rw [hg]; exact Nat.ne_of_lt (blk_lt (g := gb397) (o := .cells #[.int .i64 ((rd_T29 l0 x21_2).f0), .int .i64 ((rd_T29 l0 x21_2).f1), .slice (some ad404) ((rd_T29 l0 x21_2).f2).length c396_2] 29 (0, 0)) (pC BK397)) : gb397 ≠ gb405)); have n6_ := Aside0.mk ((by rw [hg]; exact Nat.ne_of_gt (blk_lt (g := gb397) (o := .cells #[.int .i64 ((rd_T29 l0 x21_2).f0), .int .i64 ((rd_T29 l0 x21_2).f1), .slice (some ad404) ((rd_T29 l0 x21_2).f2).length c396_2] 29 (0, 0)) (pC BK397)) : gb405 ≠ gb397)); clear BK397; clear HB; have BK397 := n0_; have HB := n1_; have BK405 := n2_; have GW405 := n3_; have GE405 := n4_; have NB397_405 := n5_; have NB405_397 := n6_; clear n0_ n1_ n2_ n3_ n4_ n5_ n6_; clear hb hbox hg; have hnb47 := NB405_397.out; have hnc47 := NB397_405.out; have hcz48_0 : w46.cell? ⟨gb405, 0, none⟩ = some (.int .i64 0) := (blk_cell BK405.out 0).trans rfl; have hcz48_1 : w46.cell? ⟨gb405, 1, none⟩ = some (.int .i64 0) := (blk_cell BK405.out 1).trans rfl; have hcz48_2 : w46.cell? ⟨gb405, 2, none⟩ = some (.int .i64 0) := (blk_cell BK405.out 2).trans rfl; have hfz48_0 := blk_frozen BK405.out 0; have hfz48_1 := blk_frozen BK405.out 1; have hfz48_2 := blk_frozen BK405.out 2))
         (try simp only [Act.put, List.setIfInBounds_toArray, List.set_cons_zero, List.set_cons_succ])
         go_cut [9] (fun v9 wc => ∃ (kq : Nat) (x9_44 : Bool), v9 = .bool x9_44 ∧ Aside0 (impl_DishesValid.j4 kq l0 l1 x21_2 x9_44 l0 (l0.length : Int) x21_2 ((rd_T29 l0 x21_2).f2) (((rd_T29 l0 x21_2).f2).length : Int) x61_4 ((rd_T55 ((rd_T29 l0 x21_2).f2) x61_4).f0) ((rd_T55 ((rd_T29 l0 x21_2).f2) x61_4).f1) ((rd_T55 ((rd_T29 l0 x21_2).f2) x61_4).f2) = some r) ∧ Aside0 (kq ≤ k4) ∧ Aside0 (wc.heap[gb397]? = some (.cells #[.int .i64 ((rd_T29 l0 x21_2).f0), .int .i64 ((rd_T29 l0 x21_2).f1), (.slice (some ad404) ((rd_T29 l0 x21_2).f2).length c396_2)] 29 (0, 0))) ∧ Aside0 (wc.heap[gb405]? = some (.cells #[.int .i64 ((rd_T55 ((rd_T29 l0 x21_2).f2) x61_4).f0), .int .i64 ((rd_T55 ((rd_T29 l0 x21_2).f2) x61_4).f1), .int .i64 ((rd_T55 ((rd_T29 l0 x21_2).f2) x61_4).f2)] 55 (0, 0))) ∧ Aside0 (Below w.heap.size w wc))
         case first =>
          have H := HC45.out
          clear HC45
          rcases (Classical.em (((rd_T55 ((rd_T29 l0 x21_2).f2) x61_4).f1) = 0)).symm with c49 | c49
          ·rw [if_neg c49] at H
           have c49b0 : (((rd_T55 ((rd_T29 l0 x21_2).f2) x61_4).f1) == 0) = false := beq_eq_false_iff_ne.mpr c49
           have c49b1 : (((rd_T55 ((rd_T29 l0 x21_2).f2) x61_4).f1) != 0) = true := bne_iff_ne.mpr c49
           (first | rw [c49b0] | (simp only [i64_w, i32_w]; rw [c49b0]) | skip)
           have H' := Aside0.mk H
           clear H
           have hnb60 := NB405_397.out
           have hnc60 := NB397_405.out
           have hcz61_0 : w46.cell? ⟨gb405, 0, none⟩ = some (.int .i64 0) := (blk_cell BK405.out 0).trans rfl
           have hcz61_1 : w46.cell? ⟨gb405, 1, none⟩ = some (.int .i64 0) := (blk_cell BK405.out 1).trans rfl
           have hcz61_2 : w46.cell? ⟨gb405, 2, none⟩ = some (.int .i64 0) := (blk_cell BK405.out 2).trans rfl
           have hfz61_0 := blk_frozen BK405.out 0
           have hfz61_1 := blk_frozen BK405.out 1
           have hfz61_2 := blk_frozen BK405.out 2
           go_wp2
           go_meet
           case rel => exact ⟨_, (false), pF, H', ⟨by have := HJ2.out; have := HK2.out; have := HJ11.out; have := HK4.out; first | omega | exact Nat.le_refl _⟩, ⟨by (with_reducible repeat (first | refine blk_drewN ?_ _ | refine blk_drew ?_ | refine blk_alloc ?_ _)); refine blk_far ?_ NB397_405.out _; (with_reducible repeat (first | refine blk_drewN ?_ _ | refine blk_drew ?_ | refine blk_alloc ?_ _)); refine blk_far ?_ NB397_405.out _; (with_reducible repeat (first | refine blk_drewN ?_ _ | refine blk_drew ?_ | refine blk_alloc ?_ _)); refine blk_far ?_ NB397_405.out _; (with_reducible repeat (first | refine blk_drewN ?_ _ | refine blk_drew ?_ | refine blk_alloc ?_ _)); exact BK397.out⟩, ⟨by (with_reducible repeat (first | refine blk_drewN ?_ _ | refine blk_drew ?_ | refine blk_alloc ?_ _)); refine blk_put (cs := #[.int .i64 ((rd_T55 ((rd_T29 l0 x21_2).f2) x61_4).f0), .int .i64 ((rd_T55 ((rd_T29 l0 x21_2).f2) x61_4).f1), .int .i64 0]) ?_ 2 _ rfl; (with_reducible repeat (first | refine blk_drewN ?_ _ | refine blk_drew ?_ | refine blk_alloc ?_ _)); refine blk_put (cs := #[.int .i64 ((rd_T55 ((rd_T29 l0 x21_2).f2) x61_4).f0), .int .i64 0, .int .i64 0]) ?_ 1 _ rfl; (with_reducible repeat (first | refine blk_drewN ?_ _ | refine blk_drew ?_ | refine blk_alloc ?_ _)); refine blk_put (cs := #[.int .i64 0, .int .i64 0, .int .i64 0]) ?_ 0 _ rfl; (with_reducible repeat (first | refine blk_drewN ?_ _ | refine blk_drew ?_ | refine blk_alloc ?_ _)); exact BK405.out⟩, ⟨by repeat (first | (with_reducible first | exact HB.out | apply below_alloc | apply pw_below_drewN | apply below_drew1 | refine below_set ?_ GE397.out | refine below_set ?_ GE405.out) | exact HB.out)⟩⟩
          rw [if_pos c49] at H
          have c49b0 : (((rd_T55 ((rd_T29 l0 x21_2).f2) x61_4).f1) == 0) = true := beq_iff_eq.mpr c49
          have c49b1 : (((rd_T55 ((rd_T29 l0 x21_2).f2) x61_4).f1) != 0) = false := bne_eq_false_iff_eq.mpr c49
          clear c49
          (first | rw [c49b0] | (simp only [i64_w, i32_w]; rw [c49b0]) | skip)
          replace H := Option.bind_eq_some_iff.mp H
          obtain ⟨t406, A500, H⟩ := H
          replace H : (if t406 ≥ 0 then ((impl_within.f ((rd_T55 ((rd_T29 l0 x21_2).f2) x61_4).f2) 1 999).bind fun t407 => (impl_DishesValid.j4 k4 l0 l1 x21_2 t407 l0 (l0.length : Int) x21_2 ((rd_T29 l0 x21_2).f2) (((rd_T29 l0 x21_2).f2).length : Int) x61_4 ((rd_T55 ((rd_T29 l0 x21_2).f2) x61_4).f0) ((rd_T55 ((rd_T29 l0 x21_2).f2) x61_4).f1) ((rd_T55 ((rd_T29 l0 x21_2).f2) x61_4).f2))) else (impl_DishesValid.j4 k4 l0 l1 x21_2 false l0 (l0.length : Int) x21_2 ((rd_T29 l0 x21_2).f2) (((rd_T29 l0 x21_2).f2).length : Int) x61_4 ((rd_T55 ((rd_T29 l0 x21_2).f2) x61_4).f0) ((rd_T55 ((rd_T29 l0 x21_2).f2) x61_4).f1) ((rd_T55 ((rd_T29 l0 x21_2).f2) x61_4).f2))) = some r := H
          have A50 := Aside0.mk A500
          clear A500
          rcases (Classical.em (t406 ≥ 0)).symm with c51 | c51
          ·rw [if_neg c51] at H
           have c51b0 : decide (0 ≤ t406) = false := decide_eq_false c51
           clear c51
           have H' := Aside0.mk H
           clear H
           have hnb57 := NB405_397.out
           have hnc57 := NB397_405.out
           have hcz58_0 : w46.cell? ⟨gb405, 0, none⟩ = some (.int .i64 0) := (blk_cell BK405.out 0).trans rfl
           have hcz58_1 : w46.cell? ⟨gb405, 1, none⟩ = some (.int .i64 0) := (blk_cell BK405.out 1).trans rfl
           have hcz58_2 : w46.cell? ⟨gb405, 2, none⟩ = some (.int .i64 0) := (blk_cell BK405.out 2).trans rfl
           have hfz58_0 := blk_frozen BK405.out 0
           have hfz58_1 := blk_frozen BK405.out 1
           have hfz58_2 := blk_frozen BK405.out 2
           go_wp2_with (first | (go_at_call 81; (with_reducible refine (impl_foodPlace.calls _ _ l1 ((rd_T55 ((rd_T29 l0 x21_2).f2) x61_4).f0) t406 _ ?side1 ?side2 A50.out).mono ?_); (case side1 => exact Kd.C_below HR1.out F40.q1); (case side2 => exact HC1.out); rintro e w59 ⟨rfl, hb⟩; have n0_ := Aside0.mk (blk_below (g := gb397) (o := .cells #[.int .i64 ((rd_T29 l0 x21_2).f0), .int .i64 ((rd_T29 l0 x21_2).f1), .slice (some ad404) ((rd_T29 l0 x21_2).f2).length c396_2] 29 (0, 0)) F40.q5 hb); have n1_ := Aside0.mk (blk_below (g := gb405) (o := .cells #[.int .i64 ((rd_T55 ((rd_T29 l0 x21_2).f2) x61_4).f0), .int .i64 ((rd_T55 ((rd_T29 l0 x21_2).f2) x61_4).f1), .int .i64 ((rd_T55 ((rd_T29 l0 x21_2).f2) x61_4).f2)] 55 (0, 0)) F40.q2 hb); have n2_ := Aside0.mk (below_step F40.q1 hb); clear BK397; clear BK405; clear HB; have BK397 := n0_; have BK405 := n1_; have HB := n2_; clear n0_ n1_ n2_; (try clear hb); (try clear hb2); (try clear hk); (try clear hi)))
           go_meet
           case rel => exact ⟨_, (false), pF, H', ⟨by have := HJ2.out; have := HK2.out; have := HJ11.out; have := HK4.out; first | omega | exact Nat.le_refl _⟩, ⟨pC BK397⟩, ⟨pC BK405⟩, ⟨by repeat (first | (with_reducible first | exact HB.out | apply below_alloc | apply pw_below_drewN | apply below_drew1 | refine below_set ?_ GE397.out | refine below_set ?_ GE405.out) | exact HB.out)⟩⟩
          rw [if_pos c51] at H
          have c51b0 : decide (0 ≤ t406) = true := decide_eq_true c51
          clear c51
          replace H := Option.bind_eq_some_iff.mp H
          obtain ⟨t407, A520, H⟩ := H
          replace H : (impl_DishesValid.j4 k4 l0 l1 x21_2 t407 l0 (l0.length : Int) x21_2 ((rd_T29 l0 x21_2).f2) (((rd_T29 l0 x21_2).f2).length : Int) x61_4 ((rd_T55 ((rd_T29 l0 x21_2).f2) x61_4).f0) ((rd_T55 ((rd_T29 l0 x21_2).f2) x61_4).f1) ((rd_T55 ((rd_T29 l0 x21_2).f2) x61_4).f2)) = some r := H
          have A52 := Aside0.mk A520
          clear A520
          have H' := Aside0.mk H
          clear H
          have hnb53 := NB405_397.out
          have hnc53 := NB397_405.out
          have hcz54_0 : w46.cell? ⟨gb405, 0, none⟩ = some (.int .i64 0) := (blk_cell BK405.out 0).trans rfl
          have hcz54_1 : w46.cell? ⟨gb405, 1, none⟩ = some (.int .i64 0) := (blk_cell BK405.out 1).trans rfl
          have hcz54_2 : w46.cell? ⟨gb405, 2, none⟩ = some (.int .i64 0) := (blk_cell BK405.out 2).trans rfl
          have hfz54_0 := blk_frozen BK405.out 0
          have hfz54_1 := blk_frozen BK405.out 1
          have hfz54_2 := blk_frozen BK405.out 2
          go_wp2_with (first | (go_at_call 81; (with_reducible refine (impl_foodPlace.calls _ _ l1 ((rd_T55 ((rd_T29 l0 x21_2).f2) x61_4).f0) t406 _ ?side1 ?side2 A50.out).mono ?_); (case side1 => exact Kd.C_below HR1.out F40.q1); (case side2 => exact HC1.out); rintro e w55 ⟨rfl, hb⟩; have n0_ := Aside0.mk (blk_below (g := gb397) (o := .cells #[.int .i64 ((rd_T29 l0 x21_2).f0), .int .i64 ((rd_T29 l0 x21_2).f1), .slice (some ad404) ((rd_T29 l0 x21_2).f2).length c396_2] 29 (0, 0)) F40.q5 hb); have n1_ := Aside0.mk (blk_below (g := gb405) (o := .cells #[.int .i64 ((rd_T55 ((rd_T29 l0 x21_2).f2) x61_4).f0), .int .i64 ((rd_T55 ((rd_T29 l0 x21_2).f2) x61_4).f1), .int .i64 ((rd_T55 ((rd_T29 l0 x21_2).f2) x61_4).f2)] 55 (0, 0)) F40.q2 hb); have n2_ := Aside0.mk (below_step F40.q1 hb); clear BK397; clear BK405; clear HB; have BK397 := n0_; have BK405 := n1_; have HB := n2_; clear n0_ n1_ n2_; (try clear hb); (try clear hb2); (try clear hk); (try clear hi); have hcz56_0 : w55.cell? ⟨gb405, 0, none⟩ = some (.int .i64 ((rd_T55 ((rd_T29 l0 x21_2).f2) x61_4).f0)) := (blk_cell BK405.out 0).trans rfl; have hcz56_1 : w55.cell? ⟨gb405, 1, none⟩ = some (.int .i64 ((rd_T55 ((rd_T29 l0 x21_2).f2) x61_4).f1)) := (blk_cell BK405.out 1).trans rfl; have hcz56_2 : w55.cell? ⟨gb405, 2, none⟩ = some (.int .i64 ((rd_T55 ((rd_T29 l0 x21_2).f2) x61_4).f2)) := (blk_cell BK405.out 2).trans rfl; have hfz56_0 := blk_frozen BK405.out 0; have hfz56_1 := blk_frozen BK405.out 1; have hfz56_2 := blk_frozen BK405.out 2) | (go_at_call 76; (with_reducible refine (impl_within.calls ((rd_T55 ((rd_T29 l0 x21_2).f2) x61_4).f2) 1 999 t407 _ A52.out).mono ?_); rintro e w' ⟨rfl, ⟨nd, rfl⟩⟩))
          go_meet
          case rel => exact ⟨_, (t407), pF, H', ⟨by have := HJ2.out; have := HK2.out; have := HJ11.out; have := HK4.out; first | omega | exact Nat.le_refl _⟩, ⟨pC BK397⟩, ⟨pC BK405⟩, ⟨by repeat (first | (with_reducible first | exact HB.out | apply below_alloc | apply pw_below_drewN | apply below_drew1 | refine below_set ?_ GE397.out | refine below_set ?_ GE405.out) | exact HB.out)⟩⟩
         case rest =>
          clear HC45
          try clear c1
          try clear p2
          try clear c3
          try clear c4
          try clear p4
          try clear q4
          try clear hx4
          try clear c5
          try clear c6
          try clear c7
          try clear c8
          try clear c16
          try clear c32
          try clear c39
          try clear c40
          try clear p40
          try clear q40
          try clear hx40
          try clear c42
          try clear c42b0
          try clear c43
          try clear c43b0
          try clear c44
          try clear c44b0
          try clear c47
          try clear c49
          try clear c49b0
          try clear c49b1
          try clear c51
          try clear c51b0
          try clear c53
          try clear c57
          try clear c60
          try clear hcz41_0
          try clear hcz41_1
          try clear hcz41_2
          try clear hcz48_0
          try clear hcz48_1
          try clear hcz48_2
          try clear hcz54_0
          try clear hcz54_1
          try clear hcz54_2
          try clear hcz56_0
          try clear hcz56_1
          try clear hcz56_2
          try clear hcz58_0
          try clear hcz58_1
          try clear hcz58_2
          try clear hcz61_0
          try clear hcz61_1
          try clear hcz61_2
          try clear hfz41_0
          try clear hfz41_1
          try clear hfz41_2
          try clear hfz48_0
          try clear hfz48_1
          try clear hfz48_2
          try clear hfz54_0
          try clear hfz54_1
          try clear hfz54_2
          try clear hfz56_0
          try clear hfz56_1
          try clear hfz56_2
          try clear hfz58_0
          try clear hfz58_1
          try clear hfz58_2
          try clear hfz61_0
          try clear hfz61_1
          try clear hfz61_2
          try clear hx404_0
          try clear hx404_1
          try clear hx404_2
          try clear p2
          try clear p404
          try clear q404
          obtain ⟨kq, x9_44, rfl, HA, HJ44, BK397, BK405, HB⟩ := hcut
          cases kq with
          | zero => exact absurd HA.out (by simp [impl_DishesValid.j4])
          | succ kj44 =>
           have H := HA.out
           clear HA
           simp only [impl_DishesValid.j4] at H
           rcases (Classical.em (((rd_T55 ((rd_T29 l0 x21_2).f2) x61_4).f0) = 0)).symm with c62 | c62
           ·rw [if_neg c62] at H
            have c62b0 : (((rd_T55 ((rd_T29 l0 x21_2).f2) x61_4).f0) == 0) = false := beq_eq_false_iff_ne.mpr c62
            have c62b1 : (((rd_T55 ((rd_T29 l0 x21_2).f2) x61_4).f0) != 0) = true := bne_iff_ne.mpr c62
            rcases (Classical.em (x9_44 = true)).symm with c86 | c86
            ·replace c86 := Bool.eq_false_iff.mpr c86
             subst c86
             have H1 : (some false) = some r := by rw [if_neg (show ¬ (false = true) by decide)] at H; exact H
             clear H
             have H := H1
             clear H1
             obtain rfl := Option.some.inj H
             try go_wp2
             have n0_ := Aside0.mk (blk_drew BK397.out)
             have n1_ := Aside0.mk (blk_drew BK405.out)
             have n2_ := Aside0.mk (below_drew1 HB.out)
             clear BK397
             clear BK405
             clear HB
             have BK397 := n0_
             have BK405 := n1_
             have HB := n2_
             clear n0_ n1_ n2_
             refine start_ (n := 18) (S := fun w' => w'.cell? ⟨gb405, 0, none⟩ = some (.int .i64 ((rd_T55 ((rd_T29 l0 x21_2).f2) x61_4).f0)) ∧ w'.cell? ⟨gb405, 1, none⟩ = some (.int .i64 ((rd_T55 ((rd_T29 l0 x21_2).f2) x61_4).f1)) ∧ w'.cell? ⟨gb405, 2, none⟩ = some (.int .i64 ((rd_T55 ((rd_T29 l0 x21_2).f2) x61_4).f2))) (ds := []) #[false, false, false, false, false, false, false, false, false, false, false, false, false, false, false, false, false, false] pL rfl rfl ⟨(blk_cell BK405.out 0).trans rfl, (blk_cell BK405.out 1).trans rfl, (blk_cell BK405.out 2).trans rfl⟩ (fun hHeld => ?_); refine with_tabW impl_DishesValid.tab12 impl_DishesValid.bits12 (fun HT_ HW_ => ?_)
             generalize wc.drew = w88 at BK397 BK405 HB hHeld ⊢
             refine pv 0 (some 80) HT_ rfl rfl pL ?_
             refine tv 1 (some 81) HT_ HW_ rfl rfl pL (fun _ _ _ h => h) (by rfl) (by rintro w' ⟨s0, s1, s2⟩; go_simp; with_reducible rfl) hHeld pP ?_
             refine pv 2 (some 82) HT_ rfl rfl pL ?_
             refine pv 3 (some 83) HT_ rfl rfl pL ?_
             refine uv 4 (some 84) HT_ rfl rfl pL ?_
             refine uv 5 (some 85) HT_ rfl rfl pL ?_
             refine uv 6 (some 86) HT_ rfl rfl pL ?_
             refine uv 7 (some 87) HT_ rfl rfl pL ?_
             refine un 8 (some 88) F40.b0 HT_ rfl rfl pL (fun _ _ _ h => h) (by rfl) pP ?_
             refine uv 9 (some 89) HT_ rfl rfl pL ?_
             refine uv 10 (some 90) HT_ rfl rfl pL ?_
             refine pv 11 (some 91) HT_ rfl rfl pL ?_
             refine pv 12 (some 92) HT_ rfl rfl pL ?_
             refine uv 13 (some 93) HT_ rfl rfl pL ?_
             refine uv 14 (some 94) HT_ rfl rfl pL ?_
             refine uv 15 (some 95) HT_ rfl rfl pL ?_
             refine pv 16 (some 96) HT_ rfl rfl pL ?_
             refine pu 17 (some 10) F40.b9 HT_ rfl rfl pL (fun _ _ _ h => h) (by rfl) pY pP ?_
             refine done_ (done_of HT_.out pL) ?_
             try go_wp2
             go_ret
             exact ⟨pE, by repeat (first | (with_reducible first | exact HB.out | apply below_alloc | apply pw_below_drewN | apply below_drew1 | refine below_set ?_ GE397.out | refine below_set ?_ GE405.out) | exact HB.out)⟩
            subst c86
            have H1 : (impl_DishesValid.l1 kj44 l0 l1 x21_2 l0 (l0.length : Int) x21_2 ((rd_T29 l0 x21_2).f2) (((rd_T29 l0 x21_2).f2).length : Int) (wrap64 (x61_4 + 1))) = some r := by rw [if_pos rfl] at H; exact H
            clear H
            have H := H1
            clear H1
            have H' := Aside0.mk H
            clear H
            try go_wp2
            have n0_ := Aside0.mk (blk_drew BK397.out)
            have n1_ := Aside0.mk (blk_drew BK405.out)
            have n2_ := Aside0.mk (below_drew1 HB.out)
            clear BK397
            clear BK405
            clear HB
            have BK397 := n0_
            have BK405 := n1_
            have HB := n2_
            clear n0_ n1_ n2_
            refine start_ (n := 18) (S := fun w' => w'.cell? ⟨gb405, 0, none⟩ = some (.int .i64 ((rd_T55 ((rd_T29 l0 x21_2).f2) x61_4).f0)) ∧ w'.cell? ⟨gb405, 1, none⟩ = some (.int .i64 ((rd_T55 ((rd_T29 l0 x21_2).f2) x61_4).f1)) ∧ w'.cell? ⟨gb405, 2, none⟩ = some (.int .i64 ((rd_T55 ((rd_T29 l0 x21_2).f2) x61_4).f2))) (ds := []) #[false, false, false, false, false, false, false, false, false, false, false, false, false, false, false, false, false, false] pL rfl rfl ⟨(blk_cell BK405.out 0).trans rfl, (blk_cell BK405.out 1).trans rfl, (blk_cell BK405.out 2).trans rfl⟩ (fun hHeld => ?_); refine with_tabW impl_DishesValid.tab12 impl_DishesValid.bits12 (fun HT_ HW_ => ?_)
            generalize wc.drew = w87 at BK397 BK405 HB hHeld ⊢
            refine pv 0 (some 80) HT_ rfl rfl pL ?_
            refine tv 1 (some 81) HT_ HW_ rfl rfl pL (fun _ _ _ h => h) (by rfl) (by rintro w' ⟨s0, s1, s2⟩; go_simp; with_reducible rfl) hHeld pP ?_
            refine pv 2 (some 82) HT_ rfl rfl pL ?_
            refine pv 3 (some 83) HT_ rfl rfl pL ?_
            refine uv 4 (some 84) HT_ rfl rfl pL ?_
            refine uv 5 (some 85) HT_ rfl rfl pL ?_
            refine uv 6 (some 86) HT_ rfl rfl pL ?_
            refine uv 7 (some 87) HT_ rfl rfl pL ?_
            refine un 8 (some 88) F40.b0 HT_ rfl rfl pL (fun _ _ _ h => h) (by rfl) pP ?_
            refine uv 9 (some 89) HT_ rfl rfl pL ?_
            refine uv 10 (some 90) HT_ rfl rfl pL ?_
            refine pv 11 (some 91) HT_ rfl rfl pL ?_
            refine pv 12 (some 92) HT_ rfl rfl pL ?_
            refine uv 13 (some 93) HT_ rfl rfl pL ?_
            refine uv 14 (some 94) HT_ rfl rfl pL ?_
            refine uv 15 (some 95) HT_ rfl rfl pL ?_
            refine pv 16 (some 96) HT_ rfl rfl pL ?_
            refine pu 17 (some 10) F40.b9 HT_ rfl rfl pL (fun _ _ _ h => h) (by rfl) pY pP ?_
            refine done_ (done_of HT_.out pL) ?_
            try go_wp2
            go_roundg kj44
            case measure => have := HJ2.out; have := HK2.out; have := HJ11.out; have := HK4.out; have := HJ44.out; omega
            case rel => exact ⟨(wrap64 (x61_4 + 1)), pF, H', ⟨by have := HJ2.out; have := HK2.out; have := HJ11.out; have := HK4.out; have := HJ44.out; omega⟩, ⟨pC BK397⟩, ⟨by repeat (first | (with_reducible first | exact HB.out | apply below_alloc | apply pw_below_drewN | apply below_drew1 | refine below_set ?_ GE397.out | refine below_set ?_ GE405.out) | exact HB.out)⟩⟩
           rw [if_pos c62] at H
           have c62b0 : (((rd_T55 ((rd_T29 l0 x21_2).f2) x61_4).f0) == 0) = true := beq_iff_eq.mpr c62
           have c62b1 : (((rd_T55 ((rd_T29 l0 x21_2).f2) x61_4).f0) != 0) = false := bne_eq_false_iff_eq.mpr c62
           clear c62
           rcases (Classical.em (0 ≤ x21_2)).symm with c63 | c63
           ·rw [if_neg c63] at H
            exact absurd H (by simp)
           rw [if_pos c63] at H
           have c63b0 := eq_true c63
           have c63b1 : decide (0 ≤ x21_2) = true := decide_eq_true c63
           clear c63
           rcases (Classical.em (x21_2 ≤ (l0.length : Int))).symm with c64 | c64
           ·rw [if_neg c64] at H
            exact absurd H (by simp)
           rw [if_pos c64] at H
           have c64b0 := eq_true c64
           have c64b1 : decide (x21_2 ≤ (l0.length : Int)) = true := decide_eq_true c64
           clear c64
           obtain ⟨y408, hy408⟩ : ∃ y_ : List (S29), y_ = (l0.take (x21_2 : Int).toNat) := ⟨_, rfl⟩
           replace H : ((impl_DishesFind.f y408 ((rd_T55 ((rd_T29 l0 x21_2).f2) x61_4).f1)).bind fun t412 => (if t412 ≥ 0 then ((impl_within.f ((rd_T55 ((rd_T29 l0 x21_2).f2) x61_4).f2) 1 9).bind fun t413 => (if x9_44 = true then (impl_DishesValid.l1 kj44 l0 l1 x21_2 l0 (l0.length : Int) x21_2 ((rd_T29 l0 x21_2).f2) (((rd_T29 l0 x21_2).f2).length : Int) (wrap64 (x61_4 + 1))) else (if t413 = true then (impl_DishesValid.l1 kj44 l0 l1 x21_2 l0 (l0.length : Int) x21_2 ((rd_T29 l0 x21_2).f2) (((rd_T29 l0 x21_2).f2).length : Int) (wrap64 (x61_4 + 1))) else (some false)))) else (if x9_44 = true then (impl_DishesValid.l1 kj44 l0 l1 x21_2 l0 (l0.length : Int) x21_2 ((rd_T29 l0 x21_2).f2) (((rd_T29 l0 x21_2).f2).length : Int) (wrap64 (x61_4 + 1))) else (some false)))) = some r := pJ hy408 H
           have Ny408 := Aside0.mk hy408
           clear hy408
           replace H := Option.bind_eq_some_iff.mp H
           obtain ⟨t412, A650, H⟩ := H
           replace H : (if t412 ≥ 0 then ((impl_within.f ((rd_T55 ((rd_T29 l0 x21_2).f2) x61_4).f2) 1 9).bind fun t413 => (if x9_44 = true then (impl_DishesValid.l1 kj44 l0 l1 x21_2 l0 (l0.length : Int) x21_2 ((rd_T29 l0 x21_2).f2) (((rd_T29 l0 x21_2).f2).length : Int) (wrap64 (x61_4 + 1))) else (if t413 = true then (impl_DishesValid.l1 kj44 l0 l1 x21_2 l0 (l0.length : Int) x21_2 ((rd_T29 l0 x21_2).f2) (((rd_T29 l0 x21_2).f2).length : Int) (wrap64 (x61_4 + 1))) else (some false)))) else (if x9_44 = true then (impl_DishesValid.l1 kj44 l0 l1 x21_2 l0 (l0.length : Int) x21_2 ((rd_T29 l0 x21_2).f2) (((rd_T29 l0 x21_2).f2).length : Int) (wrap64 (x61_4 + 1))) else (some false))) = some r := H
           have A65 := Aside0.mk A650
           clear A650
           rcases (Classical.em (t412 ≥ 0)).symm with c66 | c66
           ·rw [if_neg c66] at H
            have c66b0 : decide (0 ≤ t412) = false := decide_eq_false c66
            clear c66
            rcases (Classical.em (x9_44 = true)).symm with c79 | c79
            ·replace c79 := Bool.eq_false_iff.mpr c79
             subst c79
             have H1 : (some false) = some r := by rw [if_neg (show ¬ (false = true) by decide)] at H; exact H
             clear H
             have H := H1
             clear H1
             obtain rfl := Option.some.inj H
             try go_wp2
             have n0_ := Aside0.mk (blk_drew BK397.out)
             have n1_ := Aside0.mk (blk_drew BK405.out)
             have n2_ := Aside0.mk (below_drew1 HB.out)
             clear BK397
             clear BK405
             clear HB
             have BK397 := n0_
             have BK405 := n1_
             have HB := n2_
             clear n0_ n1_ n2_
             have q84 : (x21_2 : Int) ≤ ((l0.length : Int) : Int) := of_decide_eq_true pA
             obtain ⟨i084, hi084, _, hsz84, _⟩ := info_parts info29
             have hroom84 : l0.length ≤ c0 := HC0.out
             have hC84 : Kd.C k29 _ (some ad396) l0.length l0 := HR0.out
             have hcut84 := cut_to (P := Try.prog) 23 29 .i64 Try.underlying23 hi084 (some ad396) l0.length c0 x21_2 (of_decide_eq_true pA) q84 hroom84
             have hr84 := Kd.C_take (m := (x21_2 : Int).toNat) hC84 (by omega)
             have hy84 : y408.length = (x21_2 : Int).toNat := (by rw [Ny408.out, List.length_take]; omega)
             rw [← Ny408.out] at hr84
             rw [← hy84] at hcut84
             have HR411 := Aside0.mk hr84
             have HC411 := Aside0.mk (show y408.length ≤ c0 from by omega)
             clear hr84 hC84 hroom84 hi084 hsz84
             have KY84 := Aside0.mk hy84
             clear hy84
             replace q84 := eq_true q84
             refine start_ (n := 18) (S := fun w' => w'.cell? ⟨gb405, 0, none⟩ = some (.int .i64 ((rd_T55 ((rd_T29 l0 x21_2).f2) x61_4).f0)) ∧ w'.cell? ⟨gb405, 1, none⟩ = some (.int .i64 ((rd_T55 ((rd_T29 l0 x21_2).f2) x61_4).f1)) ∧ w'.cell? ⟨gb405, 2, none⟩ = some (.int .i64 ((rd_T55 ((rd_T29 l0 x21_2).f2) x61_4).f2))) (ds := []) #[false, false, false, false, false, false, false, false, false, false, false, false, false, false, false, false, false, false] pL rfl rfl ⟨(blk_cell BK405.out 0).trans rfl, (blk_cell BK405.out 1).trans rfl, (blk_cell BK405.out 2).trans rfl⟩ (fun hHeld => ?_); refine with_tabW impl_DishesValid.tab12 impl_DishesValid.bits12 (fun HT_ HW_ => ?_)
             generalize wc.drew = w83 at BK397 BK405 HB HR411 hHeld ⊢
             refine pv 0 (some 80) HT_ rfl rfl pL ?_
             refine tv 1 (some 81) HT_ HW_ rfl rfl pL (fun _ _ _ h => h) (by rfl) (by rintro w' ⟨s0, s1, s2⟩; go_simp; with_reducible rfl) hHeld pP ?_
             refine pv 2 (some 82) HT_ rfl rfl pL ?_
             refine pv 3 (some 83) HT_ rfl rfl pL ?_
             refine pv 4 (some 84) HT_ rfl rfl pL ?_
             refine pv 5 (some 85) HT_ rfl rfl pL ?_
             refine pv 6 (some 86) HT_ rfl rfl pL ?_
             refine pv 7 (some 87) HT_ rfl rfl pL ?_
             refine tk 8 (some 88) F40.b0 HT_ HW_ rfl rfl pL (fun _ _ _ h => h) (by rfl) (by rintro w' ⟨s0, s1, s2⟩; go_simp; with_reducible rfl) hHeld pP ?_
             refine one_ (i := 9) (N := some 89) F40.b4 rfl rfl (one_of HT_.out pL) (by decide) (fun K hK => ?_)
             refine goes_ Try.func20 pL rfl #[.slice (some ad396) y408.length c0, .int .i64 ((rd_T55 ((rd_T29 l0 x21_2).f2) x61_4).f1)] (by rfl) rfl rfl pM ?_
             with_reducible refine (impl_DishesFind.calls _ _ y408 ((rd_T55 ((rd_T29 l0 x21_2).f2) x61_4).f1) t412 _ ?side1 ?side2 A65.out).mono ?_
             (case side1 => exact pS ((Kd.C_below HR411.out HB.out)))
             (case side2 => exact HC411.out)
             rintro e w85 ⟨rfl, hb⟩
             refine ⟨_, rfl, ?_⟩
             have n0_ := Aside0.mk (blk_below (g := gb397) (o := .cells #[.int .i64 ((rd_T29 l0 x21_2).f0), .int .i64 ((rd_T29 l0 x21_2).f1), .slice (some ad404) ((rd_T29 l0 x21_2).f2).length c396_2] 29 (0, 0)) (pC BK397) hb)
             have n1_ := Aside0.mk (blk_below (g := gb405) (o := .cells #[.int .i64 ((rd_T55 ((rd_T29 l0 x21_2).f2) x61_4).f0), .int .i64 ((rd_T55 ((rd_T29 l0 x21_2).f2) x61_4).f1), .int .i64 ((rd_T55 ((rd_T29 l0 x21_2).f2) x61_4).f2)] 55 (0, 0)) (pC BK405) hb)
             have n2_ := Aside0.mk (below_step F40.q1 hb)
             clear BK397
             clear BK405
             clear HB
             have BK397 := n0_
             have BK405 := n1_
             have HB := n2_
             clear n0_ n1_ n2_
             (try clear hb)
             (try clear hb2)
             (try clear hk)
             (try clear hi)
             refine hK.out _ _ F40.q3 (fun hHeld => ?_)
             clear hK K
             refine norm_ (a' := ?_) ?_ ?_
             rotate_left
             ·show Act.put _ (some 89) _ = _
              exact pP
             refine pv 10 (some 90) HT_ rfl rfl pL ?_
             refine pv 11 (some 91) HT_ rfl rfl pL ?_
             refine pv 12 (some 92) HT_ rfl rfl pL ?_
             refine uv 13 (some 93) HT_ rfl rfl pL ?_
             refine uv 14 (some 94) HT_ rfl rfl pL ?_
             refine uv 15 (some 95) HT_ rfl rfl pL ?_
             refine pv 16 (some 96) HT_ rfl rfl pL ?_
             refine pv 17 (some 10) HT_ rfl rfl pL ?_
             refine done_ (done_of HT_.out pL) ?_
             try go_wp2
             go_ret
             exact ⟨pE, by repeat (first | (with_reducible first | exact HB.out | apply below_alloc | apply pw_below_drewN | apply below_drew1 | refine below_set ?_ GE397.out | refine below_set ?_ GE405.out) | exact HB.out)⟩
            subst c79
            have H1 : (impl_DishesValid.l1 kj44 l0 l1 x21_2 l0 (l0.length : Int) x21_2 ((rd_T29 l0 x21_2).f2) (((rd_T29 l0 x21_2).f2).length : Int) (wrap64 (x61_4 + 1))) = some r := by rw [if_pos rfl] at H; exact H
            clear H
            have H := H1
            clear H1
            have H' := Aside0.mk H
            clear H
            try go_wp2
            have n0_ := Aside0.mk (blk_drew BK397.out)
            have n1_ := Aside0.mk (blk_drew BK405.out)
            have n2_ := Aside0.mk (below_drew1 HB.out)
            clear BK397
            clear BK405
            clear HB
            have BK397 := n0_
            have BK405 := n1_
            have HB := n2_
            clear n0_ n1_ n2_
            have q81 : (x21_2 : Int) ≤ ((l0.length : Int) : Int) := of_decide_eq_true pA
            obtain ⟨i081, hi081, _, hsz81, _⟩ := info_parts info29
            have hroom81 : l0.length ≤ c0 := HC0.out
            have hC81 : Kd.C k29 _ (some ad396) l0.length l0 := HR0.out
            have hcut81 := cut_to (P := Try.prog) 23 29 .i64 Try.underlying23 hi081 (some ad396) l0.length c0 x21_2 (of_decide_eq_true pA) q81 hroom81
            have hr81 := Kd.C_take (m := (x21_2 : Int).toNat) hC81 (by omega)
            have hy81 : y408.length = (x21_2 : Int).toNat := (by rw [Ny408.out, List.length_take]; omega)
            rw [← Ny408.out] at hr81
            rw [← hy81] at hcut81
            have HR411 := Aside0.mk hr81
            have HC411 := Aside0.mk (show y408.length ≤ c0 from by omega)
            clear hr81 hC81 hroom81 hi081 hsz81
            have KY81 := Aside0.mk hy81
            clear hy81
            replace q81 := eq_true q81
            refine start_ (n := 18) (S := fun w' => w'.cell? ⟨gb405, 0, none⟩ = some (.int .i64 ((rd_T55 ((rd_T29 l0 x21_2).f2) x61_4).f0)) ∧ w'.cell? ⟨gb405, 1, none⟩ = some (.int .i64 ((rd_T55 ((rd_T29 l0 x21_2).f2) x61_4).f1)) ∧ w'.cell? ⟨gb405, 2, none⟩ = some (.int .i64 ((rd_T55 ((rd_T29 l0 x21_2).f2) x61_4).f2))) (ds := []) #[false, false, false, false, false, false, false, false, false, false, false, false, false, false, false, false, false, false] pL rfl rfl ⟨(blk_cell BK405.out 0).trans rfl, (blk_cell BK405.out 1).trans rfl, (blk_cell BK405.out 2).trans rfl⟩ (fun hHeld => ?_); refine with_tabW impl_DishesValid.tab12 impl_DishesValid.bits12 (fun HT_ HW_ => ?_)
            generalize wc.drew = w80 at BK397 BK405 HB HR411 hHeld ⊢
            refine pv 0 (some 80) HT_ rfl rfl pL ?_
            refine tv 1 (some 81) HT_ HW_ rfl rfl pL (fun _ _ _ h => h) (by rfl) (by rintro w' ⟨s0, s1, s2⟩; go_simp; with_reducible rfl) hHeld pP ?_
            refine pv 2 (some 82) HT_ rfl rfl pL ?_
            refine pv 3 (some 83) HT_ rfl rfl pL ?_
            refine pv 4 (some 84) HT_ rfl rfl pL ?_
            refine pv 5 (some 85) HT_ rfl rfl pL ?_
            refine pv 6 (some 86) HT_ rfl rfl pL ?_
            refine pv 7 (some 87) HT_ rfl rfl pL ?_
            refine tk 8 (some 88) F40.b0 HT_ HW_ rfl rfl pL (fun _ _ _ h => h) (by rfl) (by rintro w' ⟨s0, s1, s2⟩; go_simp; with_reducible rfl) hHeld pP ?_
            refine one_ (i := 9) (N := some 89) F40.b4 rfl rfl (one_of HT_.out pL) (by decide) (fun K hK => ?_)
            refine goes_ Try.func20 pL rfl #[.slice (some ad396) y408.length c0, .int .i64 ((rd_T55 ((rd_T29 l0 x21_2).f2) x61_4).f1)] (by rfl) rfl rfl pM ?_
            with_reducible refine (impl_DishesFind.calls _ _ y408 ((rd_T55 ((rd_T29 l0 x21_2).f2) x61_4).f1) t412 _ ?side1 ?side2 A65.out).mono ?_
            (case side1 => exact pS ((Kd.C_below HR411.out HB.out)))
            (case side2 => exact HC411.out)
            rintro e w82 ⟨rfl, hb⟩
            refine ⟨_, rfl, ?_⟩
            have n0_ := Aside0.mk (blk_below (g := gb397) (o := .cells #[.int .i64 ((rd_T29 l0 x21_2).f0), .int .i64 ((rd_T29 l0 x21_2).f1), .slice (some ad404) ((rd_T29 l0 x21_2).f2).length c396_2] 29 (0, 0)) (pC BK397) hb)
            have n1_ := Aside0.mk (blk_below (g := gb405) (o := .cells #[.int .i64 ((rd_T55 ((rd_T29 l0 x21_2).f2) x61_4).f0), .int .i64 ((rd_T55 ((rd_T29 l0 x21_2).f2) x61_4).f1), .int .i64 ((rd_T55 ((rd_T29 l0 x21_2).f2) x61_4).f2)] 55 (0, 0)) (pC BK405) hb)
            have n2_ := Aside0.mk (below_step F40.q1 hb)
            clear BK397
            clear BK405
            clear HB
            have BK397 := n0_
            have BK405 := n1_
            have HB := n2_
            clear n0_ n1_ n2_
            (try clear hb)
            (try clear hb2)
            (try clear hk)
            (try clear hi)
            refine hK.out _ _ F40.q3 (fun hHeld => ?_)
            clear hK K
            refine norm_ (a' := ?_) ?_ ?_
            rotate_left
            ·show Act.put _ (some 89) _ = _
             exact pP
            refine pv 10 (some 90) HT_ rfl rfl pL ?_
            refine pv 11 (some 91) HT_ rfl rfl pL ?_
            refine pv 12 (some 92) HT_ rfl rfl pL ?_
            refine uv 13 (some 93) HT_ rfl rfl pL ?_
            refine uv 14 (some 94) HT_ rfl rfl pL ?_
            refine uv 15 (some 95) HT_ rfl rfl pL ?_
            refine pv 16 (some 96) HT_ rfl rfl pL ?_
            refine pv 17 (some 10) HT_ rfl rfl pL ?_
            refine done_ (done_of HT_.out pL) ?_
            try go_wp2
            go_roundg kj44
            case measure => have := HJ2.out; have := HK2.out; have := HJ11.out; have := HK4.out; have := HJ44.out; omega
            case rel => exact ⟨(wrap64 (x61_4 + 1)), pF, H', ⟨by have := HJ2.out; have := HK2.out; have := HJ11.out; have := HK4.out; have := HJ44.out; omega⟩, ⟨pC BK397⟩, ⟨by repeat (first | (with_reducible first | exact HB.out | apply below_alloc | apply pw_below_drewN | apply below_drew1 | refine below_set ?_ GE397.out | refine below_set ?_ GE405.out) | exact HB.out)⟩⟩
           rw [if_pos c66] at H
           have c66b0 : decide (0 ≤ t412) = true := decide_eq_true c66
           clear c66
           replace H := Option.bind_eq_some_iff.mp H
           obtain ⟨t413, A670, H⟩ := H
           replace H : (if x9_44 = true then (impl_DishesValid.l1 kj44 l0 l1 x21_2 l0 (l0.length : Int) x21_2 ((rd_T29 l0 x21_2).f2) (((rd_T29 l0 x21_2).f2).length : Int) (wrap64 (x61_4 + 1))) else (if t413 = true then (impl_DishesValid.l1 kj44 l0 l1 x21_2 l0 (l0.length : Int) x21_2 ((rd_T29 l0 x21_2).f2) (((rd_T29 l0 x21_2).f2).length : Int) (wrap64 (x61_4 + 1))) else (some false))) = some r := H
           have A67 := Aside0.mk A670
           clear A670
           by_cases c68 : x9_44 = true
           ·subst c68
            have H1 : (impl_DishesValid.l1 kj44 l0 l1 x21_2 l0 (l0.length : Int) x21_2 ((rd_T29 l0 x21_2).f2) (((rd_T29 l0 x21_2).f2).length : Int) (wrap64 (x61_4 + 1))) = some r := by rw [if_pos rfl] at H; exact H
            clear H
            have H := H1
            clear H1
            have H' := Aside0.mk H
            clear H
            try go_wp2
            have n0_ := Aside0.mk (blk_drew BK397.out)
            have n1_ := Aside0.mk (blk_drew BK405.out)
            have n2_ := Aside0.mk (below_drew1 HB.out)
            clear BK397
            clear BK405
            clear HB
            have BK397 := n0_
            have BK405 := n1_
            have HB := n2_
            clear n0_ n1_ n2_
            have q70 : (x21_2 : Int) ≤ ((l0.length : Int) : Int) := of_decide_eq_true pA
            obtain ⟨i070, hi070, _, hsz70, _⟩ := info_parts info29
            have hroom70 : l0.length ≤ c0 := HC0.out
            have hC70 : Kd.C k29 _ (some ad396) l0.length l0 := HR0.out
            have hcut70 := cut_to (P := Try.prog) 23 29 .i64 Try.underlying23 hi070 (some ad396) l0.length c0 x21_2 (of_decide_eq_true pA) q70 hroom70
            have hr70 := Kd.C_take (m := (x21_2 : Int).toNat) hC70 (by omega)
            have hy70 : y408.length = (x21_2 : Int).toNat := (by rw [Ny408.out, List.length_take]; omega)
            rw [← Ny408.out] at hr70
            rw [← hy70] at hcut70
            have HR411 := Aside0.mk hr70
            have HC411 := Aside0.mk (show y408.length ≤ c0 from by omega)
            clear hr70 hC70 hroom70 hi070 hsz70
            have KY70 := Aside0.mk hy70
            clear hy70
            replace q70 := eq_true q70
            refine start_ (n := 18) (S := fun w' => w'.cell? ⟨gb405, 0, none⟩ = some (.int .i64 ((rd_T55 ((rd_T29 l0 x21_2).f2) x61_4).f0)) ∧ w'.cell? ⟨gb405, 1, none⟩ = some (.int .i64 ((rd_T55 ((rd_T29 l0 x21_2).f2) x61_4).f1)) ∧ w'.cell? ⟨gb405, 2, none⟩ = some (.int .i64 ((rd_T55 ((rd_T29 l0 x21_2).f2) x61_4).f2))) (ds := []) #[false, false, false, false, false, false, false, false, false, false, false, false, false, false, false, false, false, false] pL rfl rfl ⟨(blk_cell BK405.out 0).trans rfl, (blk_cell BK405.out 1).trans rfl, (blk_cell BK405.out 2).trans rfl⟩ (fun hHeld => ?_); refine with_tabW impl_DishesValid.tab12 impl_DishesValid.bits12 (fun HT_ HW_ => ?_)
            generalize wc.drew = w69 at BK397 BK405 HB HR411 hHeld ⊢
            refine pv 0 (some 80) HT_ rfl rfl pL ?_
            refine tv 1 (some 81) HT_ HW_ rfl rfl pL (fun _ _ _ h => h) (by rfl) (by rintro w' ⟨s0, s1, s2⟩; go_simp; with_reducible rfl) hHeld pP ?_
            refine pv 2 (some 82) HT_ rfl rfl pL ?_
            refine pv 3 (some 83) HT_ rfl rfl pL ?_
            refine pv 4 (some 84) HT_ rfl rfl pL ?_
            refine pv 5 (some 85) HT_ rfl rfl pL ?_
            refine pv 6 (some 86) HT_ rfl rfl pL ?_
            refine pv 7 (some 87) HT_ rfl rfl pL ?_
            refine tk 8 (some 88) F40.b0 HT_ HW_ rfl rfl pL (fun _ _ _ h => h) (by rfl) (by rintro w' ⟨s0, s1, s2⟩; go_simp; with_reducible rfl) hHeld pP ?_
            refine one_ (i := 9) (N := some 89) F40.b4 rfl rfl (one_of HT_.out pL) (by decide) (fun K hK => ?_)
            refine goes_ Try.func20 pL rfl #[.slice (some ad396) y408.length c0, .int .i64 ((rd_T55 ((rd_T29 l0 x21_2).f2) x61_4).f1)] (by rfl) rfl rfl pM ?_
            with_reducible refine (impl_DishesFind.calls _ _ y408 ((rd_T55 ((rd_T29 l0 x21_2).f2) x61_4).f1) t412 _ ?side1 ?side2 A65.out).mono ?_
            (case side1 => exact pS ((Kd.C_below HR411.out HB.out)))
            (case side2 => exact HC411.out)
            rintro e w71 ⟨rfl, hb⟩
            refine ⟨_, rfl, ?_⟩
            have n0_ := Aside0.mk (blk_below (g := gb397) (o := .cells #[.int .i64 ((rd_T29 l0 x21_2).f0), .int .i64 ((rd_T29 l0 x21_2).f1), .slice (some ad404) ((rd_T29 l0 x21_2).f2).length c396_2] 29 (0, 0)) (pC BK397) hb)
            have n1_ := Aside0.mk (blk_below (g := gb405) (o := .cells #[.int .i64 ((rd_T55 ((rd_T29 l0 x21_2).f2) x61_4).f0), .int .i64 ((rd_T55 ((rd_T29 l0 x21_2).f2) x61_4).f1), .int .i64 ((rd_T55 ((rd_T29 l0 x21_2).f2) x61_4).f2)] 55 (0, 0)) (pC BK405) hb)
            have n2_ := Aside0.mk (below_step F40.q1 hb)
            clear BK397
            clear BK405
            clear HB
            have BK397 := n0_
            have BK405 := n1_
            have HB := n2_
            clear n0_ n1_ n2_
            (try clear hb)
            (try clear hb2)
            (try clear hk)
            (try clear hi)
            refine hK.out _ _ F40.q3 (fun hHeld => ?_)
            clear hK K
            refine norm_ (a' := ?_) ?_ ?_
            rotate_left
            ·show Act.put _ (some 89) _ = _
             exact pP
            refine pv 10 (some 90) HT_ rfl rfl pL ?_
            refine pv 11 (some 91) HT_ rfl rfl pL ?_
            refine pv 12 (some 92) HT_ rfl rfl pL ?_
            refine pv 13 (some 93) HT_ rfl rfl pL ?_
            refine tv 14 (some 94) HT_ HW_ rfl rfl pL (fun _ _ _ h => h) (by rfl) (by rintro w' ⟨s0, s1, s2⟩; go_simp; with_reducible rfl) hHeld pP ?_
            refine one_ (i := 15) (N := some 95) F40.b7 rfl rfl (one_of HT_.out pL) (by decide) (fun K hK => ?_)
            refine goes_ Try.func76 pL rfl #[.int .i64 ((rd_T55 ((rd_T29 l0 x21_2).f2) x61_4).f2), .int .i64 1, .int .i64 9] (by rfl) rfl rfl pM ?_
            with_reducible refine (impl_within.calls ((rd_T55 ((rd_T29 l0 x21_2).f2) x61_4).f2) 1 9 t413 _ A67.out).mono ?_
            rintro e w' ⟨rfl, ⟨nd, rfl⟩⟩
            refine ⟨_, rfl, ?_⟩
            refine hK.out _ _ F40.q3 (fun hHeld => ?_)
            clear hK K
            refine norm_ (a' := ?_) ?_ ?_
            rotate_left
            ·show Act.put _ (some 95) _ = _
             exact pP
            refine pv 16 (some 96) HT_ rfl rfl pL ?_
            refine pv 17 (some 10) HT_ rfl rfl pL ?_
            refine done_ (done_of HT_.out pL) ?_
            try go_wp2
            go_roundg kj44
            case measure => have := HJ2.out; have := HK2.out; have := HJ11.out; have := HK4.out; have := HJ44.out; omega
            case rel => exact ⟨(wrap64 (x61_4 + 1)), pF, H', ⟨by have := HJ2.out; have := HK2.out; have := HJ11.out; have := HK4.out; have := HJ44.out; omega⟩, ⟨pC BK397⟩, ⟨by repeat (first | (with_reducible first | exact HB.out | apply below_alloc | apply pw_below_drewN | apply below_drew1 | refine below_set ?_ GE397.out | refine below_set ?_ GE405.out) | exact HB.out)⟩⟩
           replace c68 := Bool.eq_false_iff.mpr c68
           subst c68
           have H1 : (if t413 = true then (impl_DishesValid.l1 kj44 l0 l1 x21_2 l0 (l0.length : Int) x21_2 ((rd_T29 l0 x21_2).f2) (((rd_T29 l0 x21_2).f2).length : Int) (wrap64 (x61_4 + 1))) else (some false)) = some r := by rw [if_neg (show ¬ (false = true) by decide)] at H; exact H
           clear H
           have H := H1
           clear H1
           rcases (Classical.em (t413 = true)).symm with c72 | c72
           ·replace c72 := Bool.eq_false_iff.mpr c72
            subst c72
            have H1 : (some false) = some r := by rw [if_neg (show ¬ (false = true) by decide)] at H; exact H
            clear H
            have H := H1
            clear H1
            obtain rfl := Option.some.inj H
            try go_wp2
            have n0_ := Aside0.mk (blk_drew BK397.out)
            have n1_ := Aside0.mk (blk_drew BK405.out)
            have n2_ := Aside0.mk (below_drew1 HB.out)
            clear BK397
            clear BK405
            clear HB
            have BK397 := n0_
            have BK405 := n1_
            have HB := n2_
            clear n0_ n1_ n2_
            have q77 : (x21_2 : Int) ≤ ((l0.length : Int) : Int) := of_decide_eq_true pA
            obtain ⟨i077, hi077, _, hsz77, _⟩ := info_parts info29
            have hroom77 : l0.length ≤ c0 := HC0.out
            have hC77 : Kd.C k29 _ (some ad396) l0.length l0 := HR0.out
            have hcut77 := cut_to (P := Try.prog) 23 29 .i64 Try.underlying23 hi077 (some ad396) l0.length c0 x21_2 (of_decide_eq_true pA) q77 hroom77
            have hr77 := Kd.C_take (m := (x21_2 : Int).toNat) hC77 (by omega)
            have hy77 : y408.length = (x21_2 : Int).toNat := (by rw [Ny408.out, List.length_take]; omega)
            rw [← Ny408.out] at hr77
            rw [← hy77] at hcut77
            have HR411 := Aside0.mk hr77
            have HC411 := Aside0.mk (show y408.length ≤ c0 from by omega)
            clear hr77 hC77 hroom77 hi077 hsz77
            have KY77 := Aside0.mk hy77
            clear hy77
            replace q77 := eq_true q77
            refine start_ (n := 18) (S := fun w' => w'.cell? ⟨gb405, 0, none⟩ = some (.int .i64 ((rd_T55 ((rd_T29 l0 x21_2).f2) x61_4).f0)) ∧ w'.cell? ⟨gb405, 1, none⟩ = some (.int .i64 ((rd_T55 ((rd_T29 l0 x21_2).f2) x61_4).f1)) ∧ w'.cell? ⟨gb405, 2, none⟩ = some (.int .i64 ((rd_T55 ((rd_T29 l0 x21_2).f2) x61_4).f2))) (ds := []) #[false, false, false, false, false, false, false, false, false, false, false, false, false, false, false, false, false, false] pL rfl rfl ⟨(blk_cell BK405.out 0).trans rfl, (blk_cell BK405.out 1).trans rfl, (blk_cell BK405.out 2).trans rfl⟩ (fun hHeld => ?_); refine with_tabW impl_DishesValid.tab12 impl_DishesValid.bits12 (fun HT_ HW_ => ?_)
            generalize wc.drew = w76 at BK397 BK405 HB HR411 hHeld ⊢
            refine pv 0 (some 80) HT_ rfl rfl pL ?_
            refine tv 1 (some 81) HT_ HW_ rfl rfl pL (fun _ _ _ h => h) (by rfl) (by rintro w' ⟨s0, s1, s2⟩; go_simp; with_reducible rfl) hHeld pP ?_
            refine pv 2 (some 82) HT_ rfl rfl pL ?_
            refine pv 3 (some 83) HT_ rfl rfl pL ?_
            refine pv 4 (some 84) HT_ rfl rfl pL ?_
            refine pv 5 (some 85) HT_ rfl rfl pL ?_
            refine pv 6 (some 86) HT_ rfl rfl pL ?_
            refine pv 7 (some 87) HT_ rfl rfl pL ?_
            refine tk 8 (some 88) F40.b0 HT_ HW_ rfl rfl pL (fun _ _ _ h => h) (by rfl) (by rintro w' ⟨s0, s1, s2⟩; go_simp; with_reducible rfl) hHeld pP ?_
            refine one_ (i := 9) (N := some 89) F40.b4 rfl rfl (one_of HT_.out pL) (by decide) (fun K hK => ?_)
            refine goes_ Try.func20 pL rfl #[.slice (some ad396) y408.length c0, .int .i64 ((rd_T55 ((rd_T29 l0 x21_2).f2) x61_4).f1)] (by rfl) rfl rfl pM ?_
            with_reducible refine (impl_DishesFind.calls _ _ y408 ((rd_T55 ((rd_T29 l0 x21_2).f2) x61_4).f1) t412 _ ?side1 ?side2 A65.out).mono ?_
            (case side1 => exact pS ((Kd.C_below HR411.out HB.out)))
            (case side2 => exact HC411.out)
            rintro e w78 ⟨rfl, hb⟩
            refine ⟨_, rfl, ?_⟩
            have n0_ := Aside0.mk (blk_below (g := gb397) (o := .cells #[.int .i64 ((rd_T29 l0 x21_2).f0), .int .i64 ((rd_T29 l0 x21_2).f1), .slice (some ad404) ((rd_T29 l0 x21_2).f2).length c396_2] 29 (0, 0)) (pC BK397) hb)
            have n1_ := Aside0.mk (blk_below (g := gb405) (o := .cells #[.int .i64 ((rd_T55 ((rd_T29 l0 x21_2).f2) x61_4).f0), .int .i64 ((rd_T55 ((rd_T29 l0 x21_2).f2) x61_4).f1), .int .i64 ((rd_T55 ((rd_T29 l0 x21_2).f2) x61_4).f2)] 55 (0, 0)) (pC BK405) hb)
            have n2_ := Aside0.mk (below_step F40.q1 hb)
            clear BK397
            clear BK405
            clear HB
            have BK397 := n0_
            have BK405 := n1_
            have HB := n2_
            clear n0_ n1_ n2_
            (try clear hb)
            (try clear hb2)
            (try clear hk)
            (try clear hi)
            refine hK.out _ _ F40.q3 (fun hHeld => ?_)
            clear hK K
            refine norm_ (a' := ?_) ?_ ?_
            rotate_left
            ·show Act.put _ (some 89) _ = _
             exact pP
            refine pv 10 (some 90) HT_ rfl rfl pL ?_
            refine pv 11 (some 91) HT_ rfl rfl pL ?_
            refine pv 12 (some 92) HT_ rfl rfl pL ?_
            refine pv 13 (some 93) HT_ rfl rfl pL ?_
            refine tv 14 (some 94) HT_ HW_ rfl rfl pL (fun _ _ _ h => h) (by rfl) (by rintro w' ⟨s0, s1, s2⟩; go_simp; with_reducible rfl) hHeld pP ?_
            refine one_ (i := 15) (N := some 95) F40.b7 rfl rfl (one_of HT_.out pL) (by decide) (fun K hK => ?_)
            refine goes_ Try.func76 pL rfl #[.int .i64 ((rd_T55 ((rd_T29 l0 x21_2).f2) x61_4).f2), .int .i64 1, .int .i64 9] (by rfl) rfl rfl pM ?_
            with_reducible refine (impl_within.calls ((rd_T55 ((rd_T29 l0 x21_2).f2) x61_4).f2) 1 9 false _ A67.out).mono ?_
            rintro e w' ⟨rfl, ⟨nd, rfl⟩⟩
            refine ⟨_, rfl, ?_⟩
            refine hK.out _ _ F40.q3 (fun hHeld => ?_)
            clear hK K
            refine norm_ (a' := ?_) ?_ ?_
            rotate_left
            ·show Act.put _ (some 95) _ = _
             exact pP
            refine pv 16 (some 96) HT_ rfl rfl pL ?_
            refine pv 17 (some 10) HT_ rfl rfl pL ?_
            refine done_ (done_of HT_.out pL) ?_
            try go_wp2
            go_ret
            exact ⟨pE, by repeat (first | (with_reducible first | exact HB.out | apply below_alloc | apply pw_below_drewN | apply below_drew1 | refine below_set ?_ GE397.out | refine below_set ?_ GE405.out) | exact HB.out)⟩
           subst c72
           have H1 : (impl_DishesValid.l1 kj44 l0 l1 x21_2 l0 (l0.length : Int) x21_2 ((rd_T29 l0 x21_2).f2) (((rd_T29 l0 x21_2).f2).length : Int) (wrap64 (x61_4 + 1))) = some r := by rw [if_pos rfl] at H; exact H
           clear H
           have H := H1
           clear H1
           have H' := Aside0.mk H
           clear H
           try go_wp2
           have n0_ := Aside0.mk (blk_drew BK397.out)
           have n1_ := Aside0.mk (blk_drew BK405.out)
           have n2_ := Aside0.mk (below_drew1 HB.out)
           clear BK397
           clear BK405
           clear HB
           have BK397 := n0_
           have BK405 := n1_
           have HB := n2_
           clear n0_ n1_ n2_
           have q74 : (x21_2 : Int) ≤ ((l0.length : Int) : Int) := of_decide_eq_true pA
           obtain ⟨i074, hi074, _, hsz74, _⟩ := info_parts info29
           have hroom74 : l0.length ≤ c0 := HC0.out
           have hC74 : Kd.C k29 _ (some ad396) l0.length l0 := HR0.out
           have hcut74 := cut_to (P := Try.prog) 23 29 .i64 Try.underlying23 hi074 (some ad396) l0.length c0 x21_2 (of_decide_eq_true pA) q74 hroom74
           have hr74 := Kd.C_take (m := (x21_2 : Int).toNat) hC74 (by omega)
           have hy74 : y408.length = (x21_2 : Int).toNat := (by rw [Ny408.out, List.length_take]; omega)
           rw [← Ny408.out] at hr74
           rw [← hy74] at hcut74
           have HR411 := Aside0.mk hr74
           have HC411 := Aside0.mk (show y408.length ≤ c0 from by omega)
           clear hr74 hC74 hroom74 hi074 hsz74
           have KY74 := Aside0.mk hy74
           clear hy74
           replace q74 := eq_true q74
           refine start_ (n := 18) (S := fun w' => w'.cell? ⟨gb405, 0, none⟩ = some (.int .i64 ((rd_T55 ((rd_T29 l0 x21_2).f2) x61_4).f0)) ∧ w'.cell? ⟨gb405, 1, none⟩ = some (.int .i64 ((rd_T55 ((rd_T29 l0 x21_2).f2) x61_4).f1)) ∧ w'.cell? ⟨gb405, 2, none⟩ = some (.int .i64 ((rd_T55 ((rd_T29 l0 x21_2).f2) x61_4).f2))) (ds := []) #[false, false, false, false, false, false, false, false, false, false, false, false, false, false, false, false, false, false] pL rfl rfl ⟨(blk_cell BK405.out 0).trans rfl, (blk_cell BK405.out 1).trans rfl, (blk_cell BK405.out 2).trans rfl⟩ (fun hHeld => ?_); refine with_tabW impl_DishesValid.tab12 impl_DishesValid.bits12 (fun HT_ HW_ => ?_)
           generalize wc.drew = w73 at BK397 BK405 HB HR411 hHeld ⊢
           refine pv 0 (some 80) HT_ rfl rfl pL ?_
           refine tv 1 (some 81) HT_ HW_ rfl rfl pL (fun _ _ _ h => h) (by rfl) (by rintro w' ⟨s0, s1, s2⟩; go_simp; with_reducible rfl) hHeld pP ?_
           refine pv 2 (some 82) HT_ rfl rfl pL ?_
           refine pv 3 (some 83) HT_ rfl rfl pL ?_
           refine pv 4 (some 84) HT_ rfl rfl pL ?_
           refine pv 5 (some 85) HT_ rfl rfl pL ?_
           refine pv 6 (some 86) HT_ rfl rfl pL ?_
           refine pv 7 (some 87) HT_ rfl rfl pL ?_
           refine tk 8 (some 88) F40.b0 HT_ HW_ rfl rfl pL (fun _ _ _ h => h) (by rfl) (by rintro w' ⟨s0, s1, s2⟩; go_simp; with_reducible rfl) hHeld pP ?_
           refine one_ (i := 9) (N := some 89) F40.b4 rfl rfl (one_of HT_.out pL) (by decide) (fun K hK => ?_)
           refine goes_ Try.func20 pL rfl #[.slice (some ad396) y408.length c0, .int .i64 ((rd_T55 ((rd_T29 l0 x21_2).f2) x61_4).f1)] (by rfl) rfl rfl pM ?_
           with_reducible refine (impl_DishesFind.calls _ _ y408 ((rd_T55 ((rd_T29 l0 x21_2).f2) x61_4).f1) t412 _ ?side1 ?side2 A65.out).mono ?_
           (case side1 => exact pS ((Kd.C_below HR411.out HB.out)))
           (case side2 => exact HC411.out)
           rintro e w75 ⟨rfl, hb⟩
           refine ⟨_, rfl, ?_⟩
           have n0_ := Aside0.mk (blk_below (g := gb397) (o := .cells #[.int .i64 ((rd_T29 l0 x21_2).f0), .int .i64 ((rd_T29 l0 x21_2).f1), .slice (some ad404) ((rd_T29 l0 x21_2).f2).length c396_2] 29 (0, 0)) (pC BK397) hb)
           have n1_ := Aside0.mk (blk_below (g := gb405) (o := .cells #[.int .i64 ((rd_T55 ((rd_T29 l0 x21_2).f2) x61_4).f0), .int .i64 ((rd_T55 ((rd_T29 l0 x21_2).f2) x61_4).f1), .int .i64 ((rd_T55 ((rd_T29 l0 x21_2).f2) x61_4).f2)] 55 (0, 0)) (pC BK405) hb)
           have n2_ := Aside0.mk (below_step F40.q1 hb)
           clear BK397
           clear BK405
           clear HB
           have BK397 := n0_
           have BK405 := n1_
           have HB := n2_
           clear n0_ n1_ n2_
           (try clear hb)
           (try clear hb2)
           (try clear hk)
           (try clear hi)
           refine hK.out _ _ F40.q3 (fun hHeld => ?_)
           clear hK K
           refine norm_ (a' := ?_) ?_ ?_
           rotate_left
           ·show Act.put _ (some 89) _ = _
            exact pP
           refine pv 10 (some 90) HT_ rfl rfl pL ?_
           refine pv 11 (some 91) HT_ rfl rfl pL ?_
           refine pv 12 (some 92) HT_ rfl rfl pL ?_
           refine pv 13 (some 93) HT_ rfl rfl pL ?_
           refine tv 14 (some 94) HT_ HW_ rfl rfl pL (fun _ _ _ h => h) (by rfl) (by rintro w' ⟨s0, s1, s2⟩; go_simp; with_reducible rfl) hHeld pP ?_
           refine one_ (i := 15) (N := some 95) F40.b7 rfl rfl (one_of HT_.out pL) (by decide) (fun K hK => ?_)
           refine goes_ Try.func76 pL rfl #[.int .i64 ((rd_T55 ((rd_T29 l0 x21_2).f2) x61_4).f2), .int .i64 1, .int .i64 9] (by rfl) rfl rfl pM ?_
           with_reducible refine (impl_within.calls ((rd_T55 ((rd_T29 l0 x21_2).f2) x61_4).f2) 1 9 true _ A67.out).mono ?_
           rintro e w' ⟨rfl, ⟨nd, rfl⟩⟩
           refine ⟨_, rfl, ?_⟩
           refine hK.out _ _ F40.q3 (fun hHeld => ?_)
           clear hK K
           refine norm_ (a' := ?_) ?_ ?_
           rotate_left
           ·show Act.put _ (some 95) _ = _
            exact pP
           refine pv 16 (some 96) HT_ rfl rfl pL ?_
           refine pv 17 (some 10) HT_ rfl rfl pL ?_
           refine done_ (done_of HT_.out pL) ?_
           try go_wp2
           go_roundg kj44
           case measure => have := HJ2.out; have := HK2.out; have := HJ11.out; have := HK4.out; have := HJ44.out; omega
           case rel => exact ⟨(wrap64 (x61_4 + 1)), pF, H', ⟨by have := HJ2.out; have := HK2.out; have := HJ11.out; have := HK4.out; have := HJ44.out; omega⟩, ⟨pC BK397⟩, ⟨by repeat (first | (with_reducible first | exact HB.out | apply below_alloc | apply pw_below_drewN | apply below_drew1 | refine below_set ?_ GE397.out | refine below_set ?_ GE405.out) | exact HB.out)⟩⟩
end Go.Proofs.Ytclldijjbmnkeaa.Q
