-- Written by the kit's print.py for all laws of the seat at once (one namespace), by a program of this session.
import Derived.Test.YtclldijjbmnkeaaQx0
import Derived.Test.YtclldijjbmnkeaaQx5
import Derived.Test.YtclldijjbmnkeaaQx11
import Derived.Test.YtclldijjbmnkeaaQx12
import Derived.Test.YtclldijjbmnkeaaQx13
namespace Go.Proofs.Ytclldijjbmnkeaa.Q
open Go.RowKit Go.Proofs.YtclldijjbmnkeaaW.PrintWords Go.Proofs.YtclldijjbmnkeaaW.PrintLast Go.Proofs.YtclldijjbmnkeaaW.PrintMore
attribute [local go_sem] max2_int min2_int max_two min_two max_three min_three max_four min_four   -- for this text's walks alone
set_option linter.unusedVariables false
set_option linter.unusedSimpArgs false

/-! ### impl_DishesValid: function 40 -/
mutual
def impl_DishesValid.j0 : Nat → List (S29) → List (S63) → Bool → Option (Bool)
 | 0, _, _, _ => none
 | k + 1, x0, x1, x18 => if x18 = true then (some false) else (impl_DishesValid.l0 k x0 x1 x0 (x0.length : Int) 0)
def impl_DishesValid.l0 : Nat → List (S29) → List (S63) → List (S29) → Int → Int → Option (Bool)
 | 0, _, _, _, _, _ => none
 | k + 1, x0, x1, x19, x20, x21 => if x21 < x20 then (if 0 ≤ x21 then (if x21 < (x19.length : Int) then ((impl_isId.f ((rd_T29 x19 x21).f0)).bind fun t368 => (if t368 = true then (if x21 > 0 then (if 0 ≤ (wrap64 (x21 - 1)) then (if (wrap64 (x21 - 1)) < (x0.length : Int) then (if ((rd_T29 x0 (wrap64 (x21 - 1))).f0) ≥ ((rd_T29 x19 x21).f0) then (impl_DishesValid.j2 k x0 x1 x21 x19 x20 x21 true ((rd_T29 x19 x21).f0) ((rd_T29 x19 x21).f1) ((rd_T29 x19 x21).f2)) else ((impl_within.f ((rd_T29 x19 x21).f1) 1 12).bind fun t370 => (if t370 = true then ((impl_within.f (((rd_T29 x19 x21).f2).length : Int) 1 5).bind fun t371 => (impl_DishesValid.j2 k x0 x1 x21 x19 x20 x21 (!t371) ((rd_T29 x19 x21).f0) ((rd_T29 x19 x21).f1) ((rd_T29 x19 x21).f2))) else (impl_DishesValid.j2 k x0 x1 x21 x19 x20 x21 true ((rd_T29 x19 x21).f0) ((rd_T29 x19 x21).f1) ((rd_T29 x19 x21).f2))))) else (none)) else (none)) else ((impl_within.f ((rd_T29 x19 x21).f1) 1 12).bind fun t372 => (if t372 = true then ((impl_within.f (((rd_T29 x19 x21).f2).length : Int) 1 5).bind fun t373 => (impl_DishesValid.j2 k x0 x1 x21 x19 x20 x21 (!t373) ((rd_T29 x19 x21).f0) ((rd_T29 x19 x21).f1) ((rd_T29 x19 x21).f2))) else (impl_DishesValid.j2 k x0 x1 x21 x19 x20 x21 true ((rd_T29 x19 x21).f0) ((rd_T29 x19 x21).f1) ((rd_T29 x19 x21).f2))))) else (impl_DishesValid.j2 k x0 x1 x21 x19 x20 x21 true ((rd_T29 x19 x21).f0) ((rd_T29 x19 x21).f1) ((rd_T29 x19 x21).f2)))) else (none)) else (none)) else (some true)
def impl_DishesValid.j2 : Nat → List (S29) → List (S63) → Int → List (S29) → Int → Int → Bool → Int → Int → List (S55) → Option (Bool)
 | 0, _, _, _, _, _, _, _, _, _, _ => none
 | k + 1, x0, x1, x5, x19, x20, x21, x57, x368000, x368001, x368002 => if x57 = true then (some false) else (impl_DishesValid.l1 k x0 x1 x5 x19 x20 x21 x368002 (x368002.length : Int) 0)
def impl_DishesValid.l1 : Nat → List (S29) → List (S63) → Int → List (S29) → Int → Int → List (S55) → Int → Int → Option (Bool)
 | 0, _, _, _, _, _, _, _, _, _ => none
 | k + 1, x0, x1, x5, x19, x20, x21, x59, x60, x61 => if x61 < x60 then (if 0 ≤ x61 then (if x61 < (x59.length : Int) then (if ((rd_T55 x59 x61).f1) = 0 then ((impl_foodPlace.f x1 ((rd_T55 x59 x61).f0)).bind fun t376 => (if t376 ≥ 0 then ((impl_within.f ((rd_T55 x59 x61).f2) 1 999).bind fun t377 => (impl_DishesValid.j4 k x0 x1 x5 t377 x19 x20 x21 x59 x60 x61 ((rd_T55 x59 x61).f0) ((rd_T55 x59 x61).f1) ((rd_T55 x59 x61).f2))) else (impl_DishesValid.j4 k x0 x1 x5 false x19 x20 x21 x59 x60 x61 ((rd_T55 x59 x61).f0) ((rd_T55 x59 x61).f1) ((rd_T55 x59 x61).f2)))) else (impl_DishesValid.j4 k x0 x1 x5 false x19 x20 x21 x59 x60 x61 ((rd_T55 x59 x61).f0) ((rd_T55 x59 x61).f1) ((rd_T55 x59 x61).f2))) else (none)) else (none)) else (impl_DishesValid.l0 k x0 x1 x19 x20 (wrap64 (x21 + 1)))
def impl_DishesValid.j4 : Nat → List (S29) → List (S63) → Int → Bool → List (S29) → Int → Int → List (S55) → Int → Int → Int → Int → Int → Option (Bool)
 | 0, _, _, _, _, _, _, _, _, _, _, _, _, _ => none
 | k + 1, x0, x1, x5, x9, x19, x20, x21, x59, x60, x61, x376000, x376001, x376002 => if x376000 = 0 then (if 0 ≤ x5 then (if x5 ≤ (x0.length : Int) then ((impl_DishesFind.f (x0.take (x5 : Int).toNat) x376001).bind fun t382 => (if t382 ≥ 0 then ((impl_within.f x376002 1 9).bind fun t383 => (if x9 = true then (impl_DishesValid.l1 k x0 x1 x5 x19 x20 x21 x59 x60 (wrap64 (x61 + 1))) else (if t383 = true then (impl_DishesValid.l1 k x0 x1 x5 x19 x20 x21 x59 x60 (wrap64 (x61 + 1))) else (some false)))) else (if x9 = true then (impl_DishesValid.l1 k x0 x1 x5 x19 x20 x21 x59 x60 (wrap64 (x61 + 1))) else (some false)))) else (none)) else (none)) else (if x9 = true then (impl_DishesValid.l1 k x0 x1 x5 x19 x20 x21 x59 x60 (wrap64 (x61 + 1))) else (some false))
end
def impl_DishesValid.f (k : Nat) (l0 : List (S29)) (l1 : List (S63)) : Option (Bool) := (impl_FoodsValid.f k l1).bind fun t365 => (if t365 = true then (impl_DishesValid.j0 k l0 l1 (decide ((l0.length : Int) > 4))) else (impl_DishesValid.j0 k l0 l1 true))
theorem impl_DishesValid.mono_l : ∀ k, (∀ y0 y1 y2, LeO (impl_DishesValid.j0 k y0 y1 y2) (impl_DishesValid.j0 (k + 1) y0 y1 y2)) ∧ (∀ y0 y1 y2 y3 y4, LeO (impl_DishesValid.l0 k y0 y1 y2 y3 y4) (impl_DishesValid.l0 (k + 1) y0 y1 y2 y3 y4)) ∧ (∀ y0 y1 y2 y3 y4 y5 y6 y7 y8 y9, LeO (impl_DishesValid.j2 k y0 y1 y2 y3 y4 y5 y6 y7 y8 y9) (impl_DishesValid.j2 (k + 1) y0 y1 y2 y3 y4 y5 y6 y7 y8 y9)) ∧ (∀ y0 y1 y2 y3 y4 y5 y6 y7 y8, LeO (impl_DishesValid.l1 k y0 y1 y2 y3 y4 y5 y6 y7 y8) (impl_DishesValid.l1 (k + 1) y0 y1 y2 y3 y4 y5 y6 y7 y8)) ∧ (∀ y0 y1 y2 y3 y4 y5 y6 y7 y8 y9 y10 y11 y12, LeO (impl_DishesValid.j4 k y0 y1 y2 y3 y4 y5 y6 y7 y8 y9 y10 y11 y12) (impl_DishesValid.j4 (k + 1) y0 y1 y2 y3 y4 y5 y6 y7 y8 y9 y10 y11 y12))
 | 0 => ⟨fun _ _ _ r h => by simp [impl_DishesValid.j0] at h, fun _ _ _ _ _ r h => by simp [impl_DishesValid.l0] at h, fun _ _ _ _ _ _ _ _ _ _ r h => by simp [impl_DishesValid.j2] at h, fun _ _ _ _ _ _ _ _ _ r h => by simp [impl_DishesValid.l1] at h, fun _ _ _ _ _ _ _ _ _ _ _ _ _ r h => by simp [impl_DishesValid.j4] at h⟩
 | k + 1 => by
  obtain ⟨ih0, ih1, ih2, ih3, ih4⟩ := impl_DishesValid.mono_l k
  refine ⟨?_, ?_, ?_, ?_, ?_⟩
  ·intro y0 y1 y2
   unfold impl_DishesValid.j0
   repeat' first
   | (with_reducible exact ih0 _ _ _)
   | (with_reducible exact ih1 _ _ _ _ _)
   | (with_reducible exact ih2 _ _ _ _ _ _ _ _ _ _)
   | (with_reducible exact ih3 _ _ _ _ _ _ _ _ _)
   | (with_reducible exact ih4 _ _ _ _ _ _ _ _ _ _ _ _ _)
   | (with_reducible exact impl_FoodsValid.mono _ _)
   | (with_reducible exact LeO.refl _)
   | (with_reducible exact LeO.none _)
   | (with_reducible refine LeO.ite ?_ ?_)
   | (with_reducible refine LeO.bind ?_ (fun _ => ?_))
   | exact ih0 _ _ _
   | exact ih1 _ _ _ _ _
   | exact ih2 _ _ _ _ _ _ _ _ _ _
   | exact ih3 _ _ _ _ _ _ _ _ _
   | exact ih4 _ _ _ _ _ _ _ _ _ _ _ _ _
   | exact impl_FoodsValid.mono _ _
   | exact LeO.none _
   | refine LeO.ite ?_ ?_
   | refine LeO.bind ?_ (fun _ => ?_)
  ·intro y0 y1 y2 y3 y4
   unfold impl_DishesValid.l0
   repeat' first
   | (with_reducible exact ih0 _ _ _)
   | (with_reducible exact ih1 _ _ _ _ _)
   | (with_reducible exact ih2 _ _ _ _ _ _ _ _ _ _)
   | (with_reducible exact ih3 _ _ _ _ _ _ _ _ _)
   | (with_reducible exact ih4 _ _ _ _ _ _ _ _ _ _ _ _ _)
   | (with_reducible exact impl_FoodsValid.mono _ _)
   | (with_reducible exact LeO.refl _)
   | (with_reducible exact LeO.none _)
   | (with_reducible refine LeO.ite ?_ ?_)
   | (with_reducible refine LeO.bind ?_ (fun _ => ?_))
   | exact ih0 _ _ _
   | exact ih1 _ _ _ _ _
   | exact ih2 _ _ _ _ _ _ _ _ _ _
   | exact ih3 _ _ _ _ _ _ _ _ _
   | exact ih4 _ _ _ _ _ _ _ _ _ _ _ _ _
   | exact impl_FoodsValid.mono _ _
   | exact LeO.none _
   | refine LeO.ite ?_ ?_
   | refine LeO.bind ?_ (fun _ => ?_)
  ·intro y0 y1 y2 y3 y4 y5 y6 y7 y8 y9
   unfold impl_DishesValid.j2
   repeat' first
   | (with_reducible exact ih0 _ _ _)
   | (with_reducible exact ih1 _ _ _ _ _)
   | (with_reducible exact ih2 _ _ _ _ _ _ _ _ _ _)
   | (with_reducible exact ih3 _ _ _ _ _ _ _ _ _)
   | (with_reducible exact ih4 _ _ _ _ _ _ _ _ _ _ _ _ _)
   | (with_reducible exact impl_FoodsValid.mono _ _)
   | (with_reducible exact LeO.refl _)
   | (with_reducible exact LeO.none _)
   | (with_reducible refine LeO.ite ?_ ?_)
   | (with_reducible refine LeO.bind ?_ (fun _ => ?_))
   | exact ih0 _ _ _
   | exact ih1 _ _ _ _ _
   | exact ih2 _ _ _ _ _ _ _ _ _ _
   | exact ih3 _ _ _ _ _ _ _ _ _
   | exact ih4 _ _ _ _ _ _ _ _ _ _ _ _ _
   | exact impl_FoodsValid.mono _ _
   | exact LeO.none _
   | refine LeO.ite ?_ ?_
   | refine LeO.bind ?_ (fun _ => ?_)
  ·intro y0 y1 y2 y3 y4 y5 y6 y7 y8
   unfold impl_DishesValid.l1
   repeat' first
   | (with_reducible exact ih0 _ _ _)
   | (with_reducible exact ih1 _ _ _ _ _)
   | (with_reducible exact ih2 _ _ _ _ _ _ _ _ _ _)
   | (with_reducible exact ih3 _ _ _ _ _ _ _ _ _)
   | (with_reducible exact ih4 _ _ _ _ _ _ _ _ _ _ _ _ _)
   | (with_reducible exact impl_FoodsValid.mono _ _)
   | (with_reducible exact LeO.refl _)
   | (with_reducible exact LeO.none _)
   | (with_reducible refine LeO.ite ?_ ?_)
   | (with_reducible refine LeO.bind ?_ (fun _ => ?_))
   | exact ih0 _ _ _
   | exact ih1 _ _ _ _ _
   | exact ih2 _ _ _ _ _ _ _ _ _ _
   | exact ih3 _ _ _ _ _ _ _ _ _
   | exact ih4 _ _ _ _ _ _ _ _ _ _ _ _ _
   | exact impl_FoodsValid.mono _ _
   | exact LeO.none _
   | refine LeO.ite ?_ ?_
   | refine LeO.bind ?_ (fun _ => ?_)
  ·intro y0 y1 y2 y3 y4 y5 y6 y7 y8 y9 y10 y11 y12
   unfold impl_DishesValid.j4
   repeat' first
   | (with_reducible exact ih0 _ _ _)
   | (with_reducible exact ih1 _ _ _ _ _)
   | (with_reducible exact ih2 _ _ _ _ _ _ _ _ _ _)
   | (with_reducible exact ih3 _ _ _ _ _ _ _ _ _)
   | (with_reducible exact ih4 _ _ _ _ _ _ _ _ _ _ _ _ _)
   | (with_reducible exact impl_FoodsValid.mono _ _)
   | (with_reducible exact LeO.refl _)
   | (with_reducible exact LeO.none _)
   | (with_reducible refine LeO.ite ?_ ?_)
   | (with_reducible refine LeO.bind ?_ (fun _ => ?_))
   | exact ih0 _ _ _
   | exact ih1 _ _ _ _ _
   | exact ih2 _ _ _ _ _ _ _ _ _ _
   | exact ih3 _ _ _ _ _ _ _ _ _
   | exact ih4 _ _ _ _ _ _ _ _ _ _ _ _ _
   | exact impl_FoodsValid.mono _ _
   | exact LeO.none _
   | refine LeO.ite ?_ ?_
   | refine LeO.bind ?_ (fun _ => ?_)
theorem impl_DishesValid.mono : ∀ a0 a1 k, LeO (impl_DishesValid.f k a0 a1) (impl_DishesValid.f (k + 1) a0 a1) := by
 intro a0 a1 k
 obtain ⟨ih0, ih1, ih2, ih3, ih4⟩ := impl_DishesValid.mono_l k
 unfold impl_DishesValid.f
 repeat' first
   | (with_reducible exact ih0 _ _ _)
   | (with_reducible exact ih1 _ _ _ _ _)
   | (with_reducible exact ih2 _ _ _ _ _ _ _ _ _ _)
   | (with_reducible exact ih3 _ _ _ _ _ _ _ _ _)
   | (with_reducible exact ih4 _ _ _ _ _ _ _ _ _ _ _ _ _)
   | (with_reducible exact impl_FoodsValid.mono _ _)
   | (with_reducible exact LeO.refl _)
   | (with_reducible exact LeO.none _)
   | (with_reducible refine LeO.ite ?_ ?_)
   | (with_reducible refine LeO.bind ?_ (fun _ => ?_))
   | exact ih0 _ _ _
   | exact ih1 _ _ _ _ _
   | exact ih2 _ _ _ _ _ _ _ _ _ _
   | exact ih3 _ _ _ _ _ _ _ _ _
   | exact ih4 _ _ _ _ _ _ _ _ _ _ _ _ _
   | exact impl_FoodsValid.mono _ _
   | exact LeO.none _
   | refine LeO.ite ?_ ?_
   | refine LeO.bind ?_ (fun _ => ?_)
def impl_DishesValid.T6 : Bool × List (List Nat × List Nat) := (true, [([], []), ([0], [0]), ([1], [1]), ([2], [2]), ([3, 2], [3]), ([4], [4]), ([5, 4], [4, 5]), ([6, 4, 4], [4, 6]), ([7], [7]), ([7], [7]), ([9, 7], [7, 9]), ([8, 10, 7], [7, 8, 10]), ([11, 7], [7, 11]), ([12, 7], [7, 12]), ([7], [7]), ([14, 7], [7, 14]), ([13, 15, 7], [7, 13, 15]), ([7, 16, 4], [4, 7, 16]), ([4, 17], [4, 17]), ([18, 7], [18]), ([19], [19]), ([20, 19], [19, 20]), ([21, 19, 19], [19, 21]), ([22, 19], [19, 22]), ([19, 23], [19, 23]), ([24, 22], [24]), ([25], [25]), ([26, 25], [25, 26]), ([27, 25], [25, 27]), ([28, 25, 25], [25, 28]), ([29, 25], [25, 29]), ([25, 30], [25, 30])])
def impl_DishesValid.B6 : List Nat := [0, 1, 3, 7, 15, 31, 63, 127, 255, 255, 767, 2047, 4095, 8191, 255, 16639, 65535, 131071, 262143, 524287, 1048575, 2097151, 4194303, 8388607, 16777215, 33554431, 67108863, 134217727, 268435455, 536870911, 1073741823, 2147483647]
theorem impl_DishesValid.tab6 : rtab .any (opsOf Try.f40 6) = impl_DishesValid.T6 := by kernel_rfl
theorem impl_DishesValid.bits6 : waitsOk impl_DishesValid.T6.2 impl_DishesValid.B6 = true := by kernel_rfl
def impl_DishesValid.T12 : Bool × List (List Nat × List Nat) := (true, [([], []), ([0], [0]), ([1], [1]), ([2], [2]), ([3], [3]), ([3], [3]), ([4, 5, 3], [3, 4, 5]), ([3], [3]), ([7, 3], [3, 7]), ([6, 8, 3, 3], [3, 6, 8]), ([9, 3], [3, 9]), ([3, 10], [3, 10]), ([11, 9], [11]), ([12], [12]), ([13, 12], [12, 13]), ([14, 12, 12], [12, 14]), ([12, 15], [12, 15]), ([16, 15, 0, 1, 2, 3, 4, 5, 6, 7, 8, 9, 10, 11, 12, 13, 14, 15, 16], [16])])
def impl_DishesValid.B12 : List Nat := [0, 1, 3, 7, 15, 15, 63, 15, 143, 511, 1023, 2047, 4095, 8191, 16383, 32767, 65535, 131071]
theorem impl_DishesValid.tab12 : rtab .any (opsOf Try.f40 12) = impl_DishesValid.T12 := by kernel_rfl
theorem impl_DishesValid.bits12 : waitsOk impl_DishesValid.T12.2 impl_DishesValid.B12 = true := by kernel_rfl
@[reducible] def impl_DishesValid.b0 : Array Bool := #[true, false, false, false, false, false, false, false, false, false, false, false, false, false, false, false, false, false]
@[reducible] def impl_DishesValid.b1 : Array Bool := #[true, true, false, false, false, false, false, false, false, false, false, false, false, false, false, false, false, false]
@[reducible] def impl_DishesValid.b2 : Array Bool := #[true, true, true, false, false, false, false, false, false, false, false, false, false, false, false, false, false, false]
@[reducible] def impl_DishesValid.b3 : Array Bool := #[true, true, true, true, false, false, false, false, false, false, false, false, false, false, false, false, false, false]
@[reducible] def impl_DishesValid.b4 : Array Bool := #[true, true, true, true, true, false, false, false, false, false, false, false, false, false, false, false, false, false]
@[reducible] def impl_DishesValid.b5 : Array Bool := #[true, true, true, true, true, true, false, false, false, false, false, false, false, false, false, false, false, false]
@[reducible] def impl_DishesValid.b6 : Array Bool := #[true, true, true, true, true, true, true, false, false, false, false, false, false, false, false, false, false, false]
@[reducible] def impl_DishesValid.b7 : Array Bool := #[true, true, true, true, true, true, true, true, false, false, false, false, false, false, false, false, false, false]
@[reducible] def impl_DishesValid.b8 : Array Bool := #[true, true, true, true, true, true, true, true, true, false, false, false, false, false, false, false, false, false]
@[reducible] def impl_DishesValid.b9 : Array Bool := #[true, true, true, true, true, true, true, true, true, true, false, false, false, false, false, false, false, false]
@[reducible] def impl_DishesValid.b10 : Array Bool := #[true, true, true, true, true, true, true, true, true, true, true, false, false, false, false, false, false, false]
@[reducible] def impl_DishesValid.b11 : Array Bool := #[true, true, true, true, true, true, true, true, true, true, true, true, false, false, false, false, false, false]
@[reducible] def impl_DishesValid.b12 : Array Bool := #[true, true, true, true, true, true, true, true, true, true, true, true, true, false, false, false, false, false]
@[reducible] def impl_DishesValid.b13 : Array Bool := #[true, true, true, true, true, true, true, true, true, true, true, true, true, true, false, false, false, false]
@[reducible] def impl_DishesValid.b14 : Array Bool := #[true, true, true, true, true, true, true, true, true, true, true, true, true, true, true, false, false, false]
@[reducible] def impl_DishesValid.b15 : Array Bool := #[true, true, true, true, true, true, true, true, true, true, true, true, true, true, true, true, false, false]
@[reducible] def impl_DishesValid.b16 : Array Bool := #[true, true, true, true, true, true, true, true, true, true, true, true, true, true, true, true, true, false]
@[reducible] def impl_DishesValid.b17 : Array Bool := #[true, true, true, true, true, true, true, true, true, true, true, true, true, true, true, true, true, true]
@[reducible] def impl_DishesValid.b18 : Array Bool := #[true, false, false, false, false, false, false, false, false, false, false, false, false, false, false, false, false, false, false, false, false, false, false, false, false, false, false, false, false, false, false, false]
@[reducible] def impl_DishesValid.b19 : Array Bool := #[true, true, false, false, false, false, false, false, false, false, false, false, false, false, false, false, false, false, false, false, false, false, false, false, false, false, false, false, false, false, false, false]
@[reducible] def impl_DishesValid.b20 : Array Bool := #[true, true, true, false, false, false, false, false, false, false, false, false, false, false, false, false, false, false, false, false, false, false, false, false, false, false, false, false, false, false, false, false]
@[reducible] def impl_DishesValid.b21 : Array Bool := #[true, true, true, true, false, false, false, false, false, false, false, false, false, false, false, false, false, false, false, false, false, false, false, false, false, false, false, false, false, false, false, false]
@[reducible] def impl_DishesValid.b22 : Array Bool := #[true, true, true, true, true, false, false, false, false, false, false, false, false, false, false, false, false, false, false, false, false, false, false, false, false, false, false, false, false, false, false, false]
@[reducible] def impl_DishesValid.b23 : Array Bool := #[true, true, true, true, true, true, false, false, false, false, false, false, false, false, false, false, false, false, false, false, false, false, false, false, false, false, false, false, false, false, false, false]
@[reducible] def impl_DishesValid.b24 : Array Bool := #[true, true, true, true, true, true, true, false, false, false, false, false, false, false, false, false, false, false, false, false, false, false, false, false, false, false, false, false, false, false, false, false]
@[reducible] def impl_DishesValid.b25 : Array Bool := #[true, true, true, true, true, true, true, true, false, false, false, false, false, false, false, false, false, false, false, false, false, false, false, false, false, false, false, false, false, false, false, false]
@[reducible] def impl_DishesValid.b26 : Array Bool := #[true, true, true, true, true, true, true, true, true, false, false, false, false, false, false, false, false, false, false, false, false, false, false, false, false, false, false, false, false, false, false, false]
@[reducible] def impl_DishesValid.b27 : Array Bool := #[true, true, true, true, true, true, true, true, true, true, false, false, false, false, false, false, false, false, false, false, false, false, false, false, false, false, false, false, false, false, false, false]
@[reducible] def impl_DishesValid.b28 : Array Bool := #[true, true, true, true, true, true, true, true, true, true, true, false, false, false, false, false, false, false, false, false, false, false, false, false, false, false, false, false, false, false, false, false]
@[reducible] def impl_DishesValid.b29 : Array Bool := #[true, true, true, true, true, true, true, true, true, true, true, true, false, false, false, false, false, false, false, false, false, false, false, false, false, false, false, false, false, false, false, false]
@[reducible] def impl_DishesValid.b30 : Array Bool := #[true, true, true, true, true, true, true, true, true, true, true, true, true, false, false, false, false, false, false, false, false, false, false, false, false, false, false, false, false, false, false, false]
@[reducible] def impl_DishesValid.b31 : Array Bool := #[true, true, true, true, true, true, true, true, true, true, true, true, true, true, true, false, false, false, false, false, false, false, false, false, false, false, false, false, false, false, false, false]
@[reducible] def impl_DishesValid.b32 : Array Bool := #[true, true, true, true, true, true, true, true, true, true, true, true, true, true, true, true, false, false, false, false, false, false, false, false, false, false, false, false, false, false, false, false]
@[reducible] def impl_DishesValid.b33 : Array Bool := #[true, true, true, true, true, true, true, true, true, true, true, true, true, true, true, true, true, false, false, false, false, false, false, false, false, false, false, false, false, false, false, false]
@[reducible] def impl_DishesValid.b34 : Array Bool := #[true, true, true, true, true, true, true, true, true, true, true, true, true, true, true, true, true, true, false, false, false, false, false, false, false, false, false, false, false, false, false, false]
@[reducible] def impl_DishesValid.b35 : Array Bool := #[true, true, true, true, true, true, true, true, true, true, true, true, true, true, true, true, true, true, true, false, false, false, false, false, false, false, false, false, false, false, false, false]
@[reducible] def impl_DishesValid.b36 : Array Bool := #[true, true, true, true, true, true, true, true, true, true, true, true, true, true, true, true, true, true, true, true, false, false, false, false, false, false, false, false, false, false, false, false]
@[reducible] def impl_DishesValid.b37 : Array Bool := #[true, true, true, true, true, true, true, true, true, true, true, true, true, true, true, true, true, true, true, true, true, false, false, false, false, false, false, false, false, false, false, false]
@[reducible] def impl_DishesValid.b38 : Array Bool := #[true, true, true, true, true, true, true, true, true, true, true, true, true, true, true, true, true, true, true, true, true, true, false, false, false, false, false, false, false, false, false, false]
@[reducible] def impl_DishesValid.b39 : Array Bool := #[true, true, true, true, true, true, true, true, true, true, true, true, true, true, true, true, true, true, true, true, true, true, true, false, false, false, false, false, false, false, false, false]
@[reducible] def impl_DishesValid.b40 : Array Bool := #[true, true, true, true, true, true, true, true, true, true, true, true, true, true, true, true, true, true, true, true, true, true, true, true, false, false, false, false, false, false, false, false]
@[reducible] def impl_DishesValid.b41 : Array Bool := #[true, true, true, true, true, true, true, true, true, true, true, true, true, true, true, true, true, true, true, true, true, true, true, true, true, false, false, false, false, false, false, false]
@[reducible] def impl_DishesValid.b42 : Array Bool := #[true, true, true, true, true, true, true, true, true, true, true, true, true, true, true, true, true, true, true, true, true, true, true, true, true, true, false, false, false, false, false, false]
@[reducible] def impl_DishesValid.b43 : Array Bool := #[true, true, true, true, true, true, true, true, true, true, true, true, true, true, true, true, true, true, true, true, true, true, true, true, true, true, true, false, false, false, false, false]
@[reducible] def impl_DishesValid.b44 : Array Bool := #[true, true, true, true, true, true, true, true, true, true, true, true, true, true, true, true, true, true, true, true, true, true, true, true, true, true, true, true, false, false, false, false]
@[reducible] def impl_DishesValid.b45 : Array Bool := #[true, true, true, true, true, true, true, true, true, true, true, true, true, true, true, true, true, true, true, true, true, true, true, true, true, true, true, true, true, false, false, false]
@[reducible] def impl_DishesValid.b46 : Array Bool := #[true, true, true, true, true, true, true, true, true, true, true, true, true, true, true, true, true, true, true, true, true, true, true, true, true, true, true, true, true, true, false, false]
@[reducible] def impl_DishesValid.b47 : Array Bool := #[true, true, true, true, true, true, true, true, true, true, true, true, true, true, true, true, true, true, true, true, true, true, true, true, true, true, true, true, true, true, true, false]
@[reducible] def impl_DishesValid.b48 : Array Bool := #[true, true, true, true, true, true, true, true, true, true, true, true, true, true, true, true, true, true, true, true, true, true, true, true, true, true, true, true, true, true, true, true]
@[reducible] def impl_DishesValid.b49 : Array Bool := #[true, true, true, true, true, true, true, true, true, true, true, true, true, false, true, false, false, false, false, false, false, false, false, false, false, false, false, false, false, false, false, false]
@[reducible] def impl_DishesValid.b50 : Array Bool := #[true, true, true, true, true, true, true, true, true, true, true, true, true, true, false, false, false, false, false, false, false, false, false, false, false, false, false, false, false, false, false, false]
set_option maxHeartbeats 8000000 in
set_option maxRecDepth 100000 in
theorem impl_DishesValid.calls (k : Nat) (A0 : Option Addr) (c0 : Nat) (l0 : List (S29)) (A1 : Option Addr) (c1 : Nat) (l1 : List (S63)) (r : Bool) (w : World) (hr0 : Kd.C k29 w A0 l0.length l0) (hc0 : l0.length ≤ c0) (hr1 : Kd.C k63 w A1 l1.length l1) (hc1 : l1.length ≤ c1) (h : impl_DishesValid.f k l0 l1 = some r) :
  Calls Try.prog 40 #[.slice A0 l0.length c0, .slice A1 l1.length c1] w fun e w' => e = .returned (.bool r) ∧ Below w.heap.size w w' := by
 have hu29 := Try.underlying29
 have hu55 := Try.underlying55
 have HR0 := Aside0.mk hr0
 have HC0 := Aside0.mk hc0
 clear hr0 hc0
 have HR1 := Aside0.mk hr1
 have HC1 := Aside0.mk hc1
 clear hr1 hc1
 have HB := Aside0.mk (Below.refl w.heap.size w)
 have H : ((impl_FoodsValid.f k l1).bind fun t365 => (if t365 = true then (impl_DishesValid.j0 k l0 l1 (decide ((l0.length : Int) > 4))) else (impl_DishesValid.j0 k l0 l1 true))) = some r := h
 clear h
 have HC3 := Aside0.mk H
 clear H
 go_enter Try.func40, Try.ntmps40
 go_upto_region 1 with (fail)
 go_cut [18] (fun v18 wc => ∃ (kq : Nat) (x18_2 : Bool), v18 = .bool x18_2 ∧ Aside0 (impl_DishesValid.j0 kq l0 l1 x18_2 = some r) ∧ Aside0 (kq ≤ k) ∧ Aside0 (Below w.heap.size w wc))
 case first =>
  have H := HC3.out
  clear HC3
  replace H := Option.bind_eq_some_iff.mp H
  obtain ⟨t365, A40, H⟩ := H
  replace H : (if t365 = true then (impl_DishesValid.j0 k l0 l1 (decide ((l0.length : Int) > 4))) else (impl_DishesValid.j0 k l0 l1 true)) = some r := H
  have A4 := Aside0.mk A40
  clear A40
  by_cases c5 : t365 = true
  ·subst c5
   have H1 : (impl_DishesValid.j0 k l0 l1 (decide ((l0.length : Int) > 4))) = some r := by rw [if_pos rfl] at H; exact H
   clear H
   have H := H1
   clear H1
   have H' := Aside0.mk H
   clear H
   go_wp2_with (first | ((with_reducible refine gate_callee (f := 79) rfl ?_); refine goesL_ (some 12) rfl rfl Try.func79 pL rfl #[.slice A1 l1.length c1] rfl pM ?_; (with_reducible refine (impl_FoodsValid.calls k _ _ l1 true _ ?side1 ?side2 A4.out).mono ?_); (case side1 => exact pS ((Kd.C_below HR1.out HB.out))); (case side2 => exact HC1.out); rintro e w6 ⟨rfl, hb⟩; refine ⟨_, rfl, ?_⟩; have n0_ := Aside0.mk (below_step pB hb); clear HB; have HB := n0_; clear n0_; (try clear hb); (try clear hb2); (try clear hk); (try clear hi)))
   go_meet
   case rel => exact ⟨_, (decide ((l0.length : Int) > 4)), pF, H', ⟨by first | omega | exact Nat.le_refl _⟩, ⟨pB⟩⟩
  ·replace c5 := Bool.eq_false_iff.mpr c5
   subst c5
   have H1 : (impl_DishesValid.j0 k l0 l1 true) = some r := by rw [if_neg (show ¬ (false = true) by decide)] at H; exact H
   clear H
   have H := H1
   clear H1
   have H' := Aside0.mk H
   clear H
   go_wp2_with (first | ((with_reducible refine gate_callee (f := 79) rfl ?_); refine goesL_ (some 12) rfl rfl Try.func79 pL rfl #[.slice A1 l1.length c1] rfl pM ?_; (with_reducible refine (impl_FoodsValid.calls k _ _ l1 false _ ?side1 ?side2 A4.out).mono ?_); (case side1 => exact pS ((Kd.C_below HR1.out HB.out))); (case side2 => exact HC1.out); rintro e w7 ⟨rfl, hb⟩; refine ⟨_, rfl, ?_⟩; have n0_ := Aside0.mk (below_step pB hb); clear HB; have HB := n0_; clear n0_; (try clear hb); (try clear hb2); (try clear hk); (try clear hi)))
   go_meet
   case rel => exact ⟨_, (true), pF, H', ⟨by first | omega | exact Nat.le_refl _⟩, ⟨pB⟩⟩
 case rest =>
  clear HC3
  try clear c1
  try clear p2
  try clear c4
  try clear c5
  try clear c7
  obtain ⟨kq, x18_2, rfl, HA, HJ2, HB⟩ := hcut
  cases kq with
  | zero => exact absurd HA.out (by simp [impl_DishesValid.j0])
  | succ kj2 =>
   have H := HA.out
   clear HA
   simp only [impl_DishesValid.j0] at H
   by_cases c8 : x18_2 = true
   ·subst c8
    have H1 : (some false) = some r := by rw [if_pos rfl] at H; exact H
    clear H
    have H := H1
    clear H1
    obtain rfl := Option.some.inj H
    go_wp2
    go_ret
    exact ⟨pE, pB⟩
   ·replace c8 := Bool.eq_false_iff.mpr c8
    subst c8
    have H1 : (impl_DishesValid.l0 kj2 l0 l1 l0 (l0.length : Int) 0) = some r := by rw [if_neg (show ¬ (false = true) by decide)] at H; exact H
    clear H
    have H := H1
    clear H1
    have H' := Aside0.mk H
    clear H
    go_wp2
    go_loopg [21] kj2 (fun kq v21 w' => ∃ (x21_2 : Int), v21 = .int .i64 x21_2 ∧ Aside0 (impl_DishesValid.l0 kq l0 l1 l0 (l0.length : Int) x21_2 = some r) ∧ Aside0 (kq ≤ kj2) ∧ Aside0 (Below w.heap.size w w'))
    case atStart => exact ⟨(0), pF, H', ⟨Nat.le_refl _⟩, ⟨pB⟩⟩
    case round =>
     clear H'
     try clear c1
     try clear p2
     try clear c4
     try clear c5
     try clear c7
     try clear c8
     try clear p2
     obtain ⟨x21_2, rfl, HA, HK2, HB⟩ := hrel
     cases gk with
     | zero => exact absurd HA.out (by simp [impl_DishesValid.l0])
     | succ k2 =>
      have H := HA.out
      clear HA
      simp only [impl_DishesValid.l0] at H
      by_cases c9 : x21_2 < (l0.length : Int)
      ·rw [if_pos c9] at H
       have c9b0 : decide (x21_2 < (l0.length : Int)) = true := decide_eq_true c9
       clear c9
       by_cases c10 : 0 ≤ x21_2
       ·rw [if_pos c10] at H
        have c10b0 : decide (0 ≤ x21_2) = true := decide_eq_true c10
        clear c10
        by_cases c11 : x21_2 < (l0.length : Int)
        ·rw [if_pos c11] at H
         have c11b0 : decide (x21_2 < (l0.length : Int)) = true := decide_eq_true c11
         clear c11
         have HC12 := Aside0.mk H
         clear H
         have p366 : 0 ≤ (x21_2 : Int) := of_decide_eq_true pA
         have q366 : x21_2 < (l0.length : Int) := of_decide_eq_true pA
         obtain ⟨ad366, A366_2, c366_2, e366, hx366_0, hx366_1, hx366_2, hl366_2, hi366_2⟩ := at_T29 HR0.out x21_2 p366 q366
         cases e366
         replace hx366_0 := (HB.out.cell (World.block_lt_of_cell? w _ hx366_0)).trans hx366_0
         replace hx366_1 := (HB.out.cell (World.block_lt_of_cell? w _ hx366_1)).trans hx366_1
         replace hx366_2 := (HB.out.cell (World.block_lt_of_cell? w _ hx366_2)).trans hx366_2
         have HR366_2 := Aside0.mk hi366_2
         have HC366_2 := Aside0.mk hl366_2
         clear hi366_2 hl366_2
         replace p366 := eq_true p366
         replace q366 := eq_true q366
         go_upto_region 6 with (first | ((with_reducible refine gate_dst (N := 6) rfl ?_); (try (refine gate_guard (by rfl) ?_; dsimp only)); refine box_event ?hg (N := 6) ?hd (cs := #[.int .i64 0, .int .i64 0, .slice none 0 0]) (t := 29) ?hr ?_; (case hd => rfl); (case hg => rfl); (case hr => first | (go_simp; done) | (go_simp; rfl)); intro gb367 hg w13 hbox hb; have n0_ := Aside0.mk (below_step pB hb); have n1_ := Aside0.mk (hbox); have n2_ := Aside0.mk ((by rw [hg]; exact (below_size pB) : w.heap.size ≤ gb367)); have n3_ := Aside0.mk ((by rw [hg]; exact (below_size pB) : w.heap.size ≤ gb367)); clear HB; have HB := n0_; have BK367 := n1_; have GW367 := n2_; have GE367 := n3_; clear n0_ n1_ n2_ n3_; clear hb hbox hg; have hcz14_0 : w13.cell? ⟨gb367, 0, none⟩ = some (.int .i64 0) := (blk_cell BK367.out 0).trans rfl; have hcz14_1 : w13.cell? ⟨gb367, 1, none⟩ = some (.int .i64 0) := (blk_cell BK367.out 1).trans rfl; have hcz14_2 : w13.cell? ⟨gb367, 2, none⟩ = some (.slice none 0 0) := (blk_cell BK367.out 2).trans rfl; have hfz14_0 := blk_frozen BK367.out 0; have hfz14_1 := blk_frozen BK367.out 1; have hfz14_2 := blk_frozen BK367.out 2))
         (try simp only [Act.put, List.setIfInBounds_toArray, List.set_cons_zero, List.set_cons_succ])
         go_cut [57] (fun v57 wc => ∃ (kq : Nat) (x57_11 : Bool), v57 = .bool x57_11 ∧ Aside0 (impl_DishesValid.j2 kq l0 l1 x21_2 l0 (l0.length : Int) x21_2 x57_11 ((rd_T29 l0 x21_2).f0) ((rd_T29 l0 x21_2).f1) ((rd_T29 l0 x21_2).f2) = some r) ∧ Aside0 (kq ≤ k2) ∧ Aside0 (wc.heap[gb367]? = some (.cells #[.int .i64 ((rd_T29 l0 x21_2).f0), .int .i64 ((rd_T29 l0 x21_2).f1), (.slice A366_2 ((rd_T29 l0 x21_2).f2).length c366_2)] 29 (0, 0))) ∧ Aside0 (Below w.heap.size w wc))
         case first =>
          have H := HC12.out
          clear HC12
          replace H := Option.bind_eq_some_iff.mp H
          obtain ⟨t368, A150, H⟩ := H
          replace H : (if t368 = true then (if x21_2 > 0 then (if 0 ≤ (wrap64 (x21_2 - 1)) then (if (wrap64 (x21_2 - 1)) < (l0.length : Int) then (if ((rd_T29 l0 (wrap64 (x21_2 - 1))).f0) ≥ ((rd_T29 l0 x21_2).f0) then (impl_DishesValid.j2 k2 l0 l1 x21_2 l0 (l0.length : Int) x21_2 true ((rd_T29 l0 x21_2).f0) ((rd_T29 l0 x21_2).f1) ((rd_T29 l0 x21_2).f2)) else ((impl_within.f ((rd_T29 l0 x21_2).f1) 1 12).bind fun t370 => (if t370 = true then ((impl_within.f (((rd_T29 l0 x21_2).f2).length : Int) 1 5).bind fun t371 => (impl_DishesValid.j2 k2 l0 l1 x21_2 l0 (l0.length : Int) x21_2 (!t371) ((rd_T29 l0 x21_2).f0) ((rd_T29 l0 x21_2).f1) ((rd_T29 l0 x21_2).f2))) else (impl_DishesValid.j2 k2 l0 l1 x21_2 l0 (l0.length : Int) x21_2 true ((rd_T29 l0 x21_2).f0) ((rd_T29 l0 x21_2).f1) ((rd_T29 l0 x21_2).f2))))) else (none)) else (none)) else ((impl_within.f ((rd_T29 l0 x21_2).f1) 1 12).bind fun t372 => (if t372 = true then ((impl_within.f (((rd_T29 l0 x21_2).f2).length : Int) 1 5).bind fun t373 => (impl_DishesValid.j2 k2 l0 l1 x21_2 l0 (l0.length : Int) x21_2 (!t373) ((rd_T29 l0 x21_2).f0) ((rd_T29 l0 x21_2).f1) ((rd_T29 l0 x21_2).f2))) else (impl_DishesValid.j2 k2 l0 l1 x21_2 l0 (l0.length : Int) x21_2 true ((rd_T29 l0 x21_2).f0) ((rd_T29 l0 x21_2).f1) ((rd_T29 l0 x21_2).f2))))) else (impl_DishesValid.j2 k2 l0 l1 x21_2 l0 (l0.length : Int) x21_2 true ((rd_T29 l0 x21_2).f0) ((rd_T29 l0 x21_2).f1) ((rd_T29 l0 x21_2).f2))) = some r := H
          have A15 := Aside0.mk A150
          clear A150
          by_cases c16 : t368 = true
          ·subst c16
           have H1 : (if x21_2 > 0 then (if 0 ≤ (wrap64 (x21_2 - 1)) then (if (wrap64 (x21_2 - 1)) < (l0.length : Int) then (if ((rd_T29 l0 (wrap64 (x21_2 - 1))).f0) ≥ ((rd_T29 l0 x21_2).f0) then (impl_DishesValid.j2 k2 l0 l1 x21_2 l0 (l0.length : Int) x21_2 true ((rd_T29 l0 x21_2).f0) ((rd_T29 l0 x21_2).f1) ((rd_T29 l0 x21_2).f2)) else ((impl_within.f ((rd_T29 l0 x21_2).f1) 1 12).bind fun t370 => (if t370 = true then ((impl_within.f (((rd_T29 l0 x21_2).f2).length : Int) 1 5).bind fun t371 => (impl_DishesValid.j2 k2 l0 l1 x21_2 l0 (l0.length : Int) x21_2 (!t371) ((rd_T29 l0 x21_2).f0) ((rd_T29 l0 x21_2).f1) ((rd_T29 l0 x21_2).f2))) else (impl_DishesValid.j2 k2 l0 l1 x21_2 l0 (l0.length : Int) x21_2 true ((rd_T29 l0 x21_2).f0) ((rd_T29 l0 x21_2).f1) ((rd_T29 l0 x21_2).f2))))) else (none)) else (none)) else ((impl_within.f ((rd_T29 l0 x21_2).f1) 1 12).bind fun t372 => (if t372 = true then ((impl_within.f (((rd_T29 l0 x21_2).f2).length : Int) 1 5).bind fun t373 => (impl_DishesValid.j2 k2 l0 l1 x21_2 l0 (l0.length : Int) x21_2 (!t373) ((rd_T29 l0 x21_2).f0) ((rd_T29 l0 x21_2).f1) ((rd_T29 l0 x21_2).f2))) else (impl_DishesValid.j2 k2 l0 l1 x21_2 l0 (l0.length : Int) x21_2 true ((rd_T29 l0 x21_2).f0) ((rd_T29 l0 x21_2).f1) ((rd_T29 l0 x21_2).f2))))) = some r := by rw [if_pos rfl] at H; exact H
           clear H
           have H := H1
           clear H1
           by_cases c17 : x21_2 > 0
           ·rw [if_pos c17] at H
            have c17b0 : decide (0 < x21_2) = true := decide_eq_true c17
            clear c17
            (first | rw [c17b0] | (simp only [i64_w, i32_w]; rw [c17b0]) | skip)
            obtain ⟨ji18, hji18⟩ : ∃ j_ : Int, (wrap64 (x21_2 - 1)) = j_ := ⟨_, rfl⟩
            replace H : (if 0 ≤ (ji18) then (if (ji18) < (l0.length : Int) then (if ((rd_T29 l0 (ji18)).f0) ≥ ((rd_T29 l0 x21_2).f0) then (impl_DishesValid.j2 k2 l0 l1 x21_2 l0 (l0.length : Int) x21_2 true ((rd_T29 l0 x21_2).f0) ((rd_T29 l0 x21_2).f1) ((rd_T29 l0 x21_2).f2)) else ((impl_within.f ((rd_T29 l0 x21_2).f1) 1 12).bind fun t370 => (if t370 = true then ((impl_within.f (((rd_T29 l0 x21_2).f2).length : Int) 1 5).bind fun t371 => (impl_DishesValid.j2 k2 l0 l1 x21_2 l0 (l0.length : Int) x21_2 (!t371) ((rd_T29 l0 x21_2).f0) ((rd_T29 l0 x21_2).f1) ((rd_T29 l0 x21_2).f2))) else (impl_DishesValid.j2 k2 l0 l1 x21_2 l0 (l0.length : Int) x21_2 true ((rd_T29 l0 x21_2).f0) ((rd_T29 l0 x21_2).f1) ((rd_T29 l0 x21_2).f2))))) else (none)) else (none)) = some r := by first | (rw [hji18] at H; exact H) | (simp only [hji18] at H ⊢; exact H)
            (try rw [hji18] at A15)
            have hji18w : (IntKind.i64.wrap (x21_2 - 1)) = ji18 := (i64_w _).trans hji18
            by_cases c19 : 0 ≤ (ji18)
            ·rw [if_pos c19] at H
             have c19b0 : decide (0 ≤ (ji18)) = true := decide_eq_true c19
             clear c19
             by_cases c20 : (ji18) < (l0.length : Int)
             ·rw [if_pos c20] at H
              have c20b0 : decide ((ji18) < (l0.length : Int)) = true := decide_eq_true c20
              clear c20
              by_cases c21 : ((rd_T29 l0 (ji18)).f0) ≥ ((rd_T29 l0 x21_2).f0)
              ·rw [if_pos c21] at H
               have c21b0 : decide (((rd_T29 l0 x21_2).f0) ≤ ((rd_T29 l0 (ji18)).f0)) = true := decide_eq_true c21
               clear c21
               have H' := Aside0.mk H
               clear H
               try go_wp2
               have n0_ : Aside0 ((((w13.setCell ⟨gb367, 0, none⟩ (.int .i64 ((rd_T29 l0 x21_2).f0))).setCell ⟨gb367, 1, none⟩ (.int .i64 ((rd_T29 l0 x21_2).f1))).setCell ⟨gb367, 2, none⟩ (.slice A366_2 ((rd_T29 l0 x21_2).f2).length c366_2)).heap[gb367]? = some (.cells #[.int .i64 ((rd_T29 l0 x21_2).f0), .int .i64 ((rd_T29 l0 x21_2).f1), .slice A366_2 ((rd_T29 l0 x21_2).f2).length c366_2] 29 (0, 0))) := ⟨by (with_reducible repeat (first | refine blk_drewN ?_ _ | refine blk_drew ?_ | refine blk_alloc ?_ _)); refine blk_put (cs := #[.int .i64 ((rd_T29 l0 x21_2).f0), .int .i64 ((rd_T29 l0 x21_2).f1), .slice none 0 0]) ?_ 2 _ rfl; (with_reducible repeat (first | refine blk_drewN ?_ _ | refine blk_drew ?_ | refine blk_alloc ?_ _)); refine blk_put (cs := #[.int .i64 ((rd_T29 l0 x21_2).f0), .int .i64 0, .slice none 0 0]) ?_ 1 _ rfl; (with_reducible repeat (first | refine blk_drewN ?_ _ | refine blk_drew ?_ | refine blk_alloc ?_ _)); refine blk_put (cs := #[.int .i64 0, .int .i64 0, .slice none 0 0]) ?_ 0 _ rfl; (with_reducible repeat (first | refine blk_drewN ?_ _ | refine blk_drew ?_ | refine blk_alloc ?_ _)); exact BK367.out⟩
               have n1_ : Aside0 (Below w.heap.size w (((w13.setCell ⟨gb367, 0, none⟩ (.int .i64 ((rd_T29 l0 x21_2).f0))).setCell ⟨gb367, 1, none⟩ (.int .i64 ((rd_T29 l0 x21_2).f1))).setCell ⟨gb367, 2, none⟩ (.slice A366_2 ((rd_T29 l0 x21_2).f2).length c366_2))) := ⟨pG GE367⟩
               (try clear BK367)
               (try clear HB)
               generalize (((w13.setCell ⟨gb367, 0, none⟩ (.int .i64 ((rd_T29 l0 x21_2).f0))).setCell ⟨gb367, 1, none⟩ (.int .i64 ((rd_T29 l0 x21_2).f1))).setCell ⟨gb367, 2, none⟩ (.slice A366_2 ((rd_T29 l0 x21_2).f2).length c366_2)) = w22 at n0_ n1_ ⊢
               have BK367 := n0_
               have HB := n1_
               clear n0_ n1_
               have n0_ := Aside0.mk (blk_drew BK367.out)
               have n1_ := Aside0.mk (below_drew1 HB.out)
               clear BK367
               clear HB
               have BK367 := n0_
               have HB := n1_
               clear n0_ n1_
               have p369 : 0 ≤ ((ji18) : Int) := of_decide_eq_true pA
               have q369 : (ji18) < (l0.length : Int) := of_decide_eq_true pA
               obtain ⟨ad369, A369_2, c369_2, e369, hx369_0, hx369_1, hx369_2, hl369_2, hi369_2⟩ := at_T29 HR0.out (ji18) p369 q369
               have hw369_2 := hx369_2
               have hw369_1 := hx369_1
               have hw369_0 := hx369_0
               obtain rfl : ad366 = ad369 := (by injection e369)
               replace hx369_0 := (HB.out.cell (World.block_lt_of_cell? w _ hx369_0)).trans hx369_0
               replace hx369_1 := (HB.out.cell (World.block_lt_of_cell? w _ hx369_1)).trans hx369_1
               replace hx369_2 := (HB.out.cell (World.block_lt_of_cell? w _ hx369_2)).trans hx369_2
               have HR369_2 := Aside0.mk hi369_2
               have HC369_2 := Aside0.mk hl369_2
               clear hi369_2 hl369_2
               replace p369 := eq_true p369
               replace q369 := eq_true q369
               refine start_ (n := 32) (S := fun w' => w'.cell? ⟨gb367, 0, none⟩ = some (.int .i64 ((rd_T29 l0 x21_2).f0)) ∧ w'.cell? ⟨gb367, 1, none⟩ = some (.int .i64 ((rd_T29 l0 x21_2).f1)) ∧ w'.cell? ⟨gb367, 2, none⟩ = some (.slice A366_2 ((rd_T29 l0 x21_2).f2).length c366_2) ∧ w'.cell? (ad366.add (((ji18)).toNat * 3)) = some (.int .i64 ((rd_T29 l0 (ji18)).f0)) ∧ w'.cell? ⟨(ad366.add (((ji18)).toNat * 3)).block, (ad366.add (((ji18)).toNat * 3)).off + 1, none⟩ = some (.int .i64 ((rd_T29 l0 (ji18)).f1)) ∧ w'.cell? ⟨(ad366.add (((ji18)).toNat * 3)).block, (ad366.add (((ji18)).toNat * 3)).off + 2, none⟩ = some (.slice A369_2 ((rd_T29 l0 (ji18)).f2).length c369_2)) (ds := []) #[false, false, false, false, false, false, false, false, false, false, false, false, false, false, false, false, false, false, false, false, false, false, false, false, false, false, false, false, false, false, false, false] pL rfl rfl ⟨(blk_cell BK367.out 0).trans rfl, (blk_cell BK367.out 1).trans rfl, (blk_cell BK367.out 2).trans rfl, ((HB.out.cell (World.block_lt_of_cell? w _ hw369_0)).trans hw369_0), ((HB.out.cell (World.block_lt_of_cell? w _ hw369_1)).trans hw369_1), ((HB.out.cell (World.block_lt_of_cell? w _ hw369_2)).trans hw369_2)⟩ (fun hHeld => ?_); refine with_tabW impl_DishesValid.tab6 impl_DishesValid.bits6 (fun HT_ HW_ => ?_)
               generalize w22.drew = w23 at BK367 HB HR369_2 hx369_0 hx369_1 hx369_2 hHeld ⊢
               refine pu 0 (some 26) impl_DishesValid.b18 HT_ rfl rfl pL (fun _ _ _ h => h) (by rfl) pY pP ?_
               refine tk 1 (some 27) impl_DishesValid.b19 HT_ HW_ rfl rfl pL (fun _ _ _ h => h) (by rfl) (by rintro w' ⟨s0, s1, s2, s3, s4, s5⟩; go_simp; with_reducible rfl) hHeld pP ?_
               refine one_ (i := 2) (N := some 28) impl_DishesValid.b20 rfl rfl (one_of HT_.out pL) (by decide) (fun K hK => ?_)
               refine goes_ Try.func80 pL rfl #[.int .i64 ((rd_T29 l0 x21_2).f0)] (by rfl) rfl rfl pM ?_
               with_reducible refine (impl_isId.calls ((rd_T29 l0 x21_2).f0) true _ A15.out).mono ?_
               rintro e w' ⟨rfl, ⟨nd, rfl⟩⟩
               refine ⟨_, rfl, ?_⟩
               refine hK.out _ _ ⟨(blk_cell BK367.out 0).trans rfl, (blk_cell BK367.out 1).trans rfl, (blk_cell BK367.out 2).trans rfl, ((HB.out.cell (World.block_lt_of_cell? w _ hw369_0)).trans hw369_0), ((HB.out.cell (World.block_lt_of_cell? w _ hw369_1)).trans hw369_1), ((HB.out.cell (World.block_lt_of_cell? w _ hw369_2)).trans hw369_2)⟩ (fun hHeld => ?_)
               clear hK K
               refine norm_ (a' := ?_) ?_ ?_
               rotate_left
               ·show Act.put _ (some 28) _ = _
                exact pP
               refine pu 3 (some 29) impl_DishesValid.b21 HT_ rfl rfl pL (fun _ _ _ h => h) (by rfl) pY pP ?_
               refine pu 4 (some 30) impl_DishesValid.b22 HT_ rfl rfl pL (fun _ _ _ h => h) (by rfl) pY pP ?_
               refine pu 5 (some 31) impl_DishesValid.b23 HT_ rfl rfl pL (fun _ _ _ h => h) (by rfl) pY pP ?_
               refine pu 6 (some 32) impl_DishesValid.b24 HT_ rfl rfl pL (fun _ _ _ h => h) (by rfl) pY pP ?_
               refine pu 7 (some 33) impl_DishesValid.b25 HT_ rfl rfl pL (fun _ _ _ h => h) (by rfl) pY pP ?_
               refine pu 8 (some 34) impl_DishesValid.b26 HT_ rfl rfl pL (fun _ _ _ h => h) (by rfl) pY pP ?_
               refine pu 9 (some 35) impl_DishesValid.b27 HT_ rfl rfl pL (fun _ _ _ h => h) (by rfl) pY pP ?_
               refine pu 10 (some 36) impl_DishesValid.b28 HT_ rfl rfl pL (fun _ _ _ h => h) (by rfl) pY pP ?_
               refine pu 11 (some 37) impl_DishesValid.b29 HT_ rfl rfl pL (fun _ _ _ h => h) (by rfl) pY pP ?_
               refine pu 12 (some 38) impl_DishesValid.b30 HT_ rfl rfl pL (fun _ _ _ h => h) (by rfl) pY pP ?_
               refine pu 14 (some 40) impl_DishesValid.b49 HT_ rfl rfl pL (fun _ _ _ h => h) (by rfl) pY pP ?_
               refine tk 13 (some 39) impl_DishesValid.b31 HT_ HW_ rfl rfl pL (fun _ _ _ h => h) (by rfl) (by rintro w' ⟨s0, s1, s2, s3, s4, s5⟩; go_simp; with_reducible rfl) hHeld pP ?_
               refine tk 15 (some 41) impl_DishesValid.b32 HT_ HW_ rfl rfl pL (fun _ _ _ h => h) (by rfl) (by rintro w' ⟨s0, s1, s2, s3, s4, s5⟩; go_simp; with_reducible rfl) hHeld pP ?_
               refine pu 16 (some 42) impl_DishesValid.b33 HT_ rfl rfl pL (fun _ _ _ h => h) (by rfl) pY pP ?_
               refine pu 17 (some 43) impl_DishesValid.b34 HT_ rfl rfl pL (fun _ _ _ h => h) (by rfl) pY pP ?_
               refine pu 18 (some 44) impl_DishesValid.b35 HT_ rfl rfl pL (fun _ _ _ h => h) (by rfl) pY pP ?_
               refine pu 19 (some 45) impl_DishesValid.b36 HT_ rfl rfl pL (fun _ _ _ h => h) (by rfl) pY pP ?_
               refine un 20 (some 46) impl_DishesValid.b37 HT_ rfl rfl pL (fun _ _ _ h => h) (by rfl) pP ?_
               refine un 21 (some 47) impl_DishesValid.b38 HT_ rfl rfl pL (fun _ _ _ h => h) (by rfl) pP ?_
               refine un 22 (some 48) impl_DishesValid.b39 HT_ rfl rfl pL (fun _ _ _ h => h) (by rfl) pP ?_
               refine un 23 (some 49) impl_DishesValid.b40 HT_ rfl rfl pL (fun _ _ _ h => h) (by rfl) pP ?_
               refine pu 24 (some 50) impl_DishesValid.b41 HT_ rfl rfl pL (fun _ _ _ h => h) (by rfl) pY pP ?_
               refine pu 25 (some 51) impl_DishesValid.b42 HT_ rfl rfl pL (fun _ _ _ h => h) (by rfl) pY pP ?_
               refine un 26 (some 52) impl_DishesValid.b43 HT_ rfl rfl pL (fun _ _ _ h => h) (by rfl) pP ?_
               refine un 27 (some 53) impl_DishesValid.b44 HT_ rfl rfl pL (fun _ _ _ h => h) (by rfl) pP ?_
               refine un 28 (some 54) impl_DishesValid.b45 HT_ rfl rfl pL (fun _ _ _ h => h) (by rfl) pP ?_
               refine un 29 (some 55) impl_DishesValid.b46 HT_ rfl rfl pL (fun _ _ _ h => h) (by rfl) pP ?_
               refine un 30 (some 56) impl_DishesValid.b47 HT_ rfl rfl pL (fun _ _ _ h => h) (by rfl) pP ?_
               refine pu 31 (some 57) impl_DishesValid.b48 HT_ rfl rfl pL (fun _ _ _ h => h) (by rfl) pY pP ?_
               refine done_ (done_of HT_.out pL) ?_
               try go_wp2
               go_meet
               case rel => exact ⟨_, (true), pF, H', ⟨by have := HJ2.out; have := HK2.out; first | omega | exact Nat.le_refl _⟩, ⟨pC BK367⟩, ⟨pG GE367⟩⟩
              ·rw [if_neg c21] at H
               have c21b0 : decide (((rd_T29 l0 x21_2).f0) ≤ ((rd_T29 l0 (ji18)).f0)) = false := decide_eq_false c21
               clear c21
               replace H := Option.bind_eq_some_iff.mp H
               obtain ⟨t370, A240, H⟩ := H
               replace H : (if t370 = true then ((impl_within.f (((rd_T29 l0 x21_2).f2).length : Int) 1 5).bind fun t371 => (impl_DishesValid.j2 k2 l0 l1 x21_2 l0 (l0.length : Int) x21_2 (!t371) ((rd_T29 l0 x21_2).f0) ((rd_T29 l0 x21_2).f1) ((rd_T29 l0 x21_2).f2))) else (impl_DishesValid.j2 k2 l0 l1 x21_2 l0 (l0.length : Int) x21_2 true ((rd_T29 l0 x21_2).f0) ((rd_T29 l0 x21_2).f1) ((rd_T29 l0 x21_2).f2))) = some r := H
               have A24 := Aside0.mk A240
               clear A240
               by_cases c25 : t370 = true
               ·subst c25
                have H1 : ((impl_within.f (((rd_T29 l0 x21_2).f2).length : Int) 1 5).bind fun t371 => (impl_DishesValid.j2 k2 l0 l1 x21_2 l0 (l0.length : Int) x21_2 (!t371) ((rd_T29 l0 x21_2).f0) ((rd_T29 l0 x21_2).f1) ((rd_T29 l0 x21_2).f2))) = some r := by rw [if_pos rfl] at H; exact H
                clear H
                have H := H1
                clear H1
                replace H := Option.bind_eq_some_iff.mp H
                obtain ⟨t371, A260, H⟩ := H
                replace H : (impl_DishesValid.j2 k2 l0 l1 x21_2 l0 (l0.length : Int) x21_2 (!t371) ((rd_T29 l0 x21_2).f0) ((rd_T29 l0 x21_2).f1) ((rd_T29 l0 x21_2).f2)) = some r := H
                have A26 := Aside0.mk A260
                clear A260
                have H' := Aside0.mk H
                clear H
                try go_wp2
                have n0_ : Aside0 ((((w13.setCell ⟨gb367, 0, none⟩ (.int .i64 ((rd_T29 l0 x21_2).f0))).setCell ⟨gb367, 1, none⟩ (.int .i64 ((rd_T29 l0 x21_2).f1))).setCell ⟨gb367, 2, none⟩ (.slice A366_2 ((rd_T29 l0 x21_2).f2).length c366_2)).heap[gb367]? = some (.cells #[.int .i64 ((rd_T29 l0 x21_2).f0), .int .i64 ((rd_T29 l0 x21_2).f1), .slice A366_2 ((rd_T29 l0 x21_2).f2).length c366_2] 29 (0, 0))) := ⟨by (with_reducible repeat (first | refine blk_drewN ?_ _ | refine blk_drew ?_ | refine blk_alloc ?_ _)); refine blk_put (cs := #[.int .i64 ((rd_T29 l0 x21_2).f0), .int .i64 ((rd_T29 l0 x21_2).f1), .slice none 0 0]) ?_ 2 _ rfl; (with_reducible repeat (first | refine blk_drewN ?_ _ | refine blk_drew ?_ | refine blk_alloc ?_ _)); refine blk_put (cs := #[.int .i64 ((rd_T29 l0 x21_2).f0), .int .i64 0, .slice none 0 0]) ?_ 1 _ rfl; (with_reducible repeat (first | refine blk_drewN ?_ _ | refine blk_drew ?_ | refine blk_alloc ?_ _)); refine blk_put (cs := #[.int .i64 0, .int .i64 0, .slice none 0 0]) ?_ 0 _ rfl; (with_reducible repeat (first | refine blk_drewN ?_ _ | refine blk_drew ?_ | refine blk_alloc ?_ _)); exact BK367.out⟩
                have n1_ : Aside0 (Below w.heap.size w (((w13.setCell ⟨gb367, 0, none⟩ (.int .i64 ((rd_T29 l0 x21_2).f0))).setCell ⟨gb367, 1, none⟩ (.int .i64 ((rd_T29 l0 x21_2).f1))).setCell ⟨gb367, 2, none⟩ (.slice A366_2 ((rd_T29 l0 x21_2).f2).length c366_2))) := ⟨pG GE367⟩
                (try clear BK367)
                (try clear HB)
                generalize (((w13.setCell ⟨gb367, 0, none⟩ (.int .i64 ((rd_T29 l0 x21_2).f0))).setCell ⟨gb367, 1, none⟩ (.int .i64 ((rd_T29 l0 x21_2).f1))).setCell ⟨gb367, 2, none⟩ (.slice A366_2 ((rd_T29 l0 x21_2).f2).length c366_2)) = w27 at n0_ n1_ ⊢
                have BK367 := n0_
                have HB := n1_
                clear n0_ n1_
                have n0_ := Aside0.mk (blk_drew BK367.out)
                have n1_ := Aside0.mk (below_drew1 HB.out)
                clear BK367
                clear HB
                have BK367 := n0_
                have HB := n1_
                clear n0_ n1_
                have p369 : 0 ≤ ((ji18) : Int) := of_decide_eq_true pA
                have q369 : (ji18) < (l0.length : Int) := of_decide_eq_true pA
                obtain ⟨ad369, A369_2, c369_2, e369, hx369_0, hx369_1, hx369_2, hl369_2, hi369_2⟩ := at_T29 HR0.out (ji18) p369 q369
                have hw369_2 := hx369_2
                have hw369_1 := hx369_1
                have hw369_0 := hx369_0
                obtain rfl : ad366 = ad369 := (by injection e369)
                replace hx369_0 := (HB.out.cell (World.block_lt_of_cell? w _ hx369_0)).trans hx369_0
                replace hx369_1 := (HB.out.cell (World.block_lt_of_cell? w _ hx369_1)).trans hx369_1
                replace hx369_2 := (HB.out.cell (World.block_lt_of_cell? w _ hx369_2)).trans hx369_2
                have HR369_2 := Aside0.mk hi369_2
                have HC369_2 := Aside0.mk hl369_2
                clear hi369_2 hl369_2
                replace p369 := eq_true p369
                replace q369 := eq_true q369
                refine start_ (n := 32) (S := fun w' => w'.cell? ⟨gb367, 0, none⟩ = some (.int .i64 ((rd_T29 l0 x21_2).f0)) ∧ w'.cell? ⟨gb367, 1, none⟩ = some (.int .i64 ((rd_T29 l0 x21_2).f1)) ∧ w'.cell? ⟨gb367, 2, none⟩ = some (.slice A366_2 ((rd_T29 l0 x21_2).f2).length c366_2) ∧ w'.cell? (ad366.add (((ji18)).toNat * 3)) = some (.int .i64 ((rd_T29 l0 (ji18)).f0)) ∧ w'.cell? ⟨(ad366.add (((ji18)).toNat * 3)).block, (ad366.add (((ji18)).toNat * 3)).off + 1, none⟩ = some (.int .i64 ((rd_T29 l0 (ji18)).f1)) ∧ w'.cell? ⟨(ad366.add (((ji18)).toNat * 3)).block, (ad366.add (((ji18)).toNat * 3)).off + 2, none⟩ = some (.slice A369_2 ((rd_T29 l0 (ji18)).f2).length c369_2)) (ds := []) #[false, false, false, false, false, false, false, false, false, false, false, false, false, false, false, false, false, false, false, false, false, false, false, false, false, false, false, false, false, false, false, false] pL rfl rfl ⟨(blk_cell BK367.out 0).trans rfl, (blk_cell BK367.out 1).trans rfl, (blk_cell BK367.out 2).trans rfl, ((HB.out.cell (World.block_lt_of_cell? w _ hw369_0)).trans hw369_0), ((HB.out.cell (World.block_lt_of_cell? w _ hw369_1)).trans hw369_1), ((HB.out.cell (World.block_lt_of_cell? w _ hw369_2)).trans hw369_2)⟩ (fun hHeld => ?_); refine with_tabW impl_DishesValid.tab6 impl_DishesValid.bits6 (fun HT_ HW_ => ?_)
                generalize w27.drew = w28 at BK367 HB HR369_2 hx369_0 hx369_1 hx369_2 hHeld ⊢
                refine pu 0 (some 26) impl_DishesValid.b18 HT_ rfl rfl pL (fun _ _ _ h => h) (by rfl) pY pP ?_
                refine tk 1 (some 27) impl_DishesValid.b19 HT_ HW_ rfl rfl pL (fun _ _ _ h => h) (by rfl) (by rintro w' ⟨s0, s1, s2, s3, s4, s5⟩; go_simp; with_reducible rfl) hHeld pP ?_
                refine one_ (i := 2) (N := some 28) impl_DishesValid.b20 rfl rfl (one_of HT_.out pL) (by decide) (fun K hK => ?_)
                refine goes_ Try.func80 pL rfl #[.int .i64 ((rd_T29 l0 x21_2).f0)] (by rfl) rfl rfl pM ?_
                with_reducible refine (impl_isId.calls ((rd_T29 l0 x21_2).f0) true _ A15.out).mono ?_
                rintro e w' ⟨rfl, ⟨nd, rfl⟩⟩
                refine ⟨_, rfl, ?_⟩
                refine hK.out _ _ ⟨(blk_cell BK367.out 0).trans rfl, (blk_cell BK367.out 1).trans rfl, (blk_cell BK367.out 2).trans rfl, ((HB.out.cell (World.block_lt_of_cell? w _ hw369_0)).trans hw369_0), ((HB.out.cell (World.block_lt_of_cell? w _ hw369_1)).trans hw369_1), ((HB.out.cell (World.block_lt_of_cell? w _ hw369_2)).trans hw369_2)⟩ (fun hHeld => ?_)
                clear hK K
                refine norm_ (a' := ?_) ?_ ?_
                rotate_left
                ·show Act.put _ (some 28) _ = _
                 exact pP
                refine pu 3 (some 29) impl_DishesValid.b21 HT_ rfl rfl pL (fun _ _ _ h => h) (by rfl) pY pP ?_
                refine pu 4 (some 30) impl_DishesValid.b22 HT_ rfl rfl pL (fun _ _ _ h => h) (by rfl) pY pP ?_
                refine pu 5 (some 31) impl_DishesValid.b23 HT_ rfl rfl pL (fun _ _ _ h => h) (by rfl) pY pP ?_
                refine pu 6 (some 32) impl_DishesValid.b24 HT_ rfl rfl pL (fun _ _ _ h => h) (by rfl) pY pP ?_
                refine pu 7 (some 33) impl_DishesValid.b25 HT_ rfl rfl pL (fun _ _ _ h => h) (by rfl) pY pP ?_
                refine pu 8 (some 34) impl_DishesValid.b26 HT_ rfl rfl pL (fun _ _ _ h => h) (by rfl) pY pP ?_
                refine pu 9 (some 35) impl_DishesValid.b27 HT_ rfl rfl pL (fun _ _ _ h => h) (by rfl) pY pP ?_
                refine pu 10 (some 36) impl_DishesValid.b28 HT_ rfl rfl pL (fun _ _ _ h => h) (by rfl) pY pP ?_
                refine pu 11 (some 37) impl_DishesValid.b29 HT_ rfl rfl pL (fun _ _ _ h => h) (by rfl) pY pP ?_
                refine pu 12 (some 38) impl_DishesValid.b30 HT_ rfl rfl pL (fun _ _ _ h => h) (by rfl) pY pP ?_
                refine pu 14 (some 40) impl_DishesValid.b49 HT_ rfl rfl pL (fun _ _ _ h => h) (by rfl) pY pP ?_
                refine tk 13 (some 39) impl_DishesValid.b31 HT_ HW_ rfl rfl pL (fun _ _ _ h => h) (by rfl) (by rintro w' ⟨s0, s1, s2, s3, s4, s5⟩; go_simp; with_reducible rfl) hHeld pP ?_
                refine tk 15 (some 41) impl_DishesValid.b32 HT_ HW_ rfl rfl pL (fun _ _ _ h => h) (by rfl) (by rintro w' ⟨s0, s1, s2, s3, s4, s5⟩; go_simp; with_reducible rfl) hHeld pP ?_
                refine pu 16 (some 42) impl_DishesValid.b33 HT_ rfl rfl pL (fun _ _ _ h => h) (by rfl) pY pP ?_
                refine pu 17 (some 43) impl_DishesValid.b34 HT_ rfl rfl pL (fun _ _ _ h => h) (by rfl) pY pP ?_
                refine pu 18 (some 44) impl_DishesValid.b35 HT_ rfl rfl pL (fun _ _ _ h => h) (by rfl) pY pP ?_
                refine pu 19 (some 45) impl_DishesValid.b36 HT_ rfl rfl pL (fun _ _ _ h => h) (by rfl) pY pP ?_
                refine pu 20 (some 46) impl_DishesValid.b37 HT_ rfl rfl pL (fun _ _ _ h => h) (by rfl) pY pP ?_
                refine tk 21 (some 47) impl_DishesValid.b38 HT_ HW_ rfl rfl pL (fun _ _ _ h => h) (by rfl) (by rintro w' ⟨s0, s1, s2, s3, s4, s5⟩; go_simp; with_reducible rfl) hHeld pP ?_
                refine one_ (i := 22) (N := some 48) impl_DishesValid.b39 rfl rfl (one_of HT_.out pL) (by decide) (fun K hK => ?_)
                refine goes_ Try.func76 pL rfl #[.int .i64 ((rd_T29 l0 x21_2).f1), .int .i64 1, .int .i64 12] (by rfl) rfl rfl pM ?_
                with_reducible refine (impl_within.calls ((rd_T29 l0 x21_2).f1) 1 12 true _ A24.out).mono ?_
                rintro e w' ⟨rfl, ⟨nd, rfl⟩⟩
                refine ⟨_, rfl, ?_⟩
                refine hK.out _ _ ⟨(blk_cell BK367.out 0).trans rfl, (blk_cell BK367.out 1).trans rfl, (blk_cell BK367.out 2).trans rfl, ((HB.out.cell (World.block_lt_of_cell? w _ hw369_0)).trans hw369_0), ((HB.out.cell (World.block_lt_of_cell? w _ hw369_1)).trans hw369_1), ((HB.out.cell (World.block_lt_of_cell? w _ hw369_2)).trans hw369_2)⟩ (fun hHeld => ?_)
                clear hK K
                refine norm_ (a' := ?_) ?_ ?_
                rotate_left
                ·show Act.put _ (some 48) _ = _
                 exact pP
                refine pu 23 (some 49) impl_DishesValid.b40 HT_ rfl rfl pL (fun _ _ _ h => h) (by rfl) pY pP ?_
                refine pu 24 (some 50) impl_DishesValid.b41 HT_ rfl rfl pL (fun _ _ _ h => h) (by rfl) pY pP ?_
                refine pu 25 (some 51) impl_DishesValid.b42 HT_ rfl rfl pL (fun _ _ _ h => h) (by rfl) pY pP ?_
                refine pu 26 (some 52) impl_DishesValid.b43 HT_ rfl rfl pL (fun _ _ _ h => h) (by rfl) pY pP ?_
                refine tk 27 (some 53) impl_DishesValid.b44 HT_ HW_ rfl rfl pL (fun _ _ _ h => h) (by rfl) (by rintro w' ⟨s0, s1, s2, s3, s4, s5⟩; go_simp; with_reducible rfl) hHeld pP ?_
                refine pu 28 (some 54) impl_DishesValid.b45 HT_ rfl rfl pL (fun _ _ _ h => h) (by rfl) pY pP ?_
                refine one_ (i := 29) (N := some 55) impl_DishesValid.b46 rfl rfl (one_of HT_.out pL) (by decide) (fun K hK => ?_)
                refine goes_ Try.func76 pL rfl #[.int .i64 (((rd_T29 l0 x21_2).f2).length : Int), .int .i64 1, .int .i64 5] (by rfl) rfl rfl pM ?_
                with_reducible refine (impl_within.calls (((rd_T29 l0 x21_2).f2).length : Int) 1 5 t371 _ A26.out).mono ?_
                rintro e w' ⟨rfl, ⟨nd, rfl⟩⟩
                refine ⟨_, rfl, ?_⟩
                refine hK.out _ _ ⟨(blk_cell BK367.out 0).trans rfl, (blk_cell BK367.out 1).trans rfl, (blk_cell BK367.out 2).trans rfl, ((HB.out.cell (World.block_lt_of_cell? w _ hw369_0)).trans hw369_0), ((HB.out.cell (World.block_lt_of_cell? w _ hw369_1)).trans hw369_1), ((HB.out.cell (World.block_lt_of_cell? w _ hw369_2)).trans hw369_2)⟩ (fun hHeld => ?_)
                clear hK K
                refine norm_ (a' := ?_) ?_ ?_
                rotate_left
                ·show Act.put _ (some 55) _ = _
                 exact pP
                refine pu 30 (some 56) impl_DishesValid.b47 HT_ rfl rfl pL (fun _ _ _ h => h) (by rfl) pY pP ?_
                refine pu 31 (some 57) impl_DishesValid.b48 HT_ rfl rfl pL (fun _ _ _ h => h) (by rfl) pY pP ?_
                refine done_ (done_of HT_.out pL) ?_
                try go_wp2
                go_meet
                case rel => exact ⟨_, (!t371), pF, H', ⟨by have := HJ2.out; have := HK2.out; first | omega | exact Nat.le_refl _⟩, ⟨pC BK367⟩, ⟨pG GE367⟩⟩
               ·replace c25 := Bool.eq_false_iff.mpr c25
                subst c25
                have H1 : (impl_DishesValid.j2 k2 l0 l1 x21_2 l0 (l0.length : Int) x21_2 true ((rd_T29 l0 x21_2).f0) ((rd_T29 l0 x21_2).f1) ((rd_T29 l0 x21_2).f2)) = some r := by rw [if_neg (show ¬ (false = true) by decide)] at H; exact H
                clear H
                have H := H1
                clear H1
                have H' := Aside0.mk H
                clear H
                try go_wp2
                have n0_ : Aside0 ((((w13.setCell ⟨gb367, 0, none⟩ (.int .i64 ((rd_T29 l0 x21_2).f0))).setCell ⟨gb367, 1, none⟩ (.int .i64 ((rd_T29 l0 x21_2).f1))).setCell ⟨gb367, 2, none⟩ (.slice A366_2 ((rd_T29 l0 x21_2).f2).length c366_2)).heap[gb367]? = some (.cells #[.int .i64 ((rd_T29 l0 x21_2).f0), .int .i64 ((rd_T29 l0 x21_2).f1), .slice A366_2 ((rd_T29 l0 x21_2).f2).length c366_2] 29 (0, 0))) := ⟨by (with_reducible repeat (first | refine blk_drewN ?_ _ | refine blk_drew ?_ | refine blk_alloc ?_ _)); refine blk_put (cs := #[.int .i64 ((rd_T29 l0 x21_2).f0), .int .i64 ((rd_T29 l0 x21_2).f1), .slice none 0 0]) ?_ 2 _ rfl; (with_reducible repeat (first | refine blk_drewN ?_ _ | refine blk_drew ?_ | refine blk_alloc ?_ _)); refine blk_put (cs := #[.int .i64 ((rd_T29 l0 x21_2).f0), .int .i64 0, .slice none 0 0]) ?_ 1 _ rfl; (with_reducible repeat (first | refine blk_drewN ?_ _ | refine blk_drew ?_ | refine blk_alloc ?_ _)); refine blk_put (cs := #[.int .i64 0, .int .i64 0, .slice none 0 0]) ?_ 0 _ rfl; (with_reducible repeat (first | refine blk_drewN ?_ _ | refine blk_drew ?_ | refine blk_alloc ?_ _)); exact BK367.out⟩
                have n1_ : Aside0 (Below w.heap.size w (((w13.setCell ⟨gb367, 0, none⟩ (.int .i64 ((rd_T29 l0 x21_2).f0))).setCell ⟨gb367, 1, none⟩ (.int .i64 ((rd_T29 l0 x21_2).f1))).setCell ⟨gb367, 2, none⟩ (.slice A366_2 ((rd_T29 l0 x21_2).f2).length c366_2))) := ⟨pG GE367⟩
                (try clear BK367)
                (try clear HB)
                generalize (((w13.setCell ⟨gb367, 0, none⟩ (.int .i64 ((rd_T29 l0 x21_2).f0))).setCell ⟨gb367, 1, none⟩ (.int .i64 ((rd_T29 l0 x21_2).f1))).setCell ⟨gb367, 2, none⟩ (.slice A366_2 ((rd_T29 l0 x21_2).f2).length c366_2)) = w29 at n0_ n1_ ⊢
                have BK367 := n0_
                have HB := n1_
                clear n0_ n1_
                have n0_ := Aside0.mk (blk_drew BK367.out)
                have n1_ := Aside0.mk (below_drew1 HB.out)
                clear BK367
                clear HB
                have BK367 := n0_
                have HB := n1_
                clear n0_ n1_
                have p369 : 0 ≤ ((ji18) : Int) := of_decide_eq_true pA
                have q369 : (ji18) < (l0.length : Int) := of_decide_eq_true pA
                obtain ⟨ad369, A369_2, c369_2, e369, hx369_0, hx369_1, hx369_2, hl369_2, hi369_2⟩ := at_T29 HR0.out (ji18) p369 q369
                have hw369_2 := hx369_2
                have hw369_1 := hx369_1
                have hw369_0 := hx369_0
                obtain rfl : ad366 = ad369 := (by injection e369)
                replace hx369_0 := (HB.out.cell (World.block_lt_of_cell? w _ hx369_0)).trans hx369_0
                replace hx369_1 := (HB.out.cell (World.block_lt_of_cell? w _ hx369_1)).trans hx369_1
                replace hx369_2 := (HB.out.cell (World.block_lt_of_cell? w _ hx369_2)).trans hx369_2
                have HR369_2 := Aside0.mk hi369_2
                have HC369_2 := Aside0.mk hl369_2
                clear hi369_2 hl369_2
                replace p369 := eq_true p369
                replace q369 := eq_true q369
                refine start_ (n := 32) (S := fun w' => w'.cell? ⟨gb367, 0, none⟩ = some (.int .i64 ((rd_T29 l0 x21_2).f0)) ∧ w'.cell? ⟨gb367, 1, none⟩ = some (.int .i64 ((rd_T29 l0 x21_2).f1)) ∧ w'.cell? ⟨gb367, 2, none⟩ = some (.slice A366_2 ((rd_T29 l0 x21_2).f2).length c366_2) ∧ w'.cell? (ad366.add (((ji18)).toNat * 3)) = some (.int .i64 ((rd_T29 l0 (ji18)).f0)) ∧ w'.cell? ⟨(ad366.add (((ji18)).toNat * 3)).block, (ad366.add (((ji18)).toNat * 3)).off + 1, none⟩ = some (.int .i64 ((rd_T29 l0 (ji18)).f1)) ∧ w'.cell? ⟨(ad366.add (((ji18)).toNat * 3)).block, (ad366.add (((ji18)).toNat * 3)).off + 2, none⟩ = some (.slice A369_2 ((rd_T29 l0 (ji18)).f2).length c369_2)) (ds := []) #[false, false, false, false, false, false, false, false, false, false, false, false, false, false, false, false, false, false, false, false, false, false, false, false, false, false, false, false, false, false, false, false] pL rfl rfl ⟨(blk_cell BK367.out 0).trans rfl, (blk_cell BK367.out 1).trans rfl, (blk_cell BK367.out 2).trans rfl, ((HB.out.cell (World.block_lt_of_cell? w _ hw369_0)).trans hw369_0), ((HB.out.cell (World.block_lt_of_cell? w _ hw369_1)).trans hw369_1), ((HB.out.cell (World.block_lt_of_cell? w _ hw369_2)).trans hw369_2)⟩ (fun hHeld => ?_); refine with_tabW impl_DishesValid.tab6 impl_DishesValid.bits6 (fun HT_ HW_ => ?_)
                generalize w29.drew = w30 at BK367 HB HR369_2 hx369_0 hx369_1 hx369_2 hHeld ⊢
                refine pu 0 (some 26) impl_DishesValid.b18 HT_ rfl rfl pL (fun _ _ _ h => h) (by rfl) pY pP ?_
                refine tk 1 (some 27) impl_DishesValid.b19 HT_ HW_ rfl rfl pL (fun _ _ _ h => h) (by rfl) (by rintro w' ⟨s0, s1, s2, s3, s4, s5⟩; go_simp; with_reducible rfl) hHeld pP ?_
                refine one_ (i := 2) (N := some 28) impl_DishesValid.b20 rfl rfl (one_of HT_.out pL) (by decide) (fun K hK => ?_)
                refine goes_ Try.func80 pL rfl #[.int .i64 ((rd_T29 l0 x21_2).f0)] (by rfl) rfl rfl pM ?_
                with_reducible refine (impl_isId.calls ((rd_T29 l0 x21_2).f0) true _ A15.out).mono ?_
                rintro e w' ⟨rfl, ⟨nd, rfl⟩⟩
                refine ⟨_, rfl, ?_⟩
                refine hK.out _ _ ⟨(blk_cell BK367.out 0).trans rfl, (blk_cell BK367.out 1).trans rfl, (blk_cell BK367.out 2).trans rfl, ((HB.out.cell (World.block_lt_of_cell? w _ hw369_0)).trans hw369_0), ((HB.out.cell (World.block_lt_of_cell? w _ hw369_1)).trans hw369_1), ((HB.out.cell (World.block_lt_of_cell? w _ hw369_2)).trans hw369_2)⟩ (fun hHeld => ?_)
                clear hK K
                refine norm_ (a' := ?_) ?_ ?_
                rotate_left
                ·show Act.put _ (some 28) _ = _
                 exact pP
                refine pu 3 (some 29) impl_DishesValid.b21 HT_ rfl rfl pL (fun _ _ _ h => h) (by rfl) pY pP ?_
                refine pu 4 (some 30) impl_DishesValid.b22 HT_ rfl rfl pL (fun _ _ _ h => h) (by rfl) pY pP ?_
                refine pu 5 (some 31) impl_DishesValid.b23 HT_ rfl rfl pL (fun _ _ _ h => h) (by rfl) pY pP ?_
                refine pu 6 (some 32) impl_DishesValid.b24 HT_ rfl rfl pL (fun _ _ _ h => h) (by rfl) pY pP ?_
                refine pu 7 (some 33) impl_DishesValid.b25 HT_ rfl rfl pL (fun _ _ _ h => h) (by rfl) pY pP ?_
                refine pu 8 (some 34) impl_DishesValid.b26 HT_ rfl rfl pL (fun _ _ _ h => h) (by rfl) pY pP ?_
                refine pu 9 (some 35) impl_DishesValid.b27 HT_ rfl rfl pL (fun _ _ _ h => h) (by rfl) pY pP ?_
                refine pu 10 (some 36) impl_DishesValid.b28 HT_ rfl rfl pL (fun _ _ _ h => h) (by rfl) pY pP ?_
                refine pu 11 (some 37) impl_DishesValid.b29 HT_ rfl rfl pL (fun _ _ _ h => h) (by rfl) pY pP ?_
                refine pu 12 (some 38) impl_DishesValid.b30 HT_ rfl rfl pL (fun _ _ _ h => h) (by rfl) pY pP ?_
                refine pu 14 (some 40) impl_DishesValid.b49 HT_ rfl rfl pL (fun _ _ _ h => h) (by rfl) pY pP ?_
                refine tk 13 (some 39) impl_DishesValid.b31 HT_ HW_ rfl rfl pL (fun _ _ _ h => h) (by rfl) (by rintro w' ⟨s0, s1, s2, s3, s4, s5⟩; go_simp; with_reducible rfl) hHeld pP ?_
                refine tk 15 (some 41) impl_DishesValid.b32 HT_ HW_ rfl rfl pL (fun _ _ _ h => h) (by rfl) (by rintro w' ⟨s0, s1, s2, s3, s4, s5⟩; go_simp; with_reducible rfl) hHeld pP ?_
                refine pu 16 (some 42) impl_DishesValid.b33 HT_ rfl rfl pL (fun _ _ _ h => h) (by rfl) pY pP ?_
                refine pu 17 (some 43) impl_DishesValid.b34 HT_ rfl rfl pL (fun _ _ _ h => h) (by rfl) pY pP ?_
                refine pu 18 (some 44) impl_DishesValid.b35 HT_ rfl rfl pL (fun _ _ _ h => h) (by rfl) pY pP ?_
                refine pu 19 (some 45) impl_DishesValid.b36 HT_ rfl rfl pL (fun _ _ _ h => h) (by rfl) pY pP ?_
                refine pu 20 (some 46) impl_DishesValid.b37 HT_ rfl rfl pL (fun _ _ _ h => h) (by rfl) pY pP ?_
                refine tk 21 (some 47) impl_DishesValid.b38 HT_ HW_ rfl rfl pL (fun _ _ _ h => h) (by rfl) (by rintro w' ⟨s0, s1, s2, s3, s4, s5⟩; go_simp; with_reducible rfl) hHeld pP ?_
                refine one_ (i := 22) (N := some 48) impl_DishesValid.b39 rfl rfl (one_of HT_.out pL) (by decide) (fun K hK => ?_)
                refine goes_ Try.func76 pL rfl #[.int .i64 ((rd_T29 l0 x21_2).f1), .int .i64 1, .int .i64 12] (by rfl) rfl rfl pM ?_
                with_reducible refine (impl_within.calls ((rd_T29 l0 x21_2).f1) 1 12 false _ A24.out).mono ?_
                rintro e w' ⟨rfl, ⟨nd, rfl⟩⟩
                refine ⟨_, rfl, ?_⟩
                refine hK.out _ _ ⟨(blk_cell BK367.out 0).trans rfl, (blk_cell BK367.out 1).trans rfl, (blk_cell BK367.out 2).trans rfl, ((HB.out.cell (World.block_lt_of_cell? w _ hw369_0)).trans hw369_0), ((HB.out.cell (World.block_lt_of_cell? w _ hw369_1)).trans hw369_1), ((HB.out.cell (World.block_lt_of_cell? w _ hw369_2)).trans hw369_2)⟩ (fun hHeld => ?_)
                clear hK K
                refine norm_ (a' := ?_) ?_ ?_
                rotate_left
                ·show Act.put _ (some 48) _ = _
                 exact pP
                refine pu 23 (some 49) impl_DishesValid.b40 HT_ rfl rfl pL (fun _ _ _ h => h) (by rfl) pY pP ?_
                refine pu 24 (some 50) impl_DishesValid.b41 HT_ rfl rfl pL (fun _ _ _ h => h) (by rfl) pY pP ?_
                refine pu 25 (some 51) impl_DishesValid.b42 HT_ rfl rfl pL (fun _ _ _ h => h) (by rfl) pY pP ?_
                refine un 26 (some 52) impl_DishesValid.b43 HT_ rfl rfl pL (fun _ _ _ h => h) (by rfl) pP ?_
                refine un 27 (some 53) impl_DishesValid.b44 HT_ rfl rfl pL (fun _ _ _ h => h) (by rfl) pP ?_
                refine un 28 (some 54) impl_DishesValid.b45 HT_ rfl rfl pL (fun _ _ _ h => h) (by rfl) pP ?_
                refine un 29 (some 55) impl_DishesValid.b46 HT_ rfl rfl pL (fun _ _ _ h => h) (by rfl) pP ?_
                refine un 30 (some 56) impl_DishesValid.b47 HT_ rfl rfl pL (fun _ _ _ h => h) (by rfl) pP ?_
                refine pu 31 (some 57) impl_DishesValid.b48 HT_ rfl rfl pL (fun _ _ _ h => h) (by rfl) pY pP ?_
                refine done_ (done_of HT_.out pL) ?_
                try go_wp2
                go_meet
                case rel => exact ⟨_, (true), pF, H', ⟨by have := HJ2.out; have := HK2.out; first | omega | exact Nat.le_refl _⟩, ⟨pC BK367⟩, ⟨pG GE367⟩⟩
             ·rw [if_neg c20] at H
              exact absurd H (by simp)
            ·rw [if_neg c19] at H
             exact absurd H (by simp)
           ·rw [if_neg c17] at H
            have c17b0 : decide (0 < x21_2) = false := decide_eq_false c17
            clear c17
            (first | rw [c17b0] | (simp only [i64_w, i32_w]; rw [c17b0]) | skip)
            replace H := Option.bind_eq_some_iff.mp H
            obtain ⟨t372, A310, H⟩ := H
            replace H : (if t372 = true then ((impl_within.f (((rd_T29 l0 x21_2).f2).length : Int) 1 5).bind fun t373 => (impl_DishesValid.j2 k2 l0 l1 x21_2 l0 (l0.length : Int) x21_2 (!t373) ((rd_T29 l0 x21_2).f0) ((rd_T29 l0 x21_2).f1) ((rd_T29 l0 x21_2).f2))) else (impl_DishesValid.j2 k2 l0 l1 x21_2 l0 (l0.length : Int) x21_2 true ((rd_T29 l0 x21_2).f0) ((rd_T29 l0 x21_2).f1) ((rd_T29 l0 x21_2).f2))) = some r := H
            have A31 := Aside0.mk A310
            clear A310
            by_cases c32 : t372 = true
            ·subst c32
             have H1 : ((impl_within.f (((rd_T29 l0 x21_2).f2).length : Int) 1 5).bind fun t373 => (impl_DishesValid.j2 k2 l0 l1 x21_2 l0 (l0.length : Int) x21_2 (!t373) ((rd_T29 l0 x21_2).f0) ((rd_T29 l0 x21_2).f1) ((rd_T29 l0 x21_2).f2))) = some r := by rw [if_pos rfl] at H; exact H
             clear H
             have H := H1
             clear H1
             replace H := Option.bind_eq_some_iff.mp H
             obtain ⟨t373, A330, H⟩ := H
             replace H : (impl_DishesValid.j2 k2 l0 l1 x21_2 l0 (l0.length : Int) x21_2 (!t373) ((rd_T29 l0 x21_2).f0) ((rd_T29 l0 x21_2).f1) ((rd_T29 l0 x21_2).f2)) = some r := H
             have A33 := Aside0.mk A330
             clear A330
             have H' := Aside0.mk H
             clear H
             try go_wp2
             have n0_ : Aside0 ((((w13.setCell ⟨gb367, 0, none⟩ (.int .i64 ((rd_T29 l0 x21_2).f0))).setCell ⟨gb367, 1, none⟩ (.int .i64 ((rd_T29 l0 x21_2).f1))).setCell ⟨gb367, 2, none⟩ (.slice A366_2 ((rd_T29 l0 x21_2).f2).length c366_2)).heap[gb367]? = some (.cells #[.int .i64 ((rd_T29 l0 x21_2).f0), .int .i64 ((rd_T29 l0 x21_2).f1), .slice A366_2 ((rd_T29 l0 x21_2).f2).length c366_2] 29 (0, 0))) := ⟨by (with_reducible repeat (first | refine blk_drewN ?_ _ | refine blk_drew ?_ | refine blk_alloc ?_ _)); refine blk_put (cs := #[.int .i64 ((rd_T29 l0 x21_2).f0), .int .i64 ((rd_T29 l0 x21_2).f1), .slice none 0 0]) ?_ 2 _ rfl; (with_reducible repeat (first | refine blk_drewN ?_ _ | refine blk_drew ?_ | refine blk_alloc ?_ _)); refine blk_put (cs := #[.int .i64 ((rd_T29 l0 x21_2).f0), .int .i64 0, .slice none 0 0]) ?_ 1 _ rfl; (with_reducible repeat (first | refine blk_drewN ?_ _ | refine blk_drew ?_ | refine blk_alloc ?_ _)); refine blk_put (cs := #[.int .i64 0, .int .i64 0, .slice none 0 0]) ?_ 0 _ rfl; (with_reducible repeat (first | refine blk_drewN ?_ _ | refine blk_drew ?_ | refine blk_alloc ?_ _)); exact BK367.out⟩
             have n1_ : Aside0 (Below w.heap.size w (((w13.setCell ⟨gb367, 0, none⟩ (.int .i64 ((rd_T29 l0 x21_2).f0))).setCell ⟨gb367, 1, none⟩ (.int .i64 ((rd_T29 l0 x21_2).f1))).setCell ⟨gb367, 2, none⟩ (.slice A366_2 ((rd_T29 l0 x21_2).f2).length c366_2))) := ⟨pG GE367⟩
             (try clear BK367)
             (try clear HB)
             generalize (((w13.setCell ⟨gb367, 0, none⟩ (.int .i64 ((rd_T29 l0 x21_2).f0))).setCell ⟨gb367, 1, none⟩ (.int .i64 ((rd_T29 l0 x21_2).f1))).setCell ⟨gb367, 2, none⟩ (.slice A366_2 ((rd_T29 l0 x21_2).f2).length c366_2)) = w34 at n0_ n1_ ⊢
             have BK367 := n0_
             have HB := n1_
             clear n0_ n1_
             have n0_ := Aside0.mk (blk_drew BK367.out)
             have n1_ := Aside0.mk (below_drew1 HB.out)
             clear BK367
             clear HB
             have BK367 := n0_
             have HB := n1_
             clear n0_ n1_
             refine start_ (n := 32) (S := fun w' => w'.cell? ⟨gb367, 0, none⟩ = some (.int .i64 ((rd_T29 l0 x21_2).f0)) ∧ w'.cell? ⟨gb367, 1, none⟩ = some (.int .i64 ((rd_T29 l0 x21_2).f1)) ∧ w'.cell? ⟨gb367, 2, none⟩ = some (.slice A366_2 ((rd_T29 l0 x21_2).f2).length c366_2)) (ds := []) #[false, false, false, false, false, false, false, false, false, false, false, false, false, false, false, false, false, false, false, false, false, false, false, false, false, false, false, false, false, false, false, false] pL rfl rfl ⟨(blk_cell BK367.out 0).trans rfl, (blk_cell BK367.out 1).trans rfl, (blk_cell BK367.out 2).trans rfl⟩ (fun hHeld => ?_); refine with_tabW impl_DishesValid.tab6 impl_DishesValid.bits6 (fun HT_ HW_ => ?_)
             generalize w34.drew = w35 at BK367 HB hHeld ⊢
             refine pu 0 (some 26) impl_DishesValid.b18 HT_ rfl rfl pL (fun _ _ _ h => h) (by rfl) pY pP ?_
             refine tk 1 (some 27) impl_DishesValid.b19 HT_ HW_ rfl rfl pL (fun _ _ _ h => h) (by rfl) (by rintro w' ⟨s0, s1, s2⟩; go_simp; with_reducible rfl) hHeld pP ?_
             refine one_ (i := 2) (N := some 28) impl_DishesValid.b20 rfl rfl (one_of HT_.out pL) (by decide) (fun K hK => ?_)
             refine goes_ Try.func80 pL rfl #[.int .i64 ((rd_T29 l0 x21_2).f0)] (by rfl) rfl rfl pM ?_
             with_reducible refine (impl_isId.calls ((rd_T29 l0 x21_2).f0) true _ A15.out).mono ?_
             rintro e w' ⟨rfl, ⟨nd, rfl⟩⟩
             refine ⟨_, rfl, ?_⟩
             refine hK.out _ _ ⟨(blk_cell BK367.out 0).trans rfl, (blk_cell BK367.out 1).trans rfl, (blk_cell BK367.out 2).trans rfl⟩ (fun hHeld => ?_)
             clear hK K
             refine norm_ (a' := ?_) ?_ ?_
             rotate_left
             ·show Act.put _ (some 28) _ = _
              exact pP
             refine pu 3 (some 29) impl_DishesValid.b21 HT_ rfl rfl pL (fun _ _ _ h => h) (by rfl) pY pP ?_
             refine pu 4 (some 30) impl_DishesValid.b22 HT_ rfl rfl pL (fun _ _ _ h => h) (by rfl) pY pP ?_
             refine pu 5 (some 31) impl_DishesValid.b23 HT_ rfl rfl pL (fun _ _ _ h => h) (by rfl) pY pP ?_
             refine pu 6 (some 32) impl_DishesValid.b24 HT_ rfl rfl pL (fun _ _ _ h => h) (by rfl) pY pP ?_
             refine pu 7 (some 33) impl_DishesValid.b25 HT_ rfl rfl pL (fun _ _ _ h => h) (by rfl) pY pP ?_
             refine un 8 (some 34) impl_DishesValid.b26 HT_ rfl rfl pL (fun _ _ _ h => h) (by rfl) pP ?_
             refine un 9 (some 35) impl_DishesValid.b27 HT_ rfl rfl pL (fun _ _ _ h => h) (by rfl) pP ?_
             refine un 10 (some 36) impl_DishesValid.b28 HT_ rfl rfl pL (fun _ _ _ h => h) (by rfl) pP ?_
             refine un 11 (some 37) impl_DishesValid.b29 HT_ rfl rfl pL (fun _ _ _ h => h) (by rfl) pP ?_
             refine un 12 (some 38) impl_DishesValid.b30 HT_ rfl rfl pL (fun _ _ _ h => h) (by rfl) pP ?_
             refine un 13 (some 39) impl_DishesValid.b50 HT_ rfl rfl pL (fun _ _ _ h => h) (by rfl) pP ?_
             refine un 14 (some 40) impl_DishesValid.b31 HT_ rfl rfl pL (fun _ _ _ h => h) (by rfl) pP ?_
             refine un 15 (some 41) impl_DishesValid.b32 HT_ rfl rfl pL (fun _ _ _ h => h) (by rfl) pP ?_
             refine un 16 (some 42) impl_DishesValid.b33 HT_ rfl rfl pL (fun _ _ _ h => h) (by rfl) pP ?_
             refine pu 17 (some 43) impl_DishesValid.b34 HT_ rfl rfl pL (fun _ _ _ h => h) (by rfl) pY pP ?_
             refine pu 18 (some 44) impl_DishesValid.b35 HT_ rfl rfl pL (fun _ _ _ h => h) (by rfl) pY pP ?_
             refine pu 19 (some 45) impl_DishesValid.b36 HT_ rfl rfl pL (fun _ _ _ h => h) (by rfl) pY pP ?_
             refine pu 20 (some 46) impl_DishesValid.b37 HT_ rfl rfl pL (fun _ _ _ h => h) (by rfl) pY pP ?_
             refine tk 21 (some 47) impl_DishesValid.b38 HT_ HW_ rfl rfl pL (fun _ _ _ h => h) (by rfl) (by rintro w' ⟨s0, s1, s2⟩; go_simp; with_reducible rfl) hHeld pP ?_
             refine one_ (i := 22) (N := some 48) impl_DishesValid.b39 rfl rfl (one_of HT_.out pL) (by decide) (fun K hK => ?_)
             refine goes_ Try.func76 pL rfl #[.int .i64 ((rd_T29 l0 x21_2).f1), .int .i64 1, .int .i64 12] (by rfl) rfl rfl pM ?_
             with_reducible refine (impl_within.calls ((rd_T29 l0 x21_2).f1) 1 12 true _ A31.out).mono ?_
             rintro e w' ⟨rfl, ⟨nd, rfl⟩⟩
             refine ⟨_, rfl, ?_⟩
             refine hK.out _ _ ⟨(blk_cell BK367.out 0).trans rfl, (blk_cell BK367.out 1).trans rfl, (blk_cell BK367.out 2).trans rfl⟩ (fun hHeld => ?_)
             clear hK K
             refine norm_ (a' := ?_) ?_ ?_
             rotate_left
             ·show Act.put _ (some 48) _ = _
              exact pP
             refine pu 23 (some 49) impl_DishesValid.b40 HT_ rfl rfl pL (fun _ _ _ h => h) (by rfl) pY pP ?_
             refine pu 24 (some 50) impl_DishesValid.b41 HT_ rfl rfl pL (fun _ _ _ h => h) (by rfl) pY pP ?_
             refine pu 25 (some 51) impl_DishesValid.b42 HT_ rfl rfl pL (fun _ _ _ h => h) (by rfl) pY pP ?_
             refine pu 26 (some 52) impl_DishesValid.b43 HT_ rfl rfl pL (fun _ _ _ h => h) (by rfl) pY pP ?_
             refine tk 27 (some 53) impl_DishesValid.b44 HT_ HW_ rfl rfl pL (fun _ _ _ h => h) (by rfl) (by rintro w' ⟨s0, s1, s2⟩; go_simp; with_reducible rfl) hHeld pP ?_
             refine pu 28 (some 54) impl_DishesValid.b45 HT_ rfl rfl pL (fun _ _ _ h => h) (by rfl) pY pP ?_
             refine one_ (i := 29) (N := some 55) impl_DishesValid.b46 rfl rfl (one_of HT_.out pL) (by decide) (fun K hK => ?_)
             refine goes_ Try.func76 pL rfl #[.int .i64 (((rd_T29 l0 x21_2).f2).length : Int), .int .i64 1, .int .i64 5] (by rfl) rfl rfl pM ?_
             with_reducible refine (impl_within.calls (((rd_T29 l0 x21_2).f2).length : Int) 1 5 t373 _ A33.out).mono ?_
             rintro e w' ⟨rfl, ⟨nd, rfl⟩⟩
             refine ⟨_, rfl, ?_⟩
             refine hK.out _ _ ⟨(blk_cell BK367.out 0).trans rfl, (blk_cell BK367.out 1).trans rfl, (blk_cell BK367.out 2).trans rfl⟩ (fun hHeld => ?_)
             clear hK K
             refine norm_ (a' := ?_) ?_ ?_
             rotate_left
             ·show Act.put _ (some 55) _ = _
              exact pP
             refine pu 30 (some 56) impl_DishesValid.b47 HT_ rfl rfl pL (fun _ _ _ h => h) (by rfl) pY pP ?_
             refine pu 31 (some 57) impl_DishesValid.b48 HT_ rfl rfl pL (fun _ _ _ h => h) (by rfl) pY pP ?_
             refine done_ (done_of HT_.out pL) ?_
             try go_wp2
             go_meet
             case rel => exact ⟨_, (!t373), pF, H', ⟨by have := HJ2.out; have := HK2.out; first | omega | exact Nat.le_refl _⟩, ⟨pC BK367⟩, ⟨pG GE367⟩⟩
            ·replace c32 := Bool.eq_false_iff.mpr c32
             subst c32
             have H1 : (impl_DishesValid.j2 k2 l0 l1 x21_2 l0 (l0.length : Int) x21_2 true ((rd_T29 l0 x21_2).f0) ((rd_T29 l0 x21_2).f1) ((rd_T29 l0 x21_2).f2)) = some r := by rw [if_neg (show ¬ (false = true) by decide)] at H; exact H
             clear H
             have H := H1
             clear H1
             have H' := Aside0.mk H
             clear H
             try go_wp2
             have n0_ : Aside0 ((((w13.setCell ⟨gb367, 0, none⟩ (.int .i64 ((rd_T29 l0 x21_2).f0))).setCell ⟨gb367, 1, none⟩ (.int .i64 ((rd_T29 l0 x21_2).f1))).setCell ⟨gb367, 2, none⟩ (.slice A366_2 ((rd_T29 l0 x21_2).f2).length c366_2)).heap[gb367]? = some (.cells #[.int .i64 ((rd_T29 l0 x21_2).f0), .int .i64 ((rd_T29 l0 x21_2).f1), .slice A366_2 ((rd_T29 l0 x21_2).f2).length c366_2] 29 (0, 0))) := ⟨by (with_reducible repeat (first | refine blk_drewN ?_ _ | refine blk_drew ?_ | refine blk_alloc ?_ _)); refine blk_put (cs := #[.int .i64 ((rd_T29 l0 x21_2).f0), .int .i64 ((rd_T29 l0 x21_2).f1), .slice none 0 0]) ?_ 2 _ rfl; (with_reducible repeat (first | refine blk_drewN ?_ _ | refine blk_drew ?_ | refine blk_alloc ?_ _)); refine blk_put (cs := #[.int .i64 ((rd_T29 l0 x21_2).f0), .int .i64 0, .slice none 0 0]) ?_ 1 _ rfl; (with_reducible repeat (first | refine blk_drewN ?_ _ | refine blk_drew ?_ | refine blk_alloc ?_ _)); refine blk_put (cs := #[.int .i64 0, .int .i64 0, .slice none 0 0]) ?_ 0 _ rfl; (with_reducible repeat (first | refine blk_drewN ?_ _ | refine blk_drew ?_ | refine blk_alloc ?_ _)); exact BK367.out⟩
             have n1_ : Aside0 (Below w.heap.size w (((w13.setCell ⟨gb367, 0, none⟩ (.int .i64 ((rd_T29 l0 x21_2).f0))).setCell ⟨gb367, 1, none⟩ (.int .i64 ((rd_T29 l0 x21_2).f1))).setCell ⟨gb367, 2, none⟩ (.slice A366_2 ((rd_T29 l0 x21_2).f2).length c366_2))) := ⟨pG GE367⟩
             (try clear BK367)
             (try clear HB)
             generalize (((w13.setCell ⟨gb367, 0, none⟩ (.int .i64 ((rd_T29 l0 x21_2).f0))).setCell ⟨gb367, 1, none⟩ (.int .i64 ((rd_T29 l0 x21_2).f1))).setCell ⟨gb367, 2, none⟩ (.slice A366_2 ((rd_T29 l0 x21_2).f2).length c366_2)) = w36 at n0_ n1_ ⊢
             have BK367 := n0_
             have HB := n1_
             clear n0_ n1_
             have n0_ := Aside0.mk (blk_drew BK367.out)
             have n1_ := Aside0.mk (below_drew1 HB.out)
             clear BK367
             clear HB
             have BK367 := n0_
             have HB := n1_
             clear n0_ n1_
             refine start_ (n := 32) (S := fun w' => w'.cell? ⟨gb367, 0, none⟩ = some (.int .i64 ((rd_T29 l0 x21_2).f0)) ∧ w'.cell? ⟨gb367, 1, none⟩ = some (.int .i64 ((rd_T29 l0 x21_2).f1)) ∧ w'.cell? ⟨gb367, 2, none⟩ = some (.slice A366_2 ((rd_T29 l0 x21_2).f2).length c366_2)) (ds := []) #[false, false, false, false, false, false, false, false, false, false, false, false, false, false, false, false, false, false, false, false, false, false, false, false, false, false, false, false, false, false, false, false] pL rfl rfl ⟨(blk_cell BK367.out 0).trans rfl, (blk_cell BK367.out 1).trans rfl, (blk_cell BK367.out 2).trans rfl⟩ (fun hHeld => ?_); refine with_tabW impl_DishesValid.tab6 impl_DishesValid.bits6 (fun HT_ HW_ => ?_)
             generalize w36.drew = w37 at BK367 HB hHeld ⊢
             refine pu 0 (some 26) impl_DishesValid.b18 HT_ rfl rfl pL (fun _ _ _ h => h) (by rfl) pY pP ?_
             refine tk 1 (some 27) impl_DishesValid.b19 HT_ HW_ rfl rfl pL (fun _ _ _ h => h) (by rfl) (by rintro w' ⟨s0, s1, s2⟩; go_simp; with_reducible rfl) hHeld pP ?_
             refine one_ (i := 2) (N := some 28) impl_DishesValid.b20 rfl rfl (one_of HT_.out pL) (by decide) (fun K hK => ?_)
             refine goes_ Try.func80 pL rfl #[.int .i64 ((rd_T29 l0 x21_2).f0)] (by rfl) rfl rfl pM ?_
             with_reducible refine (impl_isId.calls ((rd_T29 l0 x21_2).f0) true _ A15.out).mono ?_
             rintro e w' ⟨rfl, ⟨nd, rfl⟩⟩
             refine ⟨_, rfl, ?_⟩
             refine hK.out _ _ ⟨(blk_cell BK367.out 0).trans rfl, (blk_cell BK367.out 1).trans rfl, (blk_cell BK367.out 2).trans rfl⟩ (fun hHeld => ?_)
             clear hK K
             refine norm_ (a' := ?_) ?_ ?_
             rotate_left
             ·show Act.put _ (some 28) _ = _
              exact pP
             refine pu 3 (some 29) impl_DishesValid.b21 HT_ rfl rfl pL (fun _ _ _ h => h) (by rfl) pY pP ?_
             refine pu 4 (some 30) impl_DishesValid.b22 HT_ rfl rfl pL (fun _ _ _ h => h) (by rfl) pY pP ?_
             refine pu 5 (some 31) impl_DishesValid.b23 HT_ rfl rfl pL (fun _ _ _ h => h) (by rfl) pY pP ?_
             refine pu 6 (some 32) impl_DishesValid.b24 HT_ rfl rfl pL (fun _ _ _ h => h) (by rfl) pY pP ?_
             refine pu 7 (some 33) impl_DishesValid.b25 HT_ rfl rfl pL (fun _ _ _ h => h) (by rfl) pY pP ?_
             refine un 8 (some 34) impl_DishesValid.b26 HT_ rfl rfl pL (fun _ _ _ h => h) (by rfl) pP ?_
             refine un 9 (some 35) impl_DishesValid.b27 HT_ rfl rfl pL (fun _ _ _ h => h) (by rfl) pP ?_
             refine un 10 (some 36) impl_DishesValid.b28 HT_ rfl rfl pL (fun _ _ _ h => h) (by rfl) pP ?_
             refine un 11 (some 37) impl_DishesValid.b29 HT_ rfl rfl pL (fun _ _ _ h => h) (by rfl) pP ?_
             refine un 12 (some 38) impl_DishesValid.b30 HT_ rfl rfl pL (fun _ _ _ h => h) (by rfl) pP ?_
             refine un 13 (some 39) impl_DishesValid.b50 HT_ rfl rfl pL (fun _ _ _ h => h) (by rfl) pP ?_
             refine un 14 (some 40) impl_DishesValid.b31 HT_ rfl rfl pL (fun _ _ _ h => h) (by rfl) pP ?_
             refine un 15 (some 41) impl_DishesValid.b32 HT_ rfl rfl pL (fun _ _ _ h => h) (by rfl) pP ?_
             refine un 16 (some 42) impl_DishesValid.b33 HT_ rfl rfl pL (fun _ _ _ h => h) (by rfl) pP ?_
             refine pu 17 (some 43) impl_DishesValid.b34 HT_ rfl rfl pL (fun _ _ _ h => h) (by rfl) pY pP ?_
             refine pu 18 (some 44) impl_DishesValid.b35 HT_ rfl rfl pL (fun _ _ _ h => h) (by rfl) pY pP ?_
             refine pu 19 (some 45) impl_DishesValid.b36 HT_ rfl rfl pL (fun _ _ _ h => h) (by rfl) pY pP ?_
             refine pu 20 (some 46) impl_DishesValid.b37 HT_ rfl rfl pL (fun _ _ _ h => h) (by rfl) pY pP ?_
             refine tk 21 (some 47) impl_DishesValid.b38 HT_ HW_ rfl rfl pL (fun _ _ _ h => h) (by rfl) (by rintro w' ⟨s0, s1, s2⟩; go_simp; with_reducible rfl) hHeld pP ?_
             refine one_ (i := 22) (N := some 48) impl_DishesValid.b39 rfl rfl (one_of HT_.out pL) (by decide) (fun K hK => ?_)
             refine goes_ Try.func76 pL rfl #[.int .i64 ((rd_T29 l0 x21_2).f1), .int .i64 1, .int .i64 12] (by rfl) rfl rfl pM ?_
             with_reducible refine (impl_within.calls ((rd_T29 l0 x21_2).f1) 1 12 false _ A31.out).mono ?_
             rintro e w' ⟨rfl, ⟨nd, rfl⟩⟩
             refine ⟨_, rfl, ?_⟩
             refine hK.out _ _ ⟨(blk_cell BK367.out 0).trans rfl, (blk_cell BK367.out 1).trans rfl, (blk_cell BK367.out 2).trans rfl⟩ (fun hHeld => ?_)
             clear hK K
             refine norm_ (a' := ?_) ?_ ?_
             rotate_left
             ·show Act.put _ (some 48) _ = _
              exact pP
             refine pu 23 (some 49) impl_DishesValid.b40 HT_ rfl rfl pL (fun _ _ _ h => h) (by rfl) pY pP ?_
             refine pu 24 (some 50) impl_DishesValid.b41 HT_ rfl rfl pL (fun _ _ _ h => h) (by rfl) pY pP ?_
             refine pu 25 (some 51) impl_DishesValid.b42 HT_ rfl rfl pL (fun _ _ _ h => h) (by rfl) pY pP ?_
             refine un 26 (some 52) impl_DishesValid.b43 HT_ rfl rfl pL (fun _ _ _ h => h) (by rfl) pP ?_
             refine un 27 (some 53) impl_DishesValid.b44 HT_ rfl rfl pL (fun _ _ _ h => h) (by rfl) pP ?_
             refine un 28 (some 54) impl_DishesValid.b45 HT_ rfl rfl pL (fun _ _ _ h => h) (by rfl) pP ?_
             refine un 29 (some 55) impl_DishesValid.b46 HT_ rfl rfl pL (fun _ _ _ h => h) (by rfl) pP ?_
             refine un 30 (some 56) impl_DishesValid.b47 HT_ rfl rfl pL (fun _ _ _ h => h) (by rfl) pP ?_
             refine pu 31 (some 57) impl_DishesValid.b48 HT_ rfl rfl pL (fun _ _ _ h => h) (by rfl) pY pP ?_
             refine done_ (done_of HT_.out pL) ?_
             try go_wp2
             go_meet
             case rel => exact ⟨_, (true), pF, H', ⟨by have := HJ2.out; have := HK2.out; first | omega | exact Nat.le_refl _⟩, ⟨pC BK367⟩, ⟨pG GE367⟩⟩
          ·replace c16 := Bool.eq_false_iff.mpr c16
           subst c16
           have H1 : (impl_DishesValid.j2 k2 l0 l1 x21_2 l0 (l0.length : Int) x21_2 true ((rd_T29 l0 x21_2).f0) ((rd_T29 l0 x21_2).f1) ((rd_T29 l0 x21_2).f2)) = some r := by rw [if_neg (show ¬ (false = true) by decide)] at H; exact H
           clear H
           have H := H1
           clear H1
           have H' := Aside0.mk H
           clear H
           try go_wp2
           have n0_ : Aside0 ((((w13.setCell ⟨gb367, 0, none⟩ (.int .i64 ((rd_T29 l0 x21_2).f0))).setCell ⟨gb367, 1, none⟩ (.int .i64 ((rd_T29 l0 x21_2).f1))).setCell ⟨gb367, 2, none⟩ (.slice A366_2 ((rd_T29 l0 x21_2).f2).length c366_2)).heap[gb367]? = some (.cells #[.int .i64 ((rd_T29 l0 x21_2).f0), .int .i64 ((rd_T29 l0 x21_2).f1), .slice A366_2 ((rd_T29 l0 x21_2).f2).length c366_2] 29 (0, 0))) := ⟨by (with_reducible repeat (first | refine blk_drewN ?_ _ | refine blk_drew ?_ | refine blk_alloc ?_ _)); refine blk_put (cs := #[.int .i64 ((rd_T29 l0 x21_2).f0), .int .i64 ((rd_T29 l0 x21_2).f1), .slice none 0 0]) ?_ 2 _ rfl; (with_reducible repeat (first | refine blk_drewN ?_ _ | refine blk_drew ?_ | refine blk_alloc ?_ _)); refine blk_put (cs := #[.int .i64 ((rd_T29 l0 x21_2).f0), .int .i64 0, .slice none 0 0]) ?_ 1 _ rfl; (with_reducible repeat (first | refine blk_drewN ?_ _ | refine blk_drew ?_ | refine blk_alloc ?_ _)); refine blk_put (cs := #[.int .i64 0, .int .i64 0, .slice none 0 0]) ?_ 0 _ rfl; (with_reducible repeat (first | refine blk_drewN ?_ _ | refine blk_drew ?_ | refine blk_alloc ?_ _)); exact BK367.out⟩
           have n1_ : Aside0 (Below w.heap.size w (((w13.setCell ⟨gb367, 0, none⟩ (.int .i64 ((rd_T29 l0 x21_2).f0))).setCell ⟨gb367, 1, none⟩ (.int .i64 ((rd_T29 l0 x21_2).f1))).setCell ⟨gb367, 2, none⟩ (.slice A366_2 ((rd_T29 l0 x21_2).f2).length c366_2))) := ⟨pG GE367⟩
           (try clear BK367)
           (try clear HB)
           generalize (((w13.setCell ⟨gb367, 0, none⟩ (.int .i64 ((rd_T29 l0 x21_2).f0))).setCell ⟨gb367, 1, none⟩ (.int .i64 ((rd_T29 l0 x21_2).f1))).setCell ⟨gb367, 2, none⟩ (.slice A366_2 ((rd_T29 l0 x21_2).f2).length c366_2)) = w38 at n0_ n1_ ⊢
           have BK367 := n0_
           have HB := n1_
           clear n0_ n1_
           have n0_ := Aside0.mk (blk_drew BK367.out)
           have n1_ := Aside0.mk (below_drew1 HB.out)
           clear BK367
           clear HB
           have BK367 := n0_
           have HB := n1_
           clear n0_ n1_
           refine start_ (n := 32) (S := fun w' => w'.cell? ⟨gb367, 0, none⟩ = some (.int .i64 ((rd_T29 l0 x21_2).f0)) ∧ w'.cell? ⟨gb367, 1, none⟩ = some (.int .i64 ((rd_T29 l0 x21_2).f1)) ∧ w'.cell? ⟨gb367, 2, none⟩ = some (.slice A366_2 ((rd_T29 l0 x21_2).f2).length c366_2)) (ds := []) #[false, false, false, false, false, false, false, false, false, false, false, false, false, false, false, false, false, false, false, false, false, false, false, false, false, false, false, false, false, false, false, false] pL rfl rfl ⟨(blk_cell BK367.out 0).trans rfl, (blk_cell BK367.out 1).trans rfl, (blk_cell BK367.out 2).trans rfl⟩ (fun hHeld => ?_); refine with_tabW impl_DishesValid.tab6 impl_DishesValid.bits6 (fun HT_ HW_ => ?_)
           generalize w38.drew = w39 at BK367 HB hHeld ⊢
           refine pu 0 (some 26) impl_DishesValid.b18 HT_ rfl rfl pL (fun _ _ _ h => h) (by rfl) pY pP ?_
           refine tk 1 (some 27) impl_DishesValid.b19 HT_ HW_ rfl rfl pL (fun _ _ _ h => h) (by rfl) (by rintro w' ⟨s0, s1, s2⟩; go_simp; with_reducible rfl) hHeld pP ?_
           refine one_ (i := 2) (N := some 28) impl_DishesValid.b20 rfl rfl (one_of HT_.out pL) (by decide) (fun K hK => ?_)
           refine goes_ Try.func80 pL rfl #[.int .i64 ((rd_T29 l0 x21_2).f0)] (by rfl) rfl rfl pM ?_
           with_reducible refine (impl_isId.calls ((rd_T29 l0 x21_2).f0) false _ A15.out).mono ?_
           rintro e w' ⟨rfl, ⟨nd, rfl⟩⟩
           refine ⟨_, rfl, ?_⟩
           refine hK.out _ _ ⟨(blk_cell BK367.out 0).trans rfl, (blk_cell BK367.out 1).trans rfl, (blk_cell BK367.out 2).trans rfl⟩ (fun hHeld => ?_)
           clear hK K
           refine norm_ (a' := ?_) ?_ ?_
           rotate_left
           ·show Act.put _ (some 28) _ = _
            exact pP
           refine pu 3 (some 29) impl_DishesValid.b21 HT_ rfl rfl pL (fun _ _ _ h => h) (by rfl) pY pP ?_
           refine pu 4 (some 30) impl_DishesValid.b22 HT_ rfl rfl pL (fun _ _ _ h => h) (by rfl) pY pP ?_
           refine un 5 (some 31) impl_DishesValid.b23 HT_ rfl rfl pL (fun _ _ _ h => h) (by rfl) pP ?_
           refine un 6 (some 32) impl_DishesValid.b24 HT_ rfl rfl pL (fun _ _ _ h => h) (by rfl) pP ?_
           refine un 7 (some 33) impl_DishesValid.b25 HT_ rfl rfl pL (fun _ _ _ h => h) (by rfl) pP ?_
           refine un 8 (some 34) impl_DishesValid.b26 HT_ rfl rfl pL (fun _ _ _ h => h) (by rfl) pP ?_
           refine un 9 (some 35) impl_DishesValid.b27 HT_ rfl rfl pL (fun _ _ _ h => h) (by rfl) pP ?_
           refine un 10 (some 36) impl_DishesValid.b28 HT_ rfl rfl pL (fun _ _ _ h => h) (by rfl) pP ?_
           refine un 11 (some 37) impl_DishesValid.b29 HT_ rfl rfl pL (fun _ _ _ h => h) (by rfl) pP ?_
           refine un 12 (some 38) impl_DishesValid.b30 HT_ rfl rfl pL (fun _ _ _ h => h) (by rfl) pP ?_
           refine un 13 (some 39) impl_DishesValid.b50 HT_ rfl rfl pL (fun _ _ _ h => h) (by rfl) pP ?_
           refine un 14 (some 40) impl_DishesValid.b31 HT_ rfl rfl pL (fun _ _ _ h => h) (by rfl) pP ?_
           refine un 15 (some 41) impl_DishesValid.b32 HT_ rfl rfl pL (fun _ _ _ h => h) (by rfl) pP ?_
           refine un 16 (some 42) impl_DishesValid.b33 HT_ rfl rfl pL (fun _ _ _ h => h) (by rfl) pP ?_
           refine un 17 (some 43) impl_DishesValid.b34 HT_ rfl rfl pL (fun _ _ _ h => h) (by rfl) pP ?_
           refine pu 18 (some 44) impl_DishesValid.b35 HT_ rfl rfl pL (fun _ _ _ h => h) (by rfl) pY pP ?_
           refine pu 19 (some 45) impl_DishesValid.b36 HT_ rfl rfl pL (fun _ _ _ h => h) (by rfl) pY pP ?_
           refine un 20 (some 46) impl_DishesValid.b37 HT_ rfl rfl pL (fun _ _ _ h => h) (by rfl) pP ?_
           refine un 21 (some 47) impl_DishesValid.b38 HT_ rfl rfl pL (fun _ _ _ h => h) (by rfl) pP ?_
           refine un 22 (some 48) impl_DishesValid.b39 HT_ rfl rfl pL (fun _ _ _ h => h) (by rfl) pP ?_
           refine un 23 (some 49) impl_DishesValid.b40 HT_ rfl rfl pL (fun _ _ _ h => h) (by rfl) pP ?_
           refine pu 24 (some 50) impl_DishesValid.b41 HT_ rfl rfl pL (fun _ _ _ h => h) (by rfl) pY pP ?_
           refine pu 25 (some 51) impl_DishesValid.b42 HT_ rfl rfl pL (fun _ _ _ h => h) (by rfl) pY pP ?_
           refine un 26 (some 52) impl_DishesValid.b43 HT_ rfl rfl pL (fun _ _ _ h => h) (by rfl) pP ?_
           refine un 27 (some 53) impl_DishesValid.b44 HT_ rfl rfl pL (fun _ _ _ h => h) (by rfl) pP ?_
           refine un 28 (some 54) impl_DishesValid.b45 HT_ rfl rfl pL (fun _ _ _ h => h) (by rfl) pP ?_
           refine un 29 (some 55) impl_DishesValid.b46 HT_ rfl rfl pL (fun _ _ _ h => h) (by rfl) pP ?_
           refine un 30 (some 56) impl_DishesValid.b47 HT_ rfl rfl pL (fun _ _ _ h => h) (by rfl) pP ?_
           refine pu 31 (some 57) impl_DishesValid.b48 HT_ rfl rfl pL (fun _ _ _ h => h) (by rfl) pY pP ?_
           refine done_ (done_of HT_.out pL) ?_
           try go_wp2
           go_meet
           case rel => exact ⟨_, (true), pF, H', ⟨by have := HJ2.out; have := HK2.out; first | omega | exact Nat.le_refl _⟩, ⟨pC BK367⟩, ⟨pG GE367⟩⟩
         case rest =>
          clear HC12
          try clear c1
          try clear p2
          try clear c3
          try clear c7
          try clear c8
          try clear c16
          try clear c32
          try clear c36
          obtain ⟨kq, x57_11, rfl, HA, HJ11, BK367, HB⟩ := hcut
          cases kq with
          | zero => exact absurd HA.out (by simp [impl_DishesValid.j2])
          | succ kj11 =>
           have H := HA.out
           clear HA
           simp only [impl_DishesValid.j2] at H
           by_cases c40 : x57_11 = true
           ·subst c40
            have H1 : (some false) = some r := by rw [if_pos rfl] at H; exact H
            clear H
            have H := H1
            clear H1
            obtain rfl := Option.some.inj H
            go_wp2
            go_ret
            exact ⟨pE, pG GE367⟩
           ·replace c40 := Bool.eq_false_iff.mpr c40
            subst c40
            have H1 : (impl_DishesValid.l1 kj11 l0 l1 x21_2 l0 (l0.length : Int) x21_2 ((rd_T29 l0 x21_2).f2) (((rd_T29 l0 x21_2).f2).length : Int) 0) = some r := by rw [if_neg (show ¬ (false = true) by decide)] at H; exact H
            clear H
            have H := H1
            clear H1
            have H' := Aside0.mk H
            clear H
            have hcz41_0 : wc.cell? ⟨gb367, 0, none⟩ = some (.int .i64 ((rd_T29 l0 x21_2).f0)) := (blk_cell BK367.out 0).trans rfl
            have hcz41_1 : wc.cell? ⟨gb367, 1, none⟩ = some (.int .i64 ((rd_T29 l0 x21_2).f1)) := (blk_cell BK367.out 1).trans rfl
            have hcz41_2 : wc.cell? ⟨gb367, 2, none⟩ = some (.slice A366_2 ((rd_T29 l0 x21_2).f2).length c366_2) := (blk_cell BK367.out 2).trans rfl
            have hfz41_0 := blk_frozen BK367.out 0
            have hfz41_1 := blk_frozen BK367.out 1
            have hfz41_2 := blk_frozen BK367.out 2
            go_wp2
            go_loopg [61] kj11 (fun kq v61 w' => ∃ (x61_4 : Int), v61 = .int .i64 x61_4 ∧ Aside0 (impl_DishesValid.l1 kq l0 l1 x21_2 l0 (l0.length : Int) x21_2 ((rd_T29 l0 x21_2).f2) (((rd_T29 l0 x21_2).f2).length : Int) x61_4 = some r) ∧ Aside0 (kq ≤ kj11) ∧ Aside0 (w'.heap[gb367]? = some (.cells #[.int .i64 ((rd_T29 l0 x21_2).f0), .int .i64 ((rd_T29 l0 x21_2).f1), (.slice A366_2 ((rd_T29 l0 x21_2).f2).length c366_2)] 29 (0, 0))) ∧ Aside0 (Below w.heap.size w w'))
            case atStart => exact ⟨(0), pF, H', ⟨Nat.le_refl _⟩, ⟨pC BK367⟩, ⟨pG GE367⟩⟩
            case round =>
             clear H'
             try clear c1
             try clear p2
             try clear c3
             try clear c4
             try clear c7
             try clear c8
             try clear c16
             try clear c32
             try clear c36
             try clear c40
             try clear hcz41_0
             try clear hcz41_1
             try clear hcz41_2
             try clear hfz41_0
             try clear hfz41_1
             try clear hfz41_2
             try clear p2
             obtain ⟨x61_4, rfl, HA, HK4, BK367, HB⟩ := hrel
             cases gk with
             | zero => exact absurd HA.out (by simp [impl_DishesValid.l1])
             | succ k4 =>
              have H := HA.out
              clear HA
              simp only [impl_DishesValid.l1] at H
              by_cases c42 : x61_4 < (((rd_T29 l0 x21_2).f2).length : Int)
              ·rw [if_pos c42] at H
               have c42b0 : decide (x61_4 < (((rd_T29 l0 x21_2).f2).length : Int)) = true := decide_eq_true c42
               clear c42
               by_cases c43 : 0 ≤ x61_4
               ·rw [if_pos c43] at H
                have c43b0 : decide (0 ≤ x61_4) = true := decide_eq_true c43
                clear c43
                by_cases c44 : x61_4 < (((rd_T29 l0 x21_2).f2).length : Int)
                ·rw [if_pos c44] at H
                 have c44b0 : decide (x61_4 < (((rd_T29 l0 x21_2).f2).length : Int)) = true := decide_eq_true c44
                 clear c44
                 have HC45 := Aside0.mk H
                 clear H
                 have p374 : 0 ≤ (x61_4 : Int) := of_decide_eq_true pA
                 have q374 : x61_4 < (((rd_T29 l0 x21_2).f2).length : Int) := of_decide_eq_true pA
                 obtain ⟨ad374, e374, hx374_0, hx374_1, hx374_2⟩ := at_T55 HR366_2.out x61_4 p374 q374
                 cases e374
                 replace hx374_0 := (HB.out.cell (World.block_lt_of_cell? w _ hx374_0)).trans hx374_0
                 replace hx374_1 := (HB.out.cell (World.block_lt_of_cell? w _ hx374_1)).trans hx374_1
                 replace hx374_2 := (HB.out.cell (World.block_lt_of_cell? w _ hx374_2)).trans hx374_2
                 replace p374 := eq_true p374
                 replace q374 := eq_true q374
                 go_upto_region 11 with (first | ((with_reducible refine gate_dst (N := 8) rfl ?_); (try (refine gate_guard (by rfl) ?_; dsimp only)); refine box_event ?hg (N := 8) ?hd (cs := #[.int .i64 0, .int .i64 0, .int .i64 0]) (t := 55) ?hr ?_; (case hd => rfl); (case hg => rfl); (case hr => first | (go_simp; done) | (go_simp; rfl)); intro gb375 hg w46 hbox hb; have n0_ := Aside0.mk (blk_below (g := gb367) (o := .cells #[.int .i64 ((rd_T29 l0 x21_2).f0), .int .i64 ((rd_T29 l0 x21_2).f1), .slice (some ad374) ((rd_T29 l0 x21_2).f2).length c366_2] 29 (0, 0)) (pC BK367) hb); have n1_ := Aside0.mk (below_step (pG GE367) hb); have n2_ := Aside0.mk (hbox); have n3_ := Aside0.mk ((by rw [hg]; exact (below_size (pG GE367)) : w.heap.size ≤ gb375)); have n4_ := Aside0.mk ((by rw [hg]; exact (below_size (pG GE367)) : w.heap.size ≤ gb375)); have n5_ := Aside0.mk ((by rw [hg]; exact Nat.ne_of_lt (blk_lt (g := gb367) (o := .cells #[.int .i64 ((rd_T29 l0 x21_2).f0), .int .i64 ((rd_T29 l0 x21_2).f1), .slice (some ad374) ((rd_T29 l0 x21_2).f2).length c366_2] 29 (0, 0)) (pC BK367)) : gb367 ≠ gb375)); have n6_ := Aside0.mk ((by rw [hg]; exact Nat.ne_of_gt (blk_lt (g := gb367) (o := .cells #[.int .i64 ((rd_T29 l0 x21_2).f0), .int .i64 ((rd_T29 l0 x21_2).f1), .slice (some ad374) ((rd_T29 l0 x21_2).f2).length c366_2] 29 (0, 0)) (pC BK367)) : gb375 ≠ gb367)); clear BK367; clear HB; have BK367 := n0_; have HB := n1_; have BK375 := n2_; have GW375 := n3_; have GE375 := n4_; have NB367_375 := n5_; have NB375_367 := n6_; clear n0_ n1_ n2_ n3_ n4_ n5_ n6_; clear hb hbox hg; have hnb47 := NB375_367.out; have hnc47 := NB367_375.out; have hcz48_0 : w46.cell? ⟨gb375, 0, none⟩ = some (.int .i64 0) := (blk_cell BK375.out 0).trans rfl; have hcz48_1 : w46.cell? ⟨gb375, 1, none⟩ = some (.int .i64 0) := (blk_cell BK375.out 1).trans rfl; have hcz48_2 : w46.cell? ⟨gb375, 2, none⟩ = some (.int .i64 0) := (blk_cell BK375.out 2).trans rfl; have hfz48_0 := blk_frozen BK375.out 0; have hfz48_1 := blk_frozen BK375.out 1; have hfz48_2 := blk_frozen BK375.out 2))
                 (try simp only [Act.put, List.setIfInBounds_toArray, List.set_cons_zero, List.set_cons_succ])
                 go_cut [9] (fun v9 wc => ∃ (kq : Nat) (x9_44 : Bool), v9 = .bool x9_44 ∧ Aside0 (impl_DishesValid.j4 kq l0 l1 x21_2 x9_44 l0 (l0.length : Int) x21_2 ((rd_T29 l0 x21_2).f2) (((rd_T29 l0 x21_2).f2).length : Int) x61_4 ((rd_T55 ((rd_T29 l0 x21_2).f2) x61_4).f0) ((rd_T55 ((rd_T29 l0 x21_2).f2) x61_4).f1) ((rd_T55 ((rd_T29 l0 x21_2).f2) x61_4).f2) = some r) ∧ Aside0 (kq ≤ k4) ∧ Aside0 (wc.heap[gb367]? = some (.cells #[.int .i64 ((rd_T29 l0 x21_2).f0), .int .i64 ((rd_T29 l0 x21_2).f1), (.slice (some ad374) ((rd_T29 l0 x21_2).f2).length c366_2)] 29 (0, 0))) ∧ Aside0 (wc.heap[gb375]? = some (.cells #[.int .i64 ((rd_T55 ((rd_T29 l0 x21_2).f2) x61_4).f0), .int .i64 ((rd_T55 ((rd_T29 l0 x21_2).f2) x61_4).f1), .int .i64 ((rd_T55 ((rd_T29 l0 x21_2).f2) x61_4).f2)] 55 (0, 0))) ∧ Aside0 (Below w.heap.size w wc))
                 case first =>
                  have H := HC45.out
                  clear HC45
                  by_cases c49 : ((rd_T55 ((rd_T29 l0 x21_2).f2) x61_4).f1) = 0
                  ·rw [if_pos c49] at H
                   have c49b0 : (((rd_T55 ((rd_T29 l0 x21_2).f2) x61_4).f1) == 0) = true := beq_iff_eq.mpr c49
                   have c49b1 : (((rd_T55 ((rd_T29 l0 x21_2).f2) x61_4).f1) != 0) = false := bne_eq_false_iff_eq.mpr c49
                   clear c49
                   (first | rw [c49b0] | (simp only [i64_w, i32_w]; rw [c49b0]) | skip)
                   replace H := Option.bind_eq_some_iff.mp H
                   obtain ⟨t376, A500, H⟩ := H
                   replace H : (if t376 ≥ 0 then ((impl_within.f ((rd_T55 ((rd_T29 l0 x21_2).f2) x61_4).f2) 1 999).bind fun t377 => (impl_DishesValid.j4 k4 l0 l1 x21_2 t377 l0 (l0.length : Int) x21_2 ((rd_T29 l0 x21_2).f2) (((rd_T29 l0 x21_2).f2).length : Int) x61_4 ((rd_T55 ((rd_T29 l0 x21_2).f2) x61_4).f0) ((rd_T55 ((rd_T29 l0 x21_2).f2) x61_4).f1) ((rd_T55 ((rd_T29 l0 x21_2).f2) x61_4).f2))) else (impl_DishesValid.j4 k4 l0 l1 x21_2 false l0 (l0.length : Int) x21_2 ((rd_T29 l0 x21_2).f2) (((rd_T29 l0 x21_2).f2).length : Int) x61_4 ((rd_T55 ((rd_T29 l0 x21_2).f2) x61_4).f0) ((rd_T55 ((rd_T29 l0 x21_2).f2) x61_4).f1) ((rd_T55 ((rd_T29 l0 x21_2).f2) x61_4).f2))) = some r := H
                   have A50 := Aside0.mk A500
                   clear A500
                   by_cases c51 : t376 ≥ 0
                   ·rw [if_pos c51] at H
                    have c51b0 : decide (0 ≤ t376) = true := decide_eq_true c51
                    clear c51
                    replace H := Option.bind_eq_some_iff.mp H
                    obtain ⟨t377, A520, H⟩ := H
                    replace H : (impl_DishesValid.j4 k4 l0 l1 x21_2 t377 l0 (l0.length : Int) x21_2 ((rd_T29 l0 x21_2).f2) (((rd_T29 l0 x21_2).f2).length : Int) x61_4 ((rd_T55 ((rd_T29 l0 x21_2).f2) x61_4).f0) ((rd_T55 ((rd_T29 l0 x21_2).f2) x61_4).f1) ((rd_T55 ((rd_T29 l0 x21_2).f2) x61_4).f2)) = some r := H
                    have A52 := Aside0.mk A520
                    clear A520
                    have H' := Aside0.mk H
                    clear H
                    have hnb53 := NB375_367.out
                    have hnc53 := NB367_375.out
                    have hcz54_0 : w46.cell? ⟨gb375, 0, none⟩ = some (.int .i64 0) := (blk_cell BK375.out 0).trans rfl
                    have hcz54_1 : w46.cell? ⟨gb375, 1, none⟩ = some (.int .i64 0) := (blk_cell BK375.out 1).trans rfl
                    have hcz54_2 : w46.cell? ⟨gb375, 2, none⟩ = some (.int .i64 0) := (blk_cell BK375.out 2).trans rfl
                    have hfz54_0 := blk_frozen BK375.out 0
                    have hfz54_1 := blk_frozen BK375.out 1
                    have hfz54_2 := blk_frozen BK375.out 2
                    go_wp2_with (first | (go_at_call 81; (with_reducible refine (impl_foodPlace.calls _ _ l1 ((rd_T55 ((rd_T29 l0 x21_2).f2) x61_4).f0) t376 _ ?side1 ?side2 A50.out).mono ?_); (case side1 => exact Kd.C_below HR1.out (by repeat (first | (with_reducible first | exact HB.out | apply below_alloc | apply pw_below_drewN | apply below_drew1 | refine below_set ?_ GE367.out | refine below_set ?_ GE375.out) | exact HB.out))); (case side2 => exact HC1.out); rintro e w55 ⟨rfl, hb⟩; have n0_ := Aside0.mk (blk_below (g := gb367) (o := .cells #[.int .i64 ((rd_T29 l0 x21_2).f0), .int .i64 ((rd_T29 l0 x21_2).f1), .slice (some ad374) ((rd_T29 l0 x21_2).f2).length c366_2] 29 (0, 0)) (by (with_reducible repeat (first | refine blk_drewN ?_ _ | refine blk_drew ?_ | refine blk_alloc ?_ _)); refine blk_far ?_ NB367_375.out _; (with_reducible repeat (first | refine blk_drewN ?_ _ | refine blk_drew ?_ | refine blk_alloc ?_ _)); refine blk_far ?_ NB367_375.out _; (with_reducible repeat (first | refine blk_drewN ?_ _ | refine blk_drew ?_ | refine blk_alloc ?_ _)); refine blk_far ?_ NB367_375.out _; (with_reducible repeat (first | refine blk_drewN ?_ _ | refine blk_drew ?_ | refine blk_alloc ?_ _)); exact BK367.out) hb); have n1_ := Aside0.mk (blk_below (g := gb375) (o := .cells #[.int .i64 ((rd_T55 ((rd_T29 l0 x21_2).f2) x61_4).f0), .int .i64 ((rd_T55 ((rd_T29 l0 x21_2).f2) x61_4).f1), .int .i64 ((rd_T55 ((rd_T29 l0 x21_2).f2) x61_4).f2)] 55 (0, 0)) (by (with_reducible repeat (first | refine blk_drewN ?_ _ | refine blk_drew ?_ | refine blk_alloc ?_ _)); refine blk_put (cs := #[.int .i64 ((rd_T55 ((rd_T29 l0 x21_2).f2) x61_4).f0), .int .i64 ((rd_T55 ((rd_T29 l0 x21_2).f2) x61_4).f1), .int .i64 0]) ?_ 2 _ rfl; (with_reducible repeat (first | refine blk_drewN ?_ _ | refine blk_drew ?_ | refine blk_alloc ?_ _)); refine blk_put (cs := #[.int .i64 ((rd_T55 ((rd_T29 l0 x21_2).f2) x61_4).f0), .int .i64 0, .int .i64 0]) ?_ 1 _ rfl; (with_reducible repeat (first | refine blk_drewN ?_ _ | refine blk_drew ?_ | refine blk_alloc ?_ _)); refine blk_put (cs := #[.int .i64 0, .int .i64 0, .int .i64 0]) ?_ 0 _ rfl; (with_reducible repeat (first | refine blk_drewN ?_ _ | refine blk_drew ?_ | refine blk_alloc ?_ _)); exact BK375.out) hb); have n2_ := Aside0.mk (below_step (by repeat (first | (with_reducible first | exact HB.out | apply below_alloc | apply pw_below_drewN | apply below_drew1 | refine below_set ?_ GE367.out | refine below_set ?_ GE375.out) | exact HB.out)) hb); clear BK367; clear BK375; clear HB; have BK367 := n0_; have BK375 := n1_; have HB := n2_; clear n0_ n1_ n2_; (try clear hb); (try clear hb2); (try clear hk); (try clear hi); have hcz56_0 : w55.cell? ⟨gb375, 0, none⟩ = some (.int .i64 ((rd_T55 ((rd_T29 l0 x21_2).f2) x61_4).f0)) := (blk_cell BK375.out 0).trans rfl; have hcz56_1 : w55.cell? ⟨gb375, 1, none⟩ = some (.int .i64 ((rd_T55 ((rd_T29 l0 x21_2).f2) x61_4).f1)) := (blk_cell BK375.out 1).trans rfl; have hcz56_2 : w55.cell? ⟨gb375, 2, none⟩ = some (.int .i64 ((rd_T55 ((rd_T29 l0 x21_2).f2) x61_4).f2)) := (blk_cell BK375.out 2).trans rfl; have hfz56_0 := blk_frozen BK375.out 0; have hfz56_1 := blk_frozen BK375.out 1; have hfz56_2 := blk_frozen BK375.out 2) | (go_at_call 76; (with_reducible refine (impl_within.calls ((rd_T55 ((rd_T29 l0 x21_2).f2) x61_4).f2) 1 999 t377 _ A52.out).mono ?_); rintro e w' ⟨rfl, ⟨nd, rfl⟩⟩))
                    go_meet
                    case rel => exact ⟨_, (t377), pF, H', ⟨by have := HJ2.out; have := HK2.out; have := HJ11.out; have := HK4.out; first | omega | exact Nat.le_refl _⟩, ⟨pC BK367⟩, ⟨pC BK375⟩, ⟨by repeat (first | (with_reducible first | exact HB.out | apply below_alloc | apply pw_below_drewN | apply below_drew1 | refine below_set ?_ GE367.out | refine below_set ?_ GE375.out) | exact HB.out)⟩⟩
                   ·rw [if_neg c51] at H
                    have c51b0 : decide (0 ≤ t376) = false := decide_eq_false c51
                    clear c51
                    have H' := Aside0.mk H
                    clear H
                    have hnb57 := NB375_367.out
                    have hnc57 := NB367_375.out
                    have hcz58_0 : w46.cell? ⟨gb375, 0, none⟩ = some (.int .i64 0) := (blk_cell BK375.out 0).trans rfl
                    have hcz58_1 : w46.cell? ⟨gb375, 1, none⟩ = some (.int .i64 0) := (blk_cell BK375.out 1).trans rfl
                    have hcz58_2 : w46.cell? ⟨gb375, 2, none⟩ = some (.int .i64 0) := (blk_cell BK375.out 2).trans rfl
                    have hfz58_0 := blk_frozen BK375.out 0
                    have hfz58_1 := blk_frozen BK375.out 1
                    have hfz58_2 := blk_frozen BK375.out 2
                    go_wp2_with (first | (go_at_call 81; (with_reducible refine (impl_foodPlace.calls _ _ l1 ((rd_T55 ((rd_T29 l0 x21_2).f2) x61_4).f0) t376 _ ?side1 ?side2 A50.out).mono ?_); (case side1 => exact Kd.C_below HR1.out (by repeat (first | (with_reducible first | exact HB.out | apply below_alloc | apply pw_below_drewN | apply below_drew1 | refine below_set ?_ GE367.out | refine below_set ?_ GE375.out) | exact HB.out))); (case side2 => exact HC1.out); rintro e w59 ⟨rfl, hb⟩; have n0_ := Aside0.mk (blk_below (g := gb367) (o := .cells #[.int .i64 ((rd_T29 l0 x21_2).f0), .int .i64 ((rd_T29 l0 x21_2).f1), .slice (some ad374) ((rd_T29 l0 x21_2).f2).length c366_2] 29 (0, 0)) (by (with_reducible repeat (first | refine blk_drewN ?_ _ | refine blk_drew ?_ | refine blk_alloc ?_ _)); refine blk_far ?_ NB367_375.out _; (with_reducible repeat (first | refine blk_drewN ?_ _ | refine blk_drew ?_ | refine blk_alloc ?_ _)); refine blk_far ?_ NB367_375.out _; (with_reducible repeat (first | refine blk_drewN ?_ _ | refine blk_drew ?_ | refine blk_alloc ?_ _)); refine blk_far ?_ NB367_375.out _; (with_reducible repeat (first | refine blk_drewN ?_ _ | refine blk_drew ?_ | refine blk_alloc ?_ _)); exact BK367.out) hb); have n1_ := Aside0.mk (blk_below (g := gb375) (o := .cells #[.int .i64 ((rd_T55 ((rd_T29 l0 x21_2).f2) x61_4).f0), .int .i64 ((rd_T55 ((rd_T29 l0 x21_2).f2) x61_4).f1), .int .i64 ((rd_T55 ((rd_T29 l0 x21_2).f2) x61_4).f2)] 55 (0, 0)) (by (with_reducible repeat (first | refine blk_drewN ?_ _ | refine blk_drew ?_ | refine blk_alloc ?_ _)); refine blk_put (cs := #[.int .i64 ((rd_T55 ((rd_T29 l0 x21_2).f2) x61_4).f0), .int .i64 ((rd_T55 ((rd_T29 l0 x21_2).f2) x61_4).f1), .int .i64 0]) ?_ 2 _ rfl; (with_reducible repeat (first | refine blk_drewN ?_ _ | refine blk_drew ?_ | refine blk_alloc ?_ _)); refine blk_put (cs := #[.int .i64 ((rd_T55 ((rd_T29 l0 x21_2).f2) x61_4).f0), .int .i64 0, .int .i64 0]) ?_ 1 _ rfl; (with_reducible repeat (first | refine blk_drewN ?_ _ | refine blk_drew ?_ | refine blk_alloc ?_ _)); refine blk_put (cs := #[.int .i64 0, .int .i64 0, .int .i64 0]) ?_ 0 _ rfl; (with_reducible repeat (first | refine blk_drewN ?_ _ | refine blk_drew ?_ | refine blk_alloc ?_ _)); exact BK375.out) hb); have n2_ := Aside0.mk (below_step (by repeat (first | (with_reducible first | exact HB.out | apply below_alloc | apply pw_below_drewN | apply below_drew1 | refine below_set ?_ GE367.out | refine below_set ?_ GE375.out) | exact HB.out)) hb); clear BK367; clear BK375; clear HB; have BK367 := n0_; have BK375 := n1_; have HB := n2_; clear n0_ n1_ n2_; (try clear hb); (try clear hb2); (try clear hk); (try clear hi)))
                    go_meet
                    case rel => exact ⟨_, (false), pF, H', ⟨by have := HJ2.out; have := HK2.out; have := HJ11.out; have := HK4.out; first | omega | exact Nat.le_refl _⟩, ⟨pC BK367⟩, ⟨pC BK375⟩, ⟨by repeat (first | (with_reducible first | exact HB.out | apply below_alloc | apply pw_below_drewN | apply below_drew1 | refine below_set ?_ GE367.out | refine below_set ?_ GE375.out) | exact HB.out)⟩⟩
                  ·rw [if_neg c49] at H
                   have c49b0 : (((rd_T55 ((rd_T29 l0 x21_2).f2) x61_4).f1) == 0) = false := beq_eq_false_iff_ne.mpr c49
                   have c49b1 : (((rd_T55 ((rd_T29 l0 x21_2).f2) x61_4).f1) != 0) = true := bne_iff_ne.mpr c49
                   (first | rw [c49b0] | (simp only [i64_w, i32_w]; rw [c49b0]) | skip)
                   have H' := Aside0.mk H
                   clear H
                   have hnb60 := NB375_367.out
                   have hnc60 := NB367_375.out
                   have hcz61_0 : w46.cell? ⟨gb375, 0, none⟩ = some (.int .i64 0) := (blk_cell BK375.out 0).trans rfl
                   have hcz61_1 : w46.cell? ⟨gb375, 1, none⟩ = some (.int .i64 0) := (blk_cell BK375.out 1).trans rfl
                   have hcz61_2 : w46.cell? ⟨gb375, 2, none⟩ = some (.int .i64 0) := (blk_cell BK375.out 2).trans rfl
                   have hfz61_0 := blk_frozen BK375.out 0
                   have hfz61_1 := blk_frozen BK375.out 1
                   have hfz61_2 := blk_frozen BK375.out 2
                   go_wp2
                   go_meet
                   case rel => exact ⟨_, (false), pF, H', ⟨by have := HJ2.out; have := HK2.out; have := HJ11.out; have := HK4.out; first | omega | exact Nat.le_refl _⟩, ⟨by (with_reducible repeat (first | refine blk_drewN ?_ _ | refine blk_drew ?_ | refine blk_alloc ?_ _)); refine blk_far ?_ NB367_375.out _; (with_reducible repeat (first | refine blk_drewN ?_ _ | refine blk_drew ?_ | refine blk_alloc ?_ _)); refine blk_far ?_ NB367_375.out _; (with_reducible repeat (first | refine blk_drewN ?_ _ | refine blk_drew ?_ | refine blk_alloc ?_ _)); refine blk_far ?_ NB367_375.out _; (with_reducible repeat (first | refine blk_drewN ?_ _ | refine blk_drew ?_ | refine blk_alloc ?_ _)); exact BK367.out⟩, ⟨by (with_reducible repeat (first | refine blk_drewN ?_ _ | refine blk_drew ?_ | refine blk_alloc ?_ _)); refine blk_put (cs := #[.int .i64 ((rd_T55 ((rd_T29 l0 x21_2).f2) x61_4).f0), .int .i64 ((rd_T55 ((rd_T29 l0 x21_2).f2) x61_4).f1), .int .i64 0]) ?_ 2 _ rfl; (with_reducible repeat (first | refine blk_drewN ?_ _ | refine blk_drew ?_ | refine blk_alloc ?_ _)); refine blk_put (cs := #[.int .i64 ((rd_T55 ((rd_T29 l0 x21_2).f2) x61_4).f0), .int .i64 0, .int .i64 0]) ?_ 1 _ rfl; (with_reducible repeat (first | refine blk_drewN ?_ _ | refine blk_drew ?_ | refine blk_alloc ?_ _)); refine blk_put (cs := #[.int .i64 0, .int .i64 0, .int .i64 0]) ?_ 0 _ rfl; (with_reducible repeat (first | refine blk_drewN ?_ _ | refine blk_drew ?_ | refine blk_alloc ?_ _)); exact BK375.out⟩, ⟨by repeat (first | (with_reducible first | exact HB.out | apply below_alloc | apply pw_below_drewN | apply below_drew1 | refine below_set ?_ GE367.out | refine below_set ?_ GE375.out) | exact HB.out)⟩⟩
                 case rest =>
                  clear HC45
                  try clear c1
                  try clear p2
                  try clear c3
                  try clear p3
                  try clear q3
                  try clear hx3
                  try clear c4
                  try clear c5
                  try clear c6
                  try clear c7
                  try clear c8
                  try clear c16
                  try clear c32
                  try clear c36
                  try clear p37
                  try clear q37
                  try clear hx37
                  try clear c40
                  try clear c42
                  try clear c42b0
                  try clear c43
                  try clear c43b0
                  try clear c44
                  try clear c44b0
                  try clear c47
                  try clear c49
                  try clear c49b0
                  try clear c49b1
                  try clear c51
                  try clear c51b0
                  try clear c53
                  try clear c57
                  try clear c60
                  try clear hcz41_0
                  try clear hcz41_1
                  try clear hcz41_2
                  try clear hcz48_0
                  try clear hcz48_1
                  try clear hcz48_2
                  try clear hcz54_0
                  try clear hcz54_1
                  try clear hcz54_2
                  try clear hcz56_0
                  try clear hcz56_1
                  try clear hcz56_2
                  try clear hcz58_0
                  try clear hcz58_1
                  try clear hcz58_2
                  try clear hcz61_0
                  try clear hcz61_1
                  try clear hcz61_2
                  try clear hfz41_0
                  try clear hfz41_1
                  try clear hfz41_2
                  try clear hfz48_0
                  try clear hfz48_1
                  try clear hfz48_2
                  try clear hfz54_0
                  try clear hfz54_1
                  try clear hfz54_2
                  try clear hfz56_0
                  try clear hfz56_1
                  try clear hfz56_2
                  try clear hfz58_0
                  try clear hfz58_1
                  try clear hfz58_2
                  try clear hfz61_0
                  try clear hfz61_1
                  try clear hfz61_2
                  try clear hx374_0
                  try clear hx374_1
                  try clear hx374_2
                  try clear p2
                  try clear p374
                  try clear q374
                  obtain ⟨kq, x9_44, rfl, HA, HJ44, BK367, BK375, HB⟩ := hcut
                  cases kq with
                  | zero => exact absurd HA.out (by simp [impl_DishesValid.j4])
                  | succ kj44 =>
                   have H := HA.out
                   clear HA
                   simp only [impl_DishesValid.j4] at H
                   by_cases c62 : ((rd_T55 ((rd_T29 l0 x21_2).f2) x61_4).f0) = 0
                   ·rw [if_pos c62] at H
                    have c62b0 : (((rd_T55 ((rd_T29 l0 x21_2).f2) x61_4).f0) == 0) = true := beq_iff_eq.mpr c62
                    have c62b1 : (((rd_T55 ((rd_T29 l0 x21_2).f2) x61_4).f0) != 0) = false := bne_eq_false_iff_eq.mpr c62
                    clear c62
                    by_cases c63 : 0 ≤ x21_2
                    ·rw [if_pos c63] at H
                     have c63b0 := eq_true c63
                     have c63b1 : decide (0 ≤ x21_2) = true := decide_eq_true c63
                     clear c63
                     by_cases c64 : x21_2 ≤ (l0.length : Int)
                     ·rw [if_pos c64] at H
                      have c64b0 := eq_true c64
                      have c64b1 : decide (x21_2 ≤ (l0.length : Int)) = true := decide_eq_true c64
                      clear c64
                      obtain ⟨y378, hy378⟩ : ∃ y_ : List (S29), y_ = (l0.take (x21_2 : Int).toNat) := ⟨_, rfl⟩
                      replace H : ((impl_DishesFind.f y378 ((rd_T55 ((rd_T29 l0 x21_2).f2) x61_4).f1)).bind fun t382 => (if t382 ≥ 0 then ((impl_within.f ((rd_T55 ((rd_T29 l0 x21_2).f2) x61_4).f2) 1 9).bind fun t383 => (if x9_44 = true then (impl_DishesValid.l1 kj44 l0 l1 x21_2 l0 (l0.length : Int) x21_2 ((rd_T29 l0 x21_2).f2) (((rd_T29 l0 x21_2).f2).length : Int) (wrap64 (x61_4 + 1))) else (if t383 = true then (impl_DishesValid.l1 kj44 l0 l1 x21_2 l0 (l0.length : Int) x21_2 ((rd_T29 l0 x21_2).f2) (((rd_T29 l0 x21_2).f2).length : Int) (wrap64 (x61_4 + 1))) else (some false)))) else (if x9_44 = true then (impl_DishesValid.l1 kj44 l0 l1 x21_2 l0 (l0.length : Int) x21_2 ((rd_T29 l0 x21_2).f2) (((rd_T29 l0 x21_2).f2).length : Int) (wrap64 (x61_4 + 1))) else (some false)))) = some r := by first | (rw [hy378]; with_reducible exact H) | (have H2_ := (Option.bind_some _ _).symm.trans H; rw [hy378]; with_reducible exact H2_) | (have H2_ := (Option.bind_some _ _).symm.trans H; with_reducible exact H2_) | with_reducible exact H | (rw [hy378]; exact H) | exact H
                      have Ny378 := Aside0.mk hy378
                      clear hy378
                      replace H := Option.bind_eq_some_iff.mp H
                      obtain ⟨t382, A650, H⟩ := H
                      replace H : (if t382 ≥ 0 then ((impl_within.f ((rd_T55 ((rd_T29 l0 x21_2).f2) x61_4).f2) 1 9).bind fun t383 => (if x9_44 = true then (impl_DishesValid.l1 kj44 l0 l1 x21_2 l0 (l0.length : Int) x21_2 ((rd_T29 l0 x21_2).f2) (((rd_T29 l0 x21_2).f2).length : Int) (wrap64 (x61_4 + 1))) else (if t383 = true then (impl_DishesValid.l1 kj44 l0 l1 x21_2 l0 (l0.length : Int) x21_2 ((rd_T29 l0 x21_2).f2) (((rd_T29 l0 x21_2).f2).length : Int) (wrap64 (x61_4 + 1))) else (some false)))) else (if x9_44 = true then (impl_DishesValid.l1 kj44 l0 l1 x21_2 l0 (l0.length : Int) x21_2 ((rd_T29 l0 x21_2).f2) (((rd_T29 l0 x21_2).f2).length : Int) (wrap64 (x61_4 + 1))) else (some false))) = some r := H
                      have A65 := Aside0.mk A650
                      clear A650
                      by_cases c66 : t382 ≥ 0
                      ·rw [if_pos c66] at H
                       have c66b0 : decide (0 ≤ t382) = true := decide_eq_true c66
                       clear c66
                       replace H := Option.bind_eq_some_iff.mp H
                       obtain ⟨t383, A670, H⟩ := H
                       replace H : (if x9_44 = true then (impl_DishesValid.l1 kj44 l0 l1 x21_2 l0 (l0.length : Int) x21_2 ((rd_T29 l0 x21_2).f2) (((rd_T29 l0 x21_2).f2).length : Int) (wrap64 (x61_4 + 1))) else (if t383 = true then (impl_DishesValid.l1 kj44 l0 l1 x21_2 l0 (l0.length : Int) x21_2 ((rd_T29 l0 x21_2).f2) (((rd_T29 l0 x21_2).f2).length : Int) (wrap64 (x61_4 + 1))) else (some false))) = some r := H
                       have A67 := Aside0.mk A670
                       clear A670
                       by_cases c68 : x9_44 = true
                       ·subst c68
                        have H1 : (impl_DishesValid.l1 kj44 l0 l1 x21_2 l0 (l0.length : Int) x21_2 ((rd_T29 l0 x21_2).f2) (((rd_T29 l0 x21_2).f2).length : Int) (wrap64 (x61_4 + 1))) = some r := by rw [if_pos rfl] at H; exact H
                        clear H
                        have H := H1
                        clear H1
                        have H' := Aside0.mk H
                        clear H
                        try go_wp2
                        have n0_ := Aside0.mk (blk_drew BK367.out)
                        have n1_ := Aside0.mk (blk_drew BK375.out)
                        have n2_ := Aside0.mk (below_drew1 HB.out)
                        clear BK367
                        clear BK375
                        clear HB
                        have BK367 := n0_
                        have BK375 := n1_
                        have HB := n2_
                        clear n0_ n1_ n2_
                        have q70 : (x21_2 : Int) ≤ ((l0.length : Int) : Int) := of_decide_eq_true pA
                        obtain ⟨i070, hi070, _, hsz70, _⟩ := info_parts info29
                        have hroom70 : l0.length ≤ c0 := HC0.out
                        have hC70 : Kd.C k29 _ (some ad366) l0.length l0 := HR0.out
                        have hcut70 := cut_to (P := Try.prog) 23 29 .i64 Try.underlying23 hi070 (some ad366) l0.length c0 x21_2 (of_decide_eq_true pA) q70 hroom70
                        have hr70 := Kd.C_take (m := (x21_2 : Int).toNat) hC70 (by omega)
                        have hy70 : y378.length = (x21_2 : Int).toNat := (by rw [Ny378.out, List.length_take]; omega)
                        rw [← Ny378.out] at hr70
                        rw [← hy70] at hcut70
                        have HR381 := Aside0.mk hr70
                        have HC381 := Aside0.mk (show y378.length ≤ c0 from by omega)
                        clear hr70 hC70 hroom70 hi070 hsz70
                        have KY70 := Aside0.mk hy70
                        clear hy70
                        replace q70 := eq_true q70
                        refine start_ (n := 18) (S := fun w' => w'.cell? ⟨gb375, 0, none⟩ = some (.int .i64 ((rd_T55 ((rd_T29 l0 x21_2).f2) x61_4).f0)) ∧ w'.cell? ⟨gb375, 1, none⟩ = some (.int .i64 ((rd_T55 ((rd_T29 l0 x21_2).f2) x61_4).f1)) ∧ w'.cell? ⟨gb375, 2, none⟩ = some (.int .i64 ((rd_T55 ((rd_T29 l0 x21_2).f2) x61_4).f2))) (ds := []) #[false, false, false, false, false, false, false, false, false, false, false, false, false, false, false, false, false, false] pL rfl rfl ⟨(blk_cell BK375.out 0).trans rfl, (blk_cell BK375.out 1).trans rfl, (blk_cell BK375.out 2).trans rfl⟩ (fun hHeld => ?_); refine with_tabW impl_DishesValid.tab12 impl_DishesValid.bits12 (fun HT_ HW_ => ?_)
                        generalize wc.drew = w69 at BK367 BK375 HB HR381 hHeld ⊢
                        refine pu 0 (some 80) impl_DishesValid.b0 HT_ rfl rfl pL (fun _ _ _ h => h) (by rfl) pY pP ?_
                        refine tk 1 (some 81) impl_DishesValid.b1 HT_ HW_ rfl rfl pL (fun _ _ _ h => h) (by rfl) (by rintro w' ⟨s0, s1, s2⟩; go_simp; with_reducible rfl) hHeld pP ?_
                        refine pu 2 (some 82) impl_DishesValid.b2 HT_ rfl rfl pL (fun _ _ _ h => h) (by rfl) pY pP ?_
                        refine pu 3 (some 83) impl_DishesValid.b3 HT_ rfl rfl pL (fun _ _ _ h => h) (by rfl) pY pP ?_
                        refine pu 4 (some 84) impl_DishesValid.b4 HT_ rfl rfl pL (fun _ _ _ h => h) (by rfl) pY pP ?_
                        refine pu 5 (some 85) impl_DishesValid.b5 HT_ rfl rfl pL (fun _ _ _ h => h) (by rfl) pY pP ?_
                        refine pu 6 (some 86) impl_DishesValid.b6 HT_ rfl rfl pL (fun _ _ _ h => h) (by rfl) pY pP ?_
                        refine pu 7 (some 87) impl_DishesValid.b7 HT_ rfl rfl pL (fun _ _ _ h => h) (by rfl) pY pP ?_
                        refine tk 8 (some 88) impl_DishesValid.b8 HT_ HW_ rfl rfl pL (fun _ _ _ h => h) (by rfl) (by rintro w' ⟨s0, s1, s2⟩; go_simp; with_reducible rfl) hHeld pP ?_
                        refine one_ (i := 9) (N := some 89) impl_DishesValid.b9 rfl rfl (one_of HT_.out pL) (by decide) (fun K hK => ?_)
                        refine goes_ Try.func20 pL rfl #[.slice (some ad366) y378.length c0, .int .i64 ((rd_T55 ((rd_T29 l0 x21_2).f2) x61_4).f1)] (by rfl) rfl rfl pM ?_
                        with_reducible refine (impl_DishesFind.calls _ _ y378 ((rd_T55 ((rd_T29 l0 x21_2).f2) x61_4).f1) t382 _ ?side1 ?side2 A65.out).mono ?_
                        (case side1 => exact pS ((Kd.C_below HR381.out HB.out)))
                        (case side2 => exact HC381.out)
                        rintro e w71 ⟨rfl, hb⟩
                        refine ⟨_, rfl, ?_⟩
                        have n0_ := Aside0.mk (blk_below (g := gb367) (o := .cells #[.int .i64 ((rd_T29 l0 x21_2).f0), .int .i64 ((rd_T29 l0 x21_2).f1), .slice (some ad374) ((rd_T29 l0 x21_2).f2).length c366_2] 29 (0, 0)) (pC BK367) hb)
                        have n1_ := Aside0.mk (blk_below (g := gb375) (o := .cells #[.int .i64 ((rd_T55 ((rd_T29 l0 x21_2).f2) x61_4).f0), .int .i64 ((rd_T55 ((rd_T29 l0 x21_2).f2) x61_4).f1), .int .i64 ((rd_T55 ((rd_T29 l0 x21_2).f2) x61_4).f2)] 55 (0, 0)) (pC BK375) hb)
                        have n2_ := Aside0.mk (below_step (by repeat (first | (with_reducible first | exact HB.out | apply below_alloc | apply pw_below_drewN | apply below_drew1 | refine below_set ?_ GE367.out | refine below_set ?_ GE375.out) | exact HB.out)) hb)
                        clear BK367
                        clear BK375
                        clear HB
                        have BK367 := n0_
                        have BK375 := n1_
                        have HB := n2_
                        clear n0_ n1_ n2_
                        (try clear hb)
                        (try clear hb2)
                        (try clear hk)
                        (try clear hi)
                        refine hK.out _ _ ⟨(blk_cell BK375.out 0).trans rfl, (blk_cell BK375.out 1).trans rfl, (blk_cell BK375.out 2).trans rfl⟩ (fun hHeld => ?_)
                        clear hK K
                        refine norm_ (a' := ?_) ?_ ?_
                        rotate_left
                        ·show Act.put _ (some 89) _ = _
                         exact pP
                        refine pu 10 (some 90) impl_DishesValid.b10 HT_ rfl rfl pL (fun _ _ _ h => h) (by rfl) pY pP ?_
                        refine pu 11 (some 91) impl_DishesValid.b11 HT_ rfl rfl pL (fun _ _ _ h => h) (by rfl) pY pP ?_
                        refine pu 12 (some 92) impl_DishesValid.b12 HT_ rfl rfl pL (fun _ _ _ h => h) (by rfl) pY pP ?_
                        refine pu 13 (some 93) impl_DishesValid.b13 HT_ rfl rfl pL (fun _ _ _ h => h) (by rfl) pY pP ?_
                        refine tk 14 (some 94) impl_DishesValid.b14 HT_ HW_ rfl rfl pL (fun _ _ _ h => h) (by rfl) (by rintro w' ⟨s0, s1, s2⟩; go_simp; with_reducible rfl) hHeld pP ?_
                        refine one_ (i := 15) (N := some 95) impl_DishesValid.b15 rfl rfl (one_of HT_.out pL) (by decide) (fun K hK => ?_)
                        refine goes_ Try.func76 pL rfl #[.int .i64 ((rd_T55 ((rd_T29 l0 x21_2).f2) x61_4).f2), .int .i64 1, .int .i64 9] (by rfl) rfl rfl pM ?_
                        with_reducible refine (impl_within.calls ((rd_T55 ((rd_T29 l0 x21_2).f2) x61_4).f2) 1 9 t383 _ A67.out).mono ?_
                        rintro e w' ⟨rfl, ⟨nd, rfl⟩⟩
                        refine ⟨_, rfl, ?_⟩
                        refine hK.out _ _ ⟨(blk_cell BK375.out 0).trans rfl, (blk_cell BK375.out 1).trans rfl, (blk_cell BK375.out 2).trans rfl⟩ (fun hHeld => ?_)
                        clear hK K
                        refine norm_ (a' := ?_) ?_ ?_
                        rotate_left
                        ·show Act.put _ (some 95) _ = _
                         exact pP
                        refine pu 16 (some 96) impl_DishesValid.b16 HT_ rfl rfl pL (fun _ _ _ h => h) (by rfl) pY pP ?_
                        refine pu 17 (some 10) impl_DishesValid.b17 HT_ rfl rfl pL (fun _ _ _ h => h) (by rfl) pY pP ?_
                        refine done_ (done_of HT_.out pL) ?_
                        try go_wp2
                        go_roundg kj44
                        case measure => have := HJ2.out; have := HK2.out; have := HJ11.out; have := HK4.out; have := HJ44.out; omega
                        case rel => exact ⟨(wrap64 (x61_4 + 1)), pF, H', ⟨by have := HJ2.out; have := HK2.out; have := HJ11.out; have := HK4.out; have := HJ44.out; omega⟩, ⟨pC BK367⟩, ⟨by repeat (first | (with_reducible first | exact HB.out | apply below_alloc | apply pw_below_drewN | apply below_drew1 | refine below_set ?_ GE367.out | refine below_set ?_ GE375.out) | exact HB.out)⟩⟩
                       ·replace c68 := Bool.eq_false_iff.mpr c68
                        subst c68
                        have H1 : (if t383 = true then (impl_DishesValid.l1 kj44 l0 l1 x21_2 l0 (l0.length : Int) x21_2 ((rd_T29 l0 x21_2).f2) (((rd_T29 l0 x21_2).f2).length : Int) (wrap64 (x61_4 + 1))) else (some false)) = some r := by rw [if_neg (show ¬ (false = true) by decide)] at H; exact H
                        clear H
                        have H := H1
                        clear H1
                        by_cases c72 : t383 = true
                        ·subst c72
                         have H1 : (impl_DishesValid.l1 kj44 l0 l1 x21_2 l0 (l0.length : Int) x21_2 ((rd_T29 l0 x21_2).f2) (((rd_T29 l0 x21_2).f2).length : Int) (wrap64 (x61_4 + 1))) = some r := by rw [if_pos rfl] at H; exact H
                         clear H
                         have H := H1
                         clear H1
                         have H' := Aside0.mk H
                         clear H
                         try go_wp2
                         have n0_ := Aside0.mk (blk_drew BK367.out)
                         have n1_ := Aside0.mk (blk_drew BK375.out)
                         have n2_ := Aside0.mk (below_drew1 HB.out)
                         clear BK367
                         clear BK375
                         clear HB
                         have BK367 := n0_
                         have BK375 := n1_
                         have HB := n2_
                         clear n0_ n1_ n2_
                         have q74 : (x21_2 : Int) ≤ ((l0.length : Int) : Int) := of_decide_eq_true pA
                         obtain ⟨i074, hi074, _, hsz74, _⟩ := info_parts info29
                         have hroom74 : l0.length ≤ c0 := HC0.out
                         have hC74 : Kd.C k29 _ (some ad366) l0.length l0 := HR0.out
                         have hcut74 := cut_to (P := Try.prog) 23 29 .i64 Try.underlying23 hi074 (some ad366) l0.length c0 x21_2 (of_decide_eq_true pA) q74 hroom74
                         have hr74 := Kd.C_take (m := (x21_2 : Int).toNat) hC74 (by omega)
                         have hy74 : y378.length = (x21_2 : Int).toNat := (by rw [Ny378.out, List.length_take]; omega)
                         rw [← Ny378.out] at hr74
                         rw [← hy74] at hcut74
                         have HR381 := Aside0.mk hr74
                         have HC381 := Aside0.mk (show y378.length ≤ c0 from by omega)
                         clear hr74 hC74 hroom74 hi074 hsz74
                         have KY74 := Aside0.mk hy74
                         clear hy74
                         replace q74 := eq_true q74
                         refine start_ (n := 18) (S := fun w' => w'.cell? ⟨gb375, 0, none⟩ = some (.int .i64 ((rd_T55 ((rd_T29 l0 x21_2).f2) x61_4).f0)) ∧ w'.cell? ⟨gb375, 1, none⟩ = some (.int .i64 ((rd_T55 ((rd_T29 l0 x21_2).f2) x61_4).f1)) ∧ w'.cell? ⟨gb375, 2, none⟩ = some (.int .i64 ((rd_T55 ((rd_T29 l0 x21_2).f2) x61_4).f2))) (ds := []) #[false, false, false, false, false, false, false, false, false, false, false, false, false, false, false, false, false, false] pL rfl rfl ⟨(blk_cell BK375.out 0).trans rfl, (blk_cell BK375.out 1).trans rfl, (blk_cell BK375.out 2).trans rfl⟩ (fun hHeld => ?_); refine with_tabW impl_DishesValid.tab12 impl_DishesValid.bits12 (fun HT_ HW_ => ?_)
                         generalize wc.drew = w73 at BK367 BK375 HB HR381 hHeld ⊢
                         refine pu 0 (some 80) impl_DishesValid.b0 HT_ rfl rfl pL (fun _ _ _ h => h) (by rfl) pY pP ?_
                         refine tk 1 (some 81) impl_DishesValid.b1 HT_ HW_ rfl rfl pL (fun _ _ _ h => h) (by rfl) (by rintro w' ⟨s0, s1, s2⟩; go_simp; with_reducible rfl) hHeld pP ?_
                         refine pu 2 (some 82) impl_DishesValid.b2 HT_ rfl rfl pL (fun _ _ _ h => h) (by rfl) pY pP ?_
                         refine pu 3 (some 83) impl_DishesValid.b3 HT_ rfl rfl pL (fun _ _ _ h => h) (by rfl) pY pP ?_
                         refine pu 4 (some 84) impl_DishesValid.b4 HT_ rfl rfl pL (fun _ _ _ h => h) (by rfl) pY pP ?_
                         refine pu 5 (some 85) impl_DishesValid.b5 HT_ rfl rfl pL (fun _ _ _ h => h) (by rfl) pY pP ?_
                         refine pu 6 (some 86) impl_DishesValid.b6 HT_ rfl rfl pL (fun _ _ _ h => h) (by rfl) pY pP ?_
                         refine pu 7 (some 87) impl_DishesValid.b7 HT_ rfl rfl pL (fun _ _ _ h => h) (by rfl) pY pP ?_
                         refine tk 8 (some 88) impl_DishesValid.b8 HT_ HW_ rfl rfl pL (fun _ _ _ h => h) (by rfl) (by rintro w' ⟨s0, s1, s2⟩; go_simp; with_reducible rfl) hHeld pP ?_
                         refine one_ (i := 9) (N := some 89) impl_DishesValid.b9 rfl rfl (one_of HT_.out pL) (by decide) (fun K hK => ?_)
                         refine goes_ Try.func20 pL rfl #[.slice (some ad366) y378.length c0, .int .i64 ((rd_T55 ((rd_T29 l0 x21_2).f2) x61_4).f1)] (by rfl) rfl rfl pM ?_
                         with_reducible refine (impl_DishesFind.calls _ _ y378 ((rd_T55 ((rd_T29 l0 x21_2).f2) x61_4).f1) t382 _ ?side1 ?side2 A65.out).mono ?_
                         (case side1 => exact pS ((Kd.C_below HR381.out HB.out)))
                         (case side2 => exact HC381.out)
                         rintro e w75 ⟨rfl, hb⟩
                         refine ⟨_, rfl, ?_⟩
                         have n0_ := Aside0.mk (blk_below (g := gb367) (o := .cells #[.int .i64 ((rd_T29 l0 x21_2).f0), .int .i64 ((rd_T29 l0 x21_2).f1), .slice (some ad374) ((rd_T29 l0 x21_2).f2).length c366_2] 29 (0, 0)) (pC BK367) hb)
                         have n1_ := Aside0.mk (blk_below (g := gb375) (o := .cells #[.int .i64 ((rd_T55 ((rd_T29 l0 x21_2).f2) x61_4).f0), .int .i64 ((rd_T55 ((rd_T29 l0 x21_2).f2) x61_4).f1), .int .i64 ((rd_T55 ((rd_T29 l0 x21_2).f2) x61_4).f2)] 55 (0, 0)) (pC BK375) hb)
                         have n2_ := Aside0.mk (below_step (by repeat (first | (with_reducible first | exact HB.out | apply below_alloc | apply pw_below_drewN | apply below_drew1 | refine below_set ?_ GE367.out | refine below_set ?_ GE375.out) | exact HB.out)) hb)
                         clear BK367
                         clear BK375
                         clear HB
                         have BK367 := n0_
                         have BK375 := n1_
                         have HB := n2_
                         clear n0_ n1_ n2_
                         (try clear hb)
                         (try clear hb2)
                         (try clear hk)
                         (try clear hi)
                         refine hK.out _ _ ⟨(blk_cell BK375.out 0).trans rfl, (blk_cell BK375.out 1).trans rfl, (blk_cell BK375.out 2).trans rfl⟩ (fun hHeld => ?_)
                         clear hK K
                         refine norm_ (a' := ?_) ?_ ?_
                         rotate_left
                         ·show Act.put _ (some 89) _ = _
                          exact pP
                         refine pu 10 (some 90) impl_DishesValid.b10 HT_ rfl rfl pL (fun _ _ _ h => h) (by rfl) pY pP ?_
                         refine pu 11 (some 91) impl_DishesValid.b11 HT_ rfl rfl pL (fun _ _ _ h => h) (by rfl) pY pP ?_
                         refine pu 12 (some 92) impl_DishesValid.b12 HT_ rfl rfl pL (fun _ _ _ h => h) (by rfl) pY pP ?_
                         refine pu 13 (some 93) impl_DishesValid.b13 HT_ rfl rfl pL (fun _ _ _ h => h) (by rfl) pY pP ?_
                         refine tk 14 (some 94) impl_DishesValid.b14 HT_ HW_ rfl rfl pL (fun _ _ _ h => h) (by rfl) (by rintro w' ⟨s0, s1, s2⟩; go_simp; with_reducible rfl) hHeld pP ?_
                         refine one_ (i := 15) (N := some 95) impl_DishesValid.b15 rfl rfl (one_of HT_.out pL) (by decide) (fun K hK => ?_)
                         refine goes_ Try.func76 pL rfl #[.int .i64 ((rd_T55 ((rd_T29 l0 x21_2).f2) x61_4).f2), .int .i64 1, .int .i64 9] (by rfl) rfl rfl pM ?_
                         with_reducible refine (impl_within.calls ((rd_T55 ((rd_T29 l0 x21_2).f2) x61_4).f2) 1 9 true _ A67.out).mono ?_
                         rintro e w' ⟨rfl, ⟨nd, rfl⟩⟩
                         refine ⟨_, rfl, ?_⟩
                         refine hK.out _ _ ⟨(blk_cell BK375.out 0).trans rfl, (blk_cell BK375.out 1).trans rfl, (blk_cell BK375.out 2).trans rfl⟩ (fun hHeld => ?_)
                         clear hK K
                         refine norm_ (a' := ?_) ?_ ?_
                         rotate_left
                         ·show Act.put _ (some 95) _ = _
                          exact pP
                         refine pu 16 (some 96) impl_DishesValid.b16 HT_ rfl rfl pL (fun _ _ _ h => h) (by rfl) pY pP ?_
                         refine pu 17 (some 10) impl_DishesValid.b17 HT_ rfl rfl pL (fun _ _ _ h => h) (by rfl) pY pP ?_
                         refine done_ (done_of HT_.out pL) ?_
                         try go_wp2
                         go_roundg kj44
                         case measure => have := HJ2.out; have := HK2.out; have := HJ11.out; have := HK4.out; have := HJ44.out; omega
                         case rel => exact ⟨(wrap64 (x61_4 + 1)), pF, H', ⟨by have := HJ2.out; have := HK2.out; have := HJ11.out; have := HK4.out; have := HJ44.out; omega⟩, ⟨pC BK367⟩, ⟨by repeat (first | (with_reducible first | exact HB.out | apply below_alloc | apply pw_below_drewN | apply below_drew1 | refine below_set ?_ GE367.out | refine below_set ?_ GE375.out) | exact HB.out)⟩⟩
                        ·replace c72 := Bool.eq_false_iff.mpr c72
                         subst c72
                         have H1 : (some false) = some r := by rw [if_neg (show ¬ (false = true) by decide)] at H; exact H
                         clear H
                         have H := H1
                         clear H1
                         obtain rfl := Option.some.inj H
                         try go_wp2
                         have n0_ := Aside0.mk (blk_drew BK367.out)
                         have n1_ := Aside0.mk (blk_drew BK375.out)
                         have n2_ := Aside0.mk (below_drew1 HB.out)
                         clear BK367
                         clear BK375
                         clear HB
                         have BK367 := n0_
                         have BK375 := n1_
                         have HB := n2_
                         clear n0_ n1_ n2_
                         have q77 : (x21_2 : Int) ≤ ((l0.length : Int) : Int) := of_decide_eq_true pA
                         obtain ⟨i077, hi077, _, hsz77, _⟩ := info_parts info29
                         have hroom77 : l0.length ≤ c0 := HC0.out
                         have hC77 : Kd.C k29 _ (some ad366) l0.length l0 := HR0.out
                         have hcut77 := cut_to (P := Try.prog) 23 29 .i64 Try.underlying23 hi077 (some ad366) l0.length c0 x21_2 (of_decide_eq_true pA) q77 hroom77
                         have hr77 := Kd.C_take (m := (x21_2 : Int).toNat) hC77 (by omega)
                         have hy77 : y378.length = (x21_2 : Int).toNat := (by rw [Ny378.out, List.length_take]; omega)
                         rw [← Ny378.out] at hr77
                         rw [← hy77] at hcut77
                         have HR381 := Aside0.mk hr77
                         have HC381 := Aside0.mk (show y378.length ≤ c0 from by omega)
                         clear hr77 hC77 hroom77 hi077 hsz77
                         have KY77 := Aside0.mk hy77
                         clear hy77
                         replace q77 := eq_true q77
                         refine start_ (n := 18) (S := fun w' => w'.cell? ⟨gb375, 0, none⟩ = some (.int .i64 ((rd_T55 ((rd_T29 l0 x21_2).f2) x61_4).f0)) ∧ w'.cell? ⟨gb375, 1, none⟩ = some (.int .i64 ((rd_T55 ((rd_T29 l0 x21_2).f2) x61_4).f1)) ∧ w'.cell? ⟨gb375, 2, none⟩ = some (.int .i64 ((rd_T55 ((rd_T29 l0 x21_2).f2) x61_4).f2))) (ds := []) #[false, false, false, false, false, false, false, false, false, false, false, false, false, false, false, false, false, false] pL rfl rfl ⟨(blk_cell BK375.out 0).trans rfl, (blk_cell BK375.out 1).trans rfl, (blk_cell BK375.out 2).trans rfl⟩ (fun hHeld => ?_); refine with_tabW impl_DishesValid.tab12 impl_DishesValid.bits12 (fun HT_ HW_ => ?_)
                         generalize wc.drew = w76 at BK367 BK375 HB HR381 hHeld ⊢
                         refine pu 0 (some 80) impl_DishesValid.b0 HT_ rfl rfl pL (fun _ _ _ h => h) (by rfl) pY pP ?_
                         refine tk 1 (some 81) impl_DishesValid.b1 HT_ HW_ rfl rfl pL (fun _ _ _ h => h) (by rfl) (by rintro w' ⟨s0, s1, s2⟩; go_simp; with_reducible rfl) hHeld pP ?_
                         refine pu 2 (some 82) impl_DishesValid.b2 HT_ rfl rfl pL (fun _ _ _ h => h) (by rfl) pY pP ?_
                         refine pu 3 (some 83) impl_DishesValid.b3 HT_ rfl rfl pL (fun _ _ _ h => h) (by rfl) pY pP ?_
                         refine pu 4 (some 84) impl_DishesValid.b4 HT_ rfl rfl pL (fun _ _ _ h => h) (by rfl) pY pP ?_
                         refine pu 5 (some 85) impl_DishesValid.b5 HT_ rfl rfl pL (fun _ _ _ h => h) (by rfl) pY pP ?_
                         refine pu 6 (some 86) impl_DishesValid.b6 HT_ rfl rfl pL (fun _ _ _ h => h) (by rfl) pY pP ?_
                         refine pu 7 (some 87) impl_DishesValid.b7 HT_ rfl rfl pL (fun _ _ _ h => h) (by rfl) pY pP ?_
                         refine tk 8 (some 88) impl_DishesValid.b8 HT_ HW_ rfl rfl pL (fun _ _ _ h => h) (by rfl) (by rintro w' ⟨s0, s1, s2⟩; go_simp; with_reducible rfl) hHeld pP ?_
                         refine one_ (i := 9) (N := some 89) impl_DishesValid.b9 rfl rfl (one_of HT_.out pL) (by decide) (fun K hK => ?_)
                         refine goes_ Try.func20 pL rfl #[.slice (some ad366) y378.length c0, .int .i64 ((rd_T55 ((rd_T29 l0 x21_2).f2) x61_4).f1)] (by rfl) rfl rfl pM ?_
                         with_reducible refine (impl_DishesFind.calls _ _ y378 ((rd_T55 ((rd_T29 l0 x21_2).f2) x61_4).f1) t382 _ ?side1 ?side2 A65.out).mono ?_
                         (case side1 => exact pS ((Kd.C_below HR381.out HB.out)))
                         (case side2 => exact HC381.out)
                         rintro e w78 ⟨rfl, hb⟩
                         refine ⟨_, rfl, ?_⟩
                         have n0_ := Aside0.mk (blk_below (g := gb367) (o := .cells #[.int .i64 ((rd_T29 l0 x21_2).f0), .int .i64 ((rd_T29 l0 x21_2).f1), .slice (some ad374) ((rd_T29 l0 x21_2).f2).length c366_2] 29 (0, 0)) (pC BK367) hb)
                         have n1_ := Aside0.mk (blk_below (g := gb375) (o := .cells #[.int .i64 ((rd_T55 ((rd_T29 l0 x21_2).f2) x61_4).f0), .int .i64 ((rd_T55 ((rd_T29 l0 x21_2).f2) x61_4).f1), .int .i64 ((rd_T55 ((rd_T29 l0 x21_2).f2) x61_4).f2)] 55 (0, 0)) (pC BK375) hb)
                         have n2_ := Aside0.mk (below_step (by repeat (first | (with_reducible first | exact HB.out | apply below_alloc | apply pw_below_drewN | apply below_drew1 | refine below_set ?_ GE367.out | refine below_set ?_ GE375.out) | exact HB.out)) hb)
                         clear BK367
                         clear BK375
                         clear HB
                         have BK367 := n0_
                         have BK375 := n1_
                         have HB := n2_
                         clear n0_ n1_ n2_
                         (try clear hb)
                         (try clear hb2)
                         (try clear hk)
                         (try clear hi)
                         refine hK.out _ _ ⟨(blk_cell BK375.out 0).trans rfl, (blk_cell BK375.out 1).trans rfl, (blk_cell BK375.out 2).trans rfl⟩ (fun hHeld => ?_)
                         clear hK K
                         refine norm_ (a' := ?_) ?_ ?_
                         rotate_left
                         ·show Act.put _ (some 89) _ = _
                          exact pP
                         refine pu 10 (some 90) impl_DishesValid.b10 HT_ rfl rfl pL (fun _ _ _ h => h) (by rfl) pY pP ?_
                         refine pu 11 (some 91) impl_DishesValid.b11 HT_ rfl rfl pL (fun _ _ _ h => h) (by rfl) pY pP ?_
                         refine pu 12 (some 92) impl_DishesValid.b12 HT_ rfl rfl pL (fun _ _ _ h => h) (by rfl) pY pP ?_
                         refine pu 13 (some 93) impl_DishesValid.b13 HT_ rfl rfl pL (fun _ _ _ h => h) (by rfl) pY pP ?_
                         refine tk 14 (some 94) impl_DishesValid.b14 HT_ HW_ rfl rfl pL (fun _ _ _ h => h) (by rfl) (by rintro w' ⟨s0, s1, s2⟩; go_simp; with_reducible rfl) hHeld pP ?_
                         refine one_ (i := 15) (N := some 95) impl_DishesValid.b15 rfl rfl (one_of HT_.out pL) (by decide) (fun K hK => ?_)
                         refine goes_ Try.func76 pL rfl #[.int .i64 ((rd_T55 ((rd_T29 l0 x21_2).f2) x61_4).f2), .int .i64 1, .int .i64 9] (by rfl) rfl rfl pM ?_
                         with_reducible refine (impl_within.calls ((rd_T55 ((rd_T29 l0 x21_2).f2) x61_4).f2) 1 9 false _ A67.out).mono ?_
                         rintro e w' ⟨rfl, ⟨nd, rfl⟩⟩
                         refine ⟨_, rfl, ?_⟩
                         refine hK.out _ _ ⟨(blk_cell BK375.out 0).trans rfl, (blk_cell BK375.out 1).trans rfl, (blk_cell BK375.out 2).trans rfl⟩ (fun hHeld => ?_)
                         clear hK K
                         refine norm_ (a' := ?_) ?_ ?_
                         rotate_left
                         ·show Act.put _ (some 95) _ = _
                          exact pP
                         refine pu 16 (some 96) impl_DishesValid.b16 HT_ rfl rfl pL (fun _ _ _ h => h) (by rfl) pY pP ?_
                         refine pu 17 (some 10) impl_DishesValid.b17 HT_ rfl rfl pL (fun _ _ _ h => h) (by rfl) pY pP ?_
                         refine done_ (done_of HT_.out pL) ?_
                         try go_wp2
                         go_ret
                         exact ⟨pE, by repeat (first | (with_reducible first | exact HB.out | apply below_alloc | apply pw_below_drewN | apply below_drew1 | refine below_set ?_ GE367.out | refine below_set ?_ GE375.out) | exact HB.out)⟩
                      ·rw [if_neg c66] at H
                       have c66b0 : decide (0 ≤ t382) = false := decide_eq_false c66
                       clear c66
                       by_cases c79 : x9_44 = true
                       ·subst c79
                        have H1 : (impl_DishesValid.l1 kj44 l0 l1 x21_2 l0 (l0.length : Int) x21_2 ((rd_T29 l0 x21_2).f2) (((rd_T29 l0 x21_2).f2).length : Int) (wrap64 (x61_4 + 1))) = some r := by rw [if_pos rfl] at H; exact H
                        clear H
                        have H := H1
                        clear H1
                        have H' := Aside0.mk H
                        clear H
                        try go_wp2
                        have n0_ := Aside0.mk (blk_drew BK367.out)
                        have n1_ := Aside0.mk (blk_drew BK375.out)
                        have n2_ := Aside0.mk (below_drew1 HB.out)
                        clear BK367
                        clear BK375
                        clear HB
                        have BK367 := n0_
                        have BK375 := n1_
                        have HB := n2_
                        clear n0_ n1_ n2_
                        have q81 : (x21_2 : Int) ≤ ((l0.length : Int) : Int) := of_decide_eq_true pA
                        obtain ⟨i081, hi081, _, hsz81, _⟩ := info_parts info29
                        have hroom81 : l0.length ≤ c0 := HC0.out
                        have hC81 : Kd.C k29 _ (some ad366) l0.length l0 := HR0.out
                        have hcut81 := cut_to (P := Try.prog) 23 29 .i64 Try.underlying23 hi081 (some ad366) l0.length c0 x21_2 (of_decide_eq_true pA) q81 hroom81
                        have hr81 := Kd.C_take (m := (x21_2 : Int).toNat) hC81 (by omega)
                        have hy81 : y378.length = (x21_2 : Int).toNat := (by rw [Ny378.out, List.length_take]; omega)
                        rw [← Ny378.out] at hr81
                        rw [← hy81] at hcut81
                        have HR381 := Aside0.mk hr81
                        have HC381 := Aside0.mk (show y378.length ≤ c0 from by omega)
                        clear hr81 hC81 hroom81 hi081 hsz81
                        have KY81 := Aside0.mk hy81
                        clear hy81
                        replace q81 := eq_true q81
                        refine start_ (n := 18) (S := fun w' => w'.cell? ⟨gb375, 0, none⟩ = some (.int .i64 ((rd_T55 ((rd_T29 l0 x21_2).f2) x61_4).f0)) ∧ w'.cell? ⟨gb375, 1, none⟩ = some (.int .i64 ((rd_T55 ((rd_T29 l0 x21_2).f2) x61_4).f1)) ∧ w'.cell? ⟨gb375, 2, none⟩ = some (.int .i64 ((rd_T55 ((rd_T29 l0 x21_2).f2) x61_4).f2))) (ds := []) #[false, false, false, false, false, false, false, false, false, false, false, false, false, false, false, false, false, false] pL rfl rfl ⟨(blk_cell BK375.out 0).trans rfl, (blk_cell BK375.out 1).trans rfl, (blk_cell BK375.out 2).trans rfl⟩ (fun hHeld => ?_); refine with_tabW impl_DishesValid.tab12 impl_DishesValid.bits12 (fun HT_ HW_ => ?_)
                        generalize wc.drew = w80 at BK367 BK375 HB HR381 hHeld ⊢
                        refine pu 0 (some 80) impl_DishesValid.b0 HT_ rfl rfl pL (fun _ _ _ h => h) (by rfl) pY pP ?_
                        refine tk 1 (some 81) impl_DishesValid.b1 HT_ HW_ rfl rfl pL (fun _ _ _ h => h) (by rfl) (by rintro w' ⟨s0, s1, s2⟩; go_simp; with_reducible rfl) hHeld pP ?_
                        refine pu 2 (some 82) impl_DishesValid.b2 HT_ rfl rfl pL (fun _ _ _ h => h) (by rfl) pY pP ?_
                        refine pu 3 (some 83) impl_DishesValid.b3 HT_ rfl rfl pL (fun _ _ _ h => h) (by rfl) pY pP ?_
                        refine pu 4 (some 84) impl_DishesValid.b4 HT_ rfl rfl pL (fun _ _ _ h => h) (by rfl) pY pP ?_
                        refine pu 5 (some 85) impl_DishesValid.b5 HT_ rfl rfl pL (fun _ _ _ h => h) (by rfl) pY pP ?_
                        refine pu 6 (some 86) impl_DishesValid.b6 HT_ rfl rfl pL (fun _ _ _ h => h) (by rfl) pY pP ?_
                        refine pu 7 (some 87) impl_DishesValid.b7 HT_ rfl rfl pL (fun _ _ _ h => h) (by rfl) pY pP ?_
                        refine tk 8 (some 88) impl_DishesValid.b8 HT_ HW_ rfl rfl pL (fun _ _ _ h => h) (by rfl) (by rintro w' ⟨s0, s1, s2⟩; go_simp; with_reducible rfl) hHeld pP ?_
                        refine one_ (i := 9) (N := some 89) impl_DishesValid.b9 rfl rfl (one_of HT_.out pL) (by decide) (fun K hK => ?_)
                        refine goes_ Try.func20 pL rfl #[.slice (some ad366) y378.length c0, .int .i64 ((rd_T55 ((rd_T29 l0 x21_2).f2) x61_4).f1)] (by rfl) rfl rfl pM ?_
                        with_reducible refine (impl_DishesFind.calls _ _ y378 ((rd_T55 ((rd_T29 l0 x21_2).f2) x61_4).f1) t382 _ ?side1 ?side2 A65.out).mono ?_
                        (case side1 => exact pS ((Kd.C_below HR381.out HB.out)))
                        (case side2 => exact HC381.out)
                        rintro e w82 ⟨rfl, hb⟩
                        refine ⟨_, rfl, ?_⟩
                        have n0_ := Aside0.mk (blk_below (g := gb367) (o := .cells #[.int .i64 ((rd_T29 l0 x21_2).f0), .int .i64 ((rd_T29 l0 x21_2).f1), .slice (some ad374) ((rd_T29 l0 x21_2).f2).length c366_2] 29 (0, 0)) (pC BK367) hb)
                        have n1_ := Aside0.mk (blk_below (g := gb375) (o := .cells #[.int .i64 ((rd_T55 ((rd_T29 l0 x21_2).f2) x61_4).f0), .int .i64 ((rd_T55 ((rd_T29 l0 x21_2).f2) x61_4).f1), .int .i64 ((rd_T55 ((rd_T29 l0 x21_2).f2) x61_4).f2)] 55 (0, 0)) (pC BK375) hb)
                        have n2_ := Aside0.mk (below_step (by repeat (first | (with_reducible first | exact HB.out | apply below_alloc | apply pw_below_drewN | apply below_drew1 | refine below_set ?_ GE367.out | refine below_set ?_ GE375.out) | exact HB.out)) hb)
                        clear BK367
                        clear BK375
                        clear HB
                        have BK367 := n0_
                        have BK375 := n1_
                        have HB := n2_
                        clear n0_ n1_ n2_
                        (try clear hb)
                        (try clear hb2)
                        (try clear hk)
                        (try clear hi)
                        refine hK.out _ _ ⟨(blk_cell BK375.out 0).trans rfl, (blk_cell BK375.out 1).trans rfl, (blk_cell BK375.out 2).trans rfl⟩ (fun hHeld => ?_)
                        clear hK K
                        refine norm_ (a' := ?_) ?_ ?_
                        rotate_left
                        ·show Act.put _ (some 89) _ = _
                         exact pP
                        refine pu 10 (some 90) impl_DishesValid.b10 HT_ rfl rfl pL (fun _ _ _ h => h) (by rfl) pY pP ?_
                        refine pu 11 (some 91) impl_DishesValid.b11 HT_ rfl rfl pL (fun _ _ _ h => h) (by rfl) pY pP ?_
                        refine pu 12 (some 92) impl_DishesValid.b12 HT_ rfl rfl pL (fun _ _ _ h => h) (by rfl) pY pP ?_
                        refine un 13 (some 93) impl_DishesValid.b13 HT_ rfl rfl pL (fun _ _ _ h => h) (by rfl) pP ?_
                        refine un 14 (some 94) impl_DishesValid.b14 HT_ rfl rfl pL (fun _ _ _ h => h) (by rfl) pP ?_
                        refine un 15 (some 95) impl_DishesValid.b15 HT_ rfl rfl pL (fun _ _ _ h => h) (by rfl) pP ?_
                        refine pu 16 (some 96) impl_DishesValid.b16 HT_ rfl rfl pL (fun _ _ _ h => h) (by rfl) pY pP ?_
                        refine pu 17 (some 10) impl_DishesValid.b17 HT_ rfl rfl pL (fun _ _ _ h => h) (by rfl) pY pP ?_
                        refine done_ (done_of HT_.out pL) ?_
                        try go_wp2
                        go_roundg kj44
                        case measure => have := HJ2.out; have := HK2.out; have := HJ11.out; have := HK4.out; have := HJ44.out; omega
                        case rel => exact ⟨(wrap64 (x61_4 + 1)), pF, H', ⟨by have := HJ2.out; have := HK2.out; have := HJ11.out; have := HK4.out; have := HJ44.out; omega⟩, ⟨pC BK367⟩, ⟨by repeat (first | (with_reducible first | exact HB.out | apply below_alloc | apply pw_below_drewN | apply below_drew1 | refine below_set ?_ GE367.out | refine below_set ?_ GE375.out) | exact HB.out)⟩⟩
                       ·replace c79 := Bool.eq_false_iff.mpr c79
                        subst c79
                        have H1 : (some false) = some r := by rw [if_neg (show ¬ (false = true) by decide)] at H; exact H
                        clear H
                        have H := H1
                        clear H1
                        obtain rfl := Option.some.inj H
                        try go_wp2
                        have n0_ := Aside0.mk (blk_drew BK367.out)
                        have n1_ := Aside0.mk (blk_drew BK375.out)
                        have n2_ := Aside0.mk (below_drew1 HB.out)
                        clear BK367
                        clear BK375
                        clear HB
                        have BK367 := n0_
                        have BK375 := n1_
                        have HB := n2_
                        clear n0_ n1_ n2_
                        have q84 : (x21_2 : Int) ≤ ((l0.length : Int) : Int) := of_decide_eq_true pA
                        obtain ⟨i084, hi084, _, hsz84, _⟩ := info_parts info29
                        have hroom84 : l0.length ≤ c0 := HC0.out
                        have hC84 : Kd.C k29 _ (some ad366) l0.length l0 := HR0.out
                        have hcut84 := cut_to (P := Try.prog) 23 29 .i64 Try.underlying23 hi084 (some ad366) l0.length c0 x21_2 (of_decide_eq_true pA) q84 hroom84
                        have hr84 := Kd.C_take (m := (x21_2 : Int).toNat) hC84 (by omega)
                        have hy84 : y378.length = (x21_2 : Int).toNat := (by rw [Ny378.out, List.length_take]; omega)
                        rw [← Ny378.out] at hr84
                        rw [← hy84] at hcut84
                        have HR381 := Aside0.mk hr84
                        have HC381 := Aside0.mk (show y378.length ≤ c0 from by omega)
                        clear hr84 hC84 hroom84 hi084 hsz84
                        have KY84 := Aside0.mk hy84
                        clear hy84
                        replace q84 := eq_true q84
                        refine start_ (n := 18) (S := fun w' => w'.cell? ⟨gb375, 0, none⟩ = some (.int .i64 ((rd_T55 ((rd_T29 l0 x21_2).f2) x61_4).f0)) ∧ w'.cell? ⟨gb375, 1, none⟩ = some (.int .i64 ((rd_T55 ((rd_T29 l0 x21_2).f2) x61_4).f1)) ∧ w'.cell? ⟨gb375, 2, none⟩ = some (.int .i64 ((rd_T55 ((rd_T29 l0 x21_2).f2) x61_4).f2))) (ds := []) #[false, false, false, false, false, false, false, false, false, false, false, false, false, false, false, false, false, false] pL rfl rfl ⟨(blk_cell BK375.out 0).trans rfl, (blk_cell BK375.out 1).trans rfl, (blk_cell BK375.out 2).trans rfl⟩ (fun hHeld => ?_); refine with_tabW impl_DishesValid.tab12 impl_DishesValid.bits12 (fun HT_ HW_ => ?_)
                        generalize wc.drew = w83 at BK367 BK375 HB HR381 hHeld ⊢
                        refine pu 0 (some 80) impl_DishesValid.b0 HT_ rfl rfl pL (fun _ _ _ h => h) (by rfl) pY pP ?_
                        refine tk 1 (some 81) impl_DishesValid.b1 HT_ HW_ rfl rfl pL (fun _ _ _ h => h) (by rfl) (by rintro w' ⟨s0, s1, s2⟩; go_simp; with_reducible rfl) hHeld pP ?_
                        refine pu 2 (some 82) impl_DishesValid.b2 HT_ rfl rfl pL (fun _ _ _ h => h) (by rfl) pY pP ?_
                        refine pu 3 (some 83) impl_DishesValid.b3 HT_ rfl rfl pL (fun _ _ _ h => h) (by rfl) pY pP ?_
                        refine pu 4 (some 84) impl_DishesValid.b4 HT_ rfl rfl pL (fun _ _ _ h => h) (by rfl) pY pP ?_
                        refine pu 5 (some 85) impl_DishesValid.b5 HT_ rfl rfl pL (fun _ _ _ h => h) (by rfl) pY pP ?_
                        refine pu 6 (some 86) impl_DishesValid.b6 HT_ rfl rfl pL (fun _ _ _ h => h) (by rfl) pY pP ?_
                        refine pu 7 (some 87) impl_DishesValid.b7 HT_ rfl rfl pL (fun _ _ _ h => h) (by rfl) pY pP ?_
                        refine tk 8 (some 88) impl_DishesValid.b8 HT_ HW_ rfl rfl pL (fun _ _ _ h => h) (by rfl) (by rintro w' ⟨s0, s1, s2⟩; go_simp; with_reducible rfl) hHeld pP ?_
                        refine one_ (i := 9) (N := some 89) impl_DishesValid.b9 rfl rfl (one_of HT_.out pL) (by decide) (fun K hK => ?_)
                        refine goes_ Try.func20 pL rfl #[.slice (some ad366) y378.length c0, .int .i64 ((rd_T55 ((rd_T29 l0 x21_2).f2) x61_4).f1)] (by rfl) rfl rfl pM ?_
                        with_reducible refine (impl_DishesFind.calls _ _ y378 ((rd_T55 ((rd_T29 l0 x21_2).f2) x61_4).f1) t382 _ ?side1 ?side2 A65.out).mono ?_
                        (case side1 => exact pS ((Kd.C_below HR381.out HB.out)))
                        (case side2 => exact HC381.out)
                        rintro e w85 ⟨rfl, hb⟩
                        refine ⟨_, rfl, ?_⟩
                        have n0_ := Aside0.mk (blk_below (g := gb367) (o := .cells #[.int .i64 ((rd_T29 l0 x21_2).f0), .int .i64 ((rd_T29 l0 x21_2).f1), .slice (some ad374) ((rd_T29 l0 x21_2).f2).length c366_2] 29 (0, 0)) (pC BK367) hb)
                        have n1_ := Aside0.mk (blk_below (g := gb375) (o := .cells #[.int .i64 ((rd_T55 ((rd_T29 l0 x21_2).f2) x61_4).f0), .int .i64 ((rd_T55 ((rd_T29 l0 x21_2).f2) x61_4).f1), .int .i64 ((rd_T55 ((rd_T29 l0 x21_2).f2) x61_4).f2)] 55 (0, 0)) (pC BK375) hb)
                        have n2_ := Aside0.mk (below_step (by repeat (first | (with_reducible first | exact HB.out | apply below_alloc | apply pw_below_drewN | apply below_drew1 | refine below_set ?_ GE367.out | refine below_set ?_ GE375.out) | exact HB.out)) hb)
                        clear BK367
                        clear BK375
                        clear HB
                        have BK367 := n0_
                        have BK375 := n1_
                        have HB := n2_
                        clear n0_ n1_ n2_
                        (try clear hb)
                        (try clear hb2)
                        (try clear hk)
                        (try clear hi)
                        refine hK.out _ _ ⟨(blk_cell BK375.out 0).trans rfl, (blk_cell BK375.out 1).trans rfl, (blk_cell BK375.out 2).trans rfl⟩ (fun hHeld => ?_)
                        clear hK K
                        refine norm_ (a' := ?_) ?_ ?_
                        rotate_left
                        ·show Act.put _ (some 89) _ = _
                         exact pP
                        refine pu 10 (some 90) impl_DishesValid.b10 HT_ rfl rfl pL (fun _ _ _ h => h) (by rfl) pY pP ?_
                        refine pu 11 (some 91) impl_DishesValid.b11 HT_ rfl rfl pL (fun _ _ _ h => h) (by rfl) pY pP ?_
                        refine pu 12 (some 92) impl_DishesValid.b12 HT_ rfl rfl pL (fun _ _ _ h => h) (by rfl) pY pP ?_
                        refine un 13 (some 93) impl_DishesValid.b13 HT_ rfl rfl pL (fun _ _ _ h => h) (by rfl) pP ?_
                        refine un 14 (some 94) impl_DishesValid.b14 HT_ rfl rfl pL (fun _ _ _ h => h) (by rfl) pP ?_
                        refine un 15 (some 95) impl_DishesValid.b15 HT_ rfl rfl pL (fun _ _ _ h => h) (by rfl) pP ?_
                        refine pu 16 (some 96) impl_DishesValid.b16 HT_ rfl rfl pL (fun _ _ _ h => h) (by rfl) pY pP ?_
                        refine pu 17 (some 10) impl_DishesValid.b17 HT_ rfl rfl pL (fun _ _ _ h => h) (by rfl) pY pP ?_
                        refine done_ (done_of HT_.out pL) ?_
                        try go_wp2
                        go_ret
                        exact ⟨pE, by repeat (first | (with_reducible first | exact HB.out | apply below_alloc | apply pw_below_drewN | apply below_drew1 | refine below_set ?_ GE367.out | refine below_set ?_ GE375.out) | exact HB.out)⟩
                     ·rw [if_neg c64] at H
                      exact absurd H (by simp)
                    ·rw [if_neg c63] at H
                     exact absurd H (by simp)
                   ·rw [if_neg c62] at H
                    have c62b0 : (((rd_T55 ((rd_T29 l0 x21_2).f2) x61_4).f0) == 0) = false := beq_eq_false_iff_ne.mpr c62
                    have c62b1 : (((rd_T55 ((rd_T29 l0 x21_2).f2) x61_4).f0) != 0) = true := bne_iff_ne.mpr c62
                    by_cases c86 : x9_44 = true
                    ·subst c86
                     have H1 : (impl_DishesValid.l1 kj44 l0 l1 x21_2 l0 (l0.length : Int) x21_2 ((rd_T29 l0 x21_2).f2) (((rd_T29 l0 x21_2).f2).length : Int) (wrap64 (x61_4 + 1))) = some r := by rw [if_pos rfl] at H; exact H
                     clear H
                     have H := H1
                     clear H1
                     have H' := Aside0.mk H
                     clear H
                     try go_wp2
                     have n0_ := Aside0.mk (blk_drew BK367.out)
                     have n1_ := Aside0.mk (blk_drew BK375.out)
                     have n2_ := Aside0.mk (below_drew1 HB.out)
                     clear BK367
                     clear BK375
                     clear HB
                     have BK367 := n0_
                     have BK375 := n1_
                     have HB := n2_
                     clear n0_ n1_ n2_
                     refine start_ (n := 18) (S := fun w' => w'.cell? ⟨gb375, 0, none⟩ = some (.int .i64 ((rd_T55 ((rd_T29 l0 x21_2).f2) x61_4).f0)) ∧ w'.cell? ⟨gb375, 1, none⟩ = some (.int .i64 ((rd_T55 ((rd_T29 l0 x21_2).f2) x61_4).f1)) ∧ w'.cell? ⟨gb375, 2, none⟩ = some (.int .i64 ((rd_T55 ((rd_T29 l0 x21_2).f2) x61_4).f2))) (ds := []) #[false, false, false, false, false, false, false, false, false, false, false, false, false, false, false, false, false, false] pL rfl rfl ⟨(blk_cell BK375.out 0).trans rfl, (blk_cell BK375.out 1).trans rfl, (blk_cell BK375.out 2).trans rfl⟩ (fun hHeld => ?_); refine with_tabW impl_DishesValid.tab12 impl_DishesValid.bits12 (fun HT_ HW_ => ?_)
                     generalize wc.drew = w87 at BK367 BK375 HB hHeld ⊢
                     refine pu 0 (some 80) impl_DishesValid.b0 HT_ rfl rfl pL (fun _ _ _ h => h) (by rfl) pY pP ?_
                     refine tk 1 (some 81) impl_DishesValid.b1 HT_ HW_ rfl rfl pL (fun _ _ _ h => h) (by rfl) (by rintro w' ⟨s0, s1, s2⟩; go_simp; with_reducible rfl) hHeld pP ?_
                     refine pu 2 (some 82) impl_DishesValid.b2 HT_ rfl rfl pL (fun _ _ _ h => h) (by rfl) pY pP ?_
                     refine pu 3 (some 83) impl_DishesValid.b3 HT_ rfl rfl pL (fun _ _ _ h => h) (by rfl) pY pP ?_
                     refine un 4 (some 84) impl_DishesValid.b4 HT_ rfl rfl pL (fun _ _ _ h => h) (by rfl) pP ?_
                     refine un 5 (some 85) impl_DishesValid.b5 HT_ rfl rfl pL (fun _ _ _ h => h) (by rfl) pP ?_
                     refine un 6 (some 86) impl_DishesValid.b6 HT_ rfl rfl pL (fun _ _ _ h => h) (by rfl) pP ?_
                     refine un 7 (some 87) impl_DishesValid.b7 HT_ rfl rfl pL (fun _ _ _ h => h) (by rfl) pP ?_
                     refine un 8 (some 88) impl_DishesValid.b8 HT_ rfl rfl pL (fun _ _ _ h => h) (by rfl) pP ?_
                     refine un 9 (some 89) impl_DishesValid.b9 HT_ rfl rfl pL (fun _ _ _ h => h) (by rfl) pP ?_
                     refine un 10 (some 90) impl_DishesValid.b10 HT_ rfl rfl pL (fun _ _ _ h => h) (by rfl) pP ?_
                     refine pu 11 (some 91) impl_DishesValid.b11 HT_ rfl rfl pL (fun _ _ _ h => h) (by rfl) pY pP ?_
                     refine pu 12 (some 92) impl_DishesValid.b12 HT_ rfl rfl pL (fun _ _ _ h => h) (by rfl) pY pP ?_
                     refine un 13 (some 93) impl_DishesValid.b13 HT_ rfl rfl pL (fun _ _ _ h => h) (by rfl) pP ?_
                     refine un 14 (some 94) impl_DishesValid.b14 HT_ rfl rfl pL (fun _ _ _ h => h) (by rfl) pP ?_
                     refine un 15 (some 95) impl_DishesValid.b15 HT_ rfl rfl pL (fun _ _ _ h => h) (by rfl) pP ?_
                     refine pu 16 (some 96) impl_DishesValid.b16 HT_ rfl rfl pL (fun _ _ _ h => h) (by rfl) pY pP ?_
                     refine pu 17 (some 10) impl_DishesValid.b17 HT_ rfl rfl pL (fun _ _ _ h => h) (by rfl) pY pP ?_
                     refine done_ (done_of HT_.out pL) ?_
                     try go_wp2
                     go_roundg kj44
                     case measure => have := HJ2.out; have := HK2.out; have := HJ11.out; have := HK4.out; have := HJ44.out; omega
                     case rel => exact ⟨(wrap64 (x61_4 + 1)), pF, H', ⟨by have := HJ2.out; have := HK2.out; have := HJ11.out; have := HK4.out; have := HJ44.out; omega⟩, ⟨pC BK367⟩, ⟨by repeat (first | (with_reducible first | exact HB.out | apply below_alloc | apply pw_below_drewN | apply below_drew1 | refine below_set ?_ GE367.out | refine below_set ?_ GE375.out) | exact HB.out)⟩⟩
                    ·replace c86 := Bool.eq_false_iff.mpr c86
                     subst c86
                     have H1 : (some false) = some r := by rw [if_neg (show ¬ (false = true) by decide)] at H; exact H
                     clear H
                     have H := H1
                     clear H1
                     obtain rfl := Option.some.inj H
                     try go_wp2
                     have n0_ := Aside0.mk (blk_drew BK367.out)
                     have n1_ := Aside0.mk (blk_drew BK375.out)
                     have n2_ := Aside0.mk (below_drew1 HB.out)
                     clear BK367
                     clear BK375
                     clear HB
                     have BK367 := n0_
                     have BK375 := n1_
                     have HB := n2_
                     clear n0_ n1_ n2_
                     refine start_ (n := 18) (S := fun w' => w'.cell? ⟨gb375, 0, none⟩ = some (.int .i64 ((rd_T55 ((rd_T29 l0 x21_2).f2) x61_4).f0)) ∧ w'.cell? ⟨gb375, 1, none⟩ = some (.int .i64 ((rd_T55 ((rd_T29 l0 x21_2).f2) x61_4).f1)) ∧ w'.cell? ⟨gb375, 2, none⟩ = some (.int .i64 ((rd_T55 ((rd_T29 l0 x21_2).f2) x61_4).f2))) (ds := []) #[false, false, false, false, false, false, false, false, false, false, false, false, false, false, false, false, false, false] pL rfl rfl ⟨(blk_cell BK375.out 0).trans rfl, (blk_cell BK375.out 1).trans rfl, (blk_cell BK375.out 2).trans rfl⟩ (fun hHeld => ?_); refine with_tabW impl_DishesValid.tab12 impl_DishesValid.bits12 (fun HT_ HW_ => ?_)
                     generalize wc.drew = w88 at BK367 BK375 HB hHeld ⊢
                     refine pu 0 (some 80) impl_DishesValid.b0 HT_ rfl rfl pL (fun _ _ _ h => h) (by rfl) pY pP ?_
                     refine tk 1 (some 81) impl_DishesValid.b1 HT_ HW_ rfl rfl pL (fun _ _ _ h => h) (by rfl) (by rintro w' ⟨s0, s1, s2⟩; go_simp; with_reducible rfl) hHeld pP ?_
                     refine pu 2 (some 82) impl_DishesValid.b2 HT_ rfl rfl pL (fun _ _ _ h => h) (by rfl) pY pP ?_
                     refine pu 3 (some 83) impl_DishesValid.b3 HT_ rfl rfl pL (fun _ _ _ h => h) (by rfl) pY pP ?_
                     refine un 4 (some 84) impl_DishesValid.b4 HT_ rfl rfl pL (fun _ _ _ h => h) (by rfl) pP ?_
                     refine un 5 (some 85) impl_DishesValid.b5 HT_ rfl rfl pL (fun _ _ _ h => h) (by rfl) pP ?_
                     refine un 6 (some 86) impl_DishesValid.b6 HT_ rfl rfl pL (fun _ _ _ h => h) (by rfl) pP ?_
                     refine un 7 (some 87) impl_DishesValid.b7 HT_ rfl rfl pL (fun _ _ _ h => h) (by rfl) pP ?_
                     refine un 8 (some 88) impl_DishesValid.b8 HT_ rfl rfl pL (fun _ _ _ h => h) (by rfl) pP ?_
                     refine un 9 (some 89) impl_DishesValid.b9 HT_ rfl rfl pL (fun _ _ _ h => h) (by rfl) pP ?_
                     refine un 10 (some 90) impl_DishesValid.b10 HT_ rfl rfl pL (fun _ _ _ h => h) (by rfl) pP ?_
                     refine pu 11 (some 91) impl_DishesValid.b11 HT_ rfl rfl pL (fun _ _ _ h => h) (by rfl) pY pP ?_
                     refine pu 12 (some 92) impl_DishesValid.b12 HT_ rfl rfl pL (fun _ _ _ h => h) (by rfl) pY pP ?_
                     refine un 13 (some 93) impl_DishesValid.b13 HT_ rfl rfl pL (fun _ _ _ h => h) (by rfl) pP ?_
                     refine un 14 (some 94) impl_DishesValid.b14 HT_ rfl rfl pL (fun _ _ _ h => h) (by rfl) pP ?_
                     refine un 15 (some 95) impl_DishesValid.b15 HT_ rfl rfl pL (fun _ _ _ h => h) (by rfl) pP ?_
                     refine pu 16 (some 96) impl_DishesValid.b16 HT_ rfl rfl pL (fun _ _ _ h => h) (by rfl) pY pP ?_
                     refine pu 17 (some 10) impl_DishesValid.b17 HT_ rfl rfl pL (fun _ _ _ h => h) (by rfl) pY pP ?_
                     refine done_ (done_of HT_.out pL) ?_
                     try go_wp2
                     go_ret
                     exact ⟨pE, by repeat (first | (with_reducible first | exact HB.out | apply below_alloc | apply pw_below_drewN | apply below_drew1 | refine below_set ?_ GE367.out | refine below_set ?_ GE375.out) | exact HB.out)⟩
                ·rw [if_neg c44] at H
                 exact absurd H (by simp)
               ·rw [if_neg c43] at H
                exact absurd H (by simp)
              ·rw [if_neg c42] at H
               have c42b0 : decide (x61_4 < (((rd_T29 l0 x21_2).f2).length : Int)) = false := decide_eq_false c42
               clear c42
               have H' := Aside0.mk H
               clear H
               go_wp2
               go_roundg k4
               case measure => have := HJ2.out; have := HK2.out; have := HJ11.out; have := HK4.out; omega
               case rel => exact ⟨(wrap64 (x21_2 + 1)), pF, H', ⟨by have := HJ2.out; have := HK2.out; have := HJ11.out; have := HK4.out; omega⟩, ⟨pG GE367⟩⟩
        ·rw [if_neg c11] at H
         exact absurd H (by simp)
       ·rw [if_neg c10] at H
        exact absurd H (by simp)
      ·rw [if_neg c9] at H
       have c9b0 : decide (x21_2 < (l0.length : Int)) = false := decide_eq_false c9
       clear c9
       obtain rfl := Option.some.inj H
       go_wp2
       go_ret
       exact ⟨pE, pB⟩

end Go.Proofs.Ytclldijjbmnkeaa.Q
