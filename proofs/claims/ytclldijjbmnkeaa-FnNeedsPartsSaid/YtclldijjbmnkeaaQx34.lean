-- Written by the kit's print.py for all laws of the seat at once (one namespace), by a program of this session.
import Derived.Test.YtclldijjbmnkeaaQx0
import Derived.Test.YtclldijjbmnkeaaQx5
import Derived.Test.YtclldijjbmnkeaaQx21
import Derived.Test.YtclldijjbmnkeaaQx22
import Derived.Test.YtclldijjbmnkeaaQx29
import Derived.Test.YtclldijjbmnkeaaQx32
namespace Go.Proofs.Ytclldijjbmnkeaa.Q
open Go.RowKit Go.Proofs.YtclldijjbmnkeaaW.PrintWords Go.Proofs.YtclldijjbmnkeaaW.PrintLast Go.Proofs.YtclldijjbmnkeaaW.PrintMore
attribute [local go_sem] max2_int min2_int max_two min_two max_three min_three max_four min_four   -- for this text's walks alone
set_option linter.unusedVariables false
set_option linter.unusedSimpArgs false

/-! ### laws_FnNeedsParts: function 13 -/
mutual
def laws_FnNeedsParts.j0 : Nat → List (S29) → List (S63) → Int → Int → List Int → Bool → List Int → Bool → Bool → Option (Bool)
 | 0, _, _, _, _, _, _, _, _, _ => none
 | k + 1, x3, x4, x5, x6, x7, x8, x9, x10, x54 => if x54 = true then (if (x8 == x10) = true then ((laws_sameInts.f k x7 x9).bind fun t875 => (some t875)) else (some false)) else ((impl_DishesFind.f x3 x5).bind fun t876 => (if 0 ≤ t876 then (if t876 < (x3.length : Int) then (laws_FnNeedsParts.l0 k x3 x4 x6 x7 0 ((rd_T29 x3 t876).f0) ((rd_T29 x3 t876).f1) ((rd_T29 x3 t876).f2)) else (none)) else (none)))
def laws_FnNeedsParts.l0 : Nat → List (S29) → List (S63) → Int → List Int → Int → Int → Int → List (S55) → Option (Bool)
 | 0, _, _, _, _, _, _, _, _ => none
 | k + 1, x3, x4, x6, x7, x12, x879000, x879001, x879002 => if x12 < (x879002.length : Int) then (if 0 ≤ x12 then (if ((rd_T55 x879002 x12).f1) > 0 then (if x879001 = 0 then (none) else ((impl_DishNeeds.f k x3 x4 ((rd_T55 x879002 x12).f1) (mn (wrap64 (Int.tdiv (wrap64 (x6 * ((rd_T55 x879002 x12).f2))) x879001)) 300)).bind fun bt882 => (laws_FnNeedsParts.l1 k x3 x4 x6 x7 x12 bt882.1 bt882.2 0 x879000 x879001 x879002))) else (laws_FnNeedsParts.l0 k x3 x4 x6 x7 (wrap64 (x12 + 1)) x879000 x879001 x879002)) else (none)) else (some true)
def laws_FnNeedsParts.l1 : Nat → List (S29) → List (S63) → Int → List Int → Int → List Int → Bool → Int → Int → Int → List (S55) → Option (Bool)
 | 0, _, _, _, _, _, _, _, _, _, _, _ => none
 | k + 1, x3, x4, x6, x7, x12, x13, x14, x15, x879000, x879001, x879002 => if x15 < (x13.length : Int) then (if x14 = true then (laws_FnNeedsParts.j3 k x3 x4 x6 x7 x12 x13 x14 x15 (decide (x15 < (x7.length : Int))) x879000 x879001 x879002) else (laws_FnNeedsParts.j3 k x3 x4 x6 x7 x12 x13 x14 x15 false x879000 x879001 x879002)) else (laws_FnNeedsParts.j3 k x3 x4 x6 x7 x12 x13 x14 x15 false x879000 x879001 x879002)
def laws_FnNeedsParts.j3 : Nat → List (S29) → List (S63) → Int → List Int → Int → List Int → Bool → Int → Bool → Int → Int → List (S55) → Option (Bool)
 | 0, _, _, _, _, _, _, _, _, _, _, _, _ => none
 | k + 1, x3, x4, x6, x7, x12, x13, x14, x15, x119, x879000, x879001, x879002 => if x119 = true then (if 0 ≤ x15 then (if x15 < (x13.length : Int) then (if x15 < (x7.length : Int) then (if (rd x13 x15) > (rd x7 x15) then (some false) else (laws_FnNeedsParts.l1 k x3 x4 x6 x7 x12 x13 x14 (wrap64 (x15 + 1)) x879000 x879001 x879002)) else (none)) else (none)) else (none)) else (laws_FnNeedsParts.l0 k x3 x4 x6 x7 (wrap64 (x12 + 1)) x879000 x879001 x879002)
end
def laws_FnNeedsParts.f (k : Nat) (l0 : List Int) : Option (Bool) := if (l0.length : Int) > 1048576 then (some true) else ((spec_DrawDishNeeds.f k l0).bind fun bt858 => ((impl_DishNeeds.f k bt858.1 bt858.2.1 bt858.2.2.1 bt858.2.2.2).bind fun bt866 => ((spec_DishNeeds.f k bt858.1 bt858.2.1 bt858.2.2.1 bt858.2.2.2).bind fun bt870 => (if (bt866.2 != bt870.2) = true then (laws_FnNeedsParts.j0 k bt858.1 bt858.2.1 bt858.2.2.1 bt858.2.2.2 bt866.1 bt866.2 bt870.1 bt870.2 true) else ((laws_sameInts.f k bt866.1 bt870.1).bind fun t874 => (if t874 = true then (laws_FnNeedsParts.j0 k bt858.1 bt858.2.1 bt858.2.2.1 bt858.2.2.2 bt866.1 bt866.2 bt870.1 bt870.2 (!bt866.2)) else (laws_FnNeedsParts.j0 k bt858.1 bt858.2.1 bt858.2.2.1 bt858.2.2.2 bt866.1 bt866.2 bt870.1 bt870.2 true)))))))
theorem laws_FnNeedsParts.mono_l : ∀ k, (∀ y0 y1 y2 y3 y4 y5 y6 y7 y8, LeO (laws_FnNeedsParts.j0 k y0 y1 y2 y3 y4 y5 y6 y7 y8) (laws_FnNeedsParts.j0 (k + 1) y0 y1 y2 y3 y4 y5 y6 y7 y8)) ∧ (∀ y0 y1 y2 y3 y4 y5 y6 y7, LeO (laws_FnNeedsParts.l0 k y0 y1 y2 y3 y4 y5 y6 y7) (laws_FnNeedsParts.l0 (k + 1) y0 y1 y2 y3 y4 y5 y6 y7)) ∧ (∀ y0 y1 y2 y3 y4 y5 y6 y7 y8 y9 y10, LeO (laws_FnNeedsParts.l1 k y0 y1 y2 y3 y4 y5 y6 y7 y8 y9 y10) (laws_FnNeedsParts.l1 (k + 1) y0 y1 y2 y3 y4 y5 y6 y7 y8 y9 y10)) ∧ (∀ y0 y1 y2 y3 y4 y5 y6 y7 y8 y9 y10 y11, LeO (laws_FnNeedsParts.j3 k y0 y1 y2 y3 y4 y5 y6 y7 y8 y9 y10 y11) (laws_FnNeedsParts.j3 (k + 1) y0 y1 y2 y3 y4 y5 y6 y7 y8 y9 y10 y11))
 | 0 => ⟨fun _ _ _ _ _ _ _ _ _ r h => by simp [laws_FnNeedsParts.j0] at h, fun _ _ _ _ _ _ _ _ r h => by simp [laws_FnNeedsParts.l0] at h, fun _ _ _ _ _ _ _ _ _ _ _ r h => by simp [laws_FnNeedsParts.l1] at h, fun _ _ _ _ _ _ _ _ _ _ _ _ r h => by simp [laws_FnNeedsParts.j3] at h⟩
 | k + 1 => by
  obtain ⟨ih0, ih1, ih2, ih3⟩ := laws_FnNeedsParts.mono_l k
  refine ⟨?_, ?_, ?_, ?_⟩
  ·intro y0 y1 y2 y3 y4 y5 y6 y7 y8
   unfold laws_FnNeedsParts.j0
   repeat' first
   | (with_reducible exact ih0 _ _ _ _ _ _ _ _ _)
   | (with_reducible exact ih1 _ _ _ _ _ _ _ _)
   | (with_reducible exact ih2 _ _ _ _ _ _ _ _ _ _ _)
   | (with_reducible exact ih3 _ _ _ _ _ _ _ _ _ _ _ _)
   | (with_reducible exact impl_DishNeeds.mono _ _ _ _ _)
   | (with_reducible exact laws_sameInts.mono _ _ _)
   | (with_reducible exact spec_DishNeeds.mono _ _ _ _ _)
   | (with_reducible exact spec_DrawDishNeeds.mono _ _)
   | (with_reducible exact LeO.refl _)
   | (with_reducible exact LeO.none _)
   | (with_reducible refine LeO.ite ?_ ?_)
   | (with_reducible refine LeO.bind ?_ (fun _ => ?_))
   | exact ih0 _ _ _ _ _ _ _ _ _
   | exact ih1 _ _ _ _ _ _ _ _
   | exact ih2 _ _ _ _ _ _ _ _ _ _ _
   | exact ih3 _ _ _ _ _ _ _ _ _ _ _ _
   | exact impl_DishNeeds.mono _ _ _ _ _
   | exact laws_sameInts.mono _ _ _
   | exact spec_DishNeeds.mono _ _ _ _ _
   | exact spec_DrawDishNeeds.mono _ _
   | exact LeO.none _
   | refine LeO.ite ?_ ?_
   | refine LeO.bind ?_ (fun _ => ?_)
  ·intro y0 y1 y2 y3 y4 y5 y6 y7
   unfold laws_FnNeedsParts.l0
   repeat' first
   | (with_reducible exact ih0 _ _ _ _ _ _ _ _ _)
   | (with_reducible exact ih1 _ _ _ _ _ _ _ _)
   | (with_reducible exact ih2 _ _ _ _ _ _ _ _ _ _ _)
   | (with_reducible exact ih3 _ _ _ _ _ _ _ _ _ _ _ _)
   | (with_reducible exact impl_DishNeeds.mono _ _ _ _ _)
   | (with_reducible exact laws_sameInts.mono _ _ _)
   | (with_reducible exact spec_DishNeeds.mono _ _ _ _ _)
   | (with_reducible exact spec_DrawDishNeeds.mono _ _)
   | (with_reducible exact LeO.refl _)
   | (with_reducible exact LeO.none _)
   | (with_reducible refine LeO.ite ?_ ?_)
   | (with_reducible refine LeO.bind ?_ (fun _ => ?_))
   | exact ih0 _ _ _ _ _ _ _ _ _
   | exact ih1 _ _ _ _ _ _ _ _
   | exact ih2 _ _ _ _ _ _ _ _ _ _ _
   | exact ih3 _ _ _ _ _ _ _ _ _ _ _ _
   | exact impl_DishNeeds.mono _ _ _ _ _
   | exact laws_sameInts.mono _ _ _
   | exact spec_DishNeeds.mono _ _ _ _ _
   | exact spec_DrawDishNeeds.mono _ _
   | exact LeO.none _
   | refine LeO.ite ?_ ?_
   | refine LeO.bind ?_ (fun _ => ?_)
  ·intro y0 y1 y2 y3 y4 y5 y6 y7 y8 y9 y10
   unfold laws_FnNeedsParts.l1
   repeat' first
   | (with_reducible exact ih0 _ _ _ _ _ _ _ _ _)
   | (with_reducible exact ih1 _ _ _ _ _ _ _ _)
   | (with_reducible exact ih2 _ _ _ _ _ _ _ _ _ _ _)
   | (with_reducible exact ih3 _ _ _ _ _ _ _ _ _ _ _ _)
   | (with_reducible exact impl_DishNeeds.mono _ _ _ _ _)
   | (with_reducible exact laws_sameInts.mono _ _ _)
   | (with_reducible exact spec_DishNeeds.mono _ _ _ _ _)
   | (with_reducible exact spec_DrawDishNeeds.mono _ _)
   | (with_reducible exact LeO.refl _)
   | (with_reducible exact LeO.none _)
   | (with_reducible refine LeO.ite ?_ ?_)
   | (with_reducible refine LeO.bind ?_ (fun _ => ?_))
   | exact ih0 _ _ _ _ _ _ _ _ _
   | exact ih1 _ _ _ _ _ _ _ _
   | exact ih2 _ _ _ _ _ _ _ _ _ _ _
   | exact ih3 _ _ _ _ _ _ _ _ _ _ _ _
   | exact impl_DishNeeds.mono _ _ _ _ _
   | exact laws_sameInts.mono _ _ _
   | exact spec_DishNeeds.mono _ _ _ _ _
   | exact spec_DrawDishNeeds.mono _ _
   | exact LeO.none _
   | refine LeO.ite ?_ ?_
   | refine LeO.bind ?_ (fun _ => ?_)
  ·intro y0 y1 y2 y3 y4 y5 y6 y7 y8 y9 y10 y11
   unfold laws_FnNeedsParts.j3
   repeat' first
   | (with_reducible exact ih0 _ _ _ _ _ _ _ _ _)
   | (with_reducible exact ih1 _ _ _ _ _ _ _ _)
   | (with_reducible exact ih2 _ _ _ _ _ _ _ _ _ _ _)
   | (with_reducible exact ih3 _ _ _ _ _ _ _ _ _ _ _ _)
   | (with_reducible exact impl_DishNeeds.mono _ _ _ _ _)
   | (with_reducible exact laws_sameInts.mono _ _ _)
   | (with_reducible exact spec_DishNeeds.mono _ _ _ _ _)
   | (with_reducible exact spec_DrawDishNeeds.mono _ _)
   | (with_reducible exact LeO.refl _)
   | (with_reducible exact LeO.none _)
   | (with_reducible refine LeO.ite ?_ ?_)
   | (with_reducible refine LeO.bind ?_ (fun _ => ?_))
   | exact ih0 _ _ _ _ _ _ _ _ _
   | exact ih1 _ _ _ _ _ _ _ _
   | exact ih2 _ _ _ _ _ _ _ _ _ _ _
   | exact ih3 _ _ _ _ _ _ _ _ _ _ _ _
   | exact impl_DishNeeds.mono _ _ _ _ _
   | exact laws_sameInts.mono _ _ _
   | exact spec_DishNeeds.mono _ _ _ _ _
   | exact spec_DrawDishNeeds.mono _ _
   | exact LeO.none _
   | refine LeO.ite ?_ ?_
   | refine LeO.bind ?_ (fun _ => ?_)
theorem laws_FnNeedsParts.mono : ∀ a0 k, LeO (laws_FnNeedsParts.f k a0) (laws_FnNeedsParts.f (k + 1) a0) := by
 intro a0 k
 obtain ⟨ih0, ih1, ih2, ih3⟩ := laws_FnNeedsParts.mono_l k
 unfold laws_FnNeedsParts.f
 repeat' first
   | (with_reducible exact ih0 _ _ _ _ _ _ _ _ _)
   | (with_reducible exact ih1 _ _ _ _ _ _ _ _)
   | (with_reducible exact ih2 _ _ _ _ _ _ _ _ _ _ _)
   | (with_reducible exact ih3 _ _ _ _ _ _ _ _ _ _ _ _)
   | (with_reducible exact impl_DishNeeds.mono _ _ _ _ _)
   | (with_reducible exact laws_sameInts.mono _ _ _)
   | (with_reducible exact spec_DishNeeds.mono _ _ _ _ _)
   | (with_reducible exact spec_DrawDishNeeds.mono _ _)
   | (with_reducible exact LeO.refl _)
   | (with_reducible exact LeO.none _)
   | (with_reducible refine LeO.ite ?_ ?_)
   | (with_reducible refine LeO.bind ?_ (fun _ => ?_))
   | exact ih0 _ _ _ _ _ _ _ _ _
   | exact ih1 _ _ _ _ _ _ _ _
   | exact ih2 _ _ _ _ _ _ _ _ _ _ _
   | exact ih3 _ _ _ _ _ _ _ _ _ _ _ _
   | exact impl_DishNeeds.mono _ _ _ _ _
   | exact laws_sameInts.mono _ _ _
   | exact spec_DishNeeds.mono _ _ _ _ _
   | exact spec_DrawDishNeeds.mono _ _
   | exact LeO.none _
   | refine LeO.ite ?_ ?_
   | refine LeO.bind ?_ (fun _ => ?_)
def laws_FnNeedsParts.T13 : Bool × List (List Nat × List Nat) := (true, [([], []), ([], []), ([], []), ([2], [2]), ([], []), ([3, 4], [3, 4]), ([5], [5]), ([6], [6]), ([], []), ([], []), ([9], [9]), ([], []), ([10, 11], [10, 11]), ([12], [12]), ([13], [13]), ([8, 14], [8, 14]), ([], []), ([16], [16]), ([15, 17], [15, 17]), ([18], [18]), ([0, 1, 7, 19], [0, 1, 7, 19]), ([20], [20]), ([21], [21]), ([21], [21]), ([22, 20, 0, 1, 2, 3, 4, 5, 6, 7, 8, 9, 10, 11, 12, 13, 14, 15, 16, 17, 18, 19, 20, 21, 22], [22]), ([23, 24, 0, 1, 2, 3, 4, 5, 6, 7, 8, 9, 10, 11, 12, 13, 14, 15, 16, 17, 18, 19, 20, 21, 22, 23, 24], [23])])
def laws_FnNeedsParts.B13 : List Nat := [0, 0, 0, 4, 0, 28, 60, 124, 0, 0, 512, 0, 3584, 7680, 15872, 32512, 0, 65536, 261888, 524032, 1048575, 2097151, 4194303, 4194303, 8388607, 33554431]
theorem laws_FnNeedsParts.tab13 : rtab .any (opsOf Try.f13 13) = laws_FnNeedsParts.T13 := by kernel_rfl
theorem laws_FnNeedsParts.bits13 : waitsOk laws_FnNeedsParts.T13.2 laws_FnNeedsParts.B13 = true := by kernel_rfl
def laws_FnNeedsParts.T17 : Bool × List (List Nat × List Nat) := (true, [([], []), ([], []), ([0, 1], [0, 1]), ([2], [2]), ([], []), ([], []), ([4, 5], [4, 5]), ([6], [6]), ([3, 7], [3, 7])])
def laws_FnNeedsParts.B17 : List Nat := [0, 0, 3, 7, 0, 0, 48, 112, 255]
theorem laws_FnNeedsParts.tab17 : rtab .any (opsOf Try.f13 17) = laws_FnNeedsParts.T17 := by kernel_rfl
theorem laws_FnNeedsParts.bits17 : waitsOk laws_FnNeedsParts.T17.2 laws_FnNeedsParts.B17 = true := by kernel_rfl
theorem laws_FnNeedsParts.cLt_ {α : Type} {d : Kd α} {W : World} {A : Option Addr} {n : Nat} {xs : List α} (h : d.C W A n xs) {ad : Addr} (he : A = some ad) (hp : 0 < n) (hs : 0 < d.sz) : ad.block < W.heap.size := by
 subst he
 cases xs with
 | nil => exact absurd h.1 (by simp; omega)
 | cons x xs' =>
  obtain ⟨ad', c, e, hcl, _, hcc⟩ := Kd.C_get h x 0 (Int.le_refl 0) (by omega)
  injection e with e
  subst e
  have h4 := hcc 0 _ (List.getElem?_eq_getElem (by omega))
  have h5 := World.block_lt_of_cell? W _ h4
  rwa [add_block] at h5
theorem F13.q0 {P : Prop} (h : P := by repeat (first | (with_reducible exact HR877_2.out) | (with_reducible refine Kd.C_alloc ?_ _) | (with_reducible refine Kd.C_drewN ?_ _) | (with_reducible refine Kd.C_drew ?_) | exact HR877_2.out)) : P := h
set_option maxHeartbeats 8000000 in
set_option maxRecDepth 100000 in
theorem laws_FnNeedsParts.calls (k : Nat) (A0 : Option Addr) (c0 : Nat) (l0 : List Int) (r : Bool) (w : World) (hr0 : Kd.C (Kd.int .u8) w A0 l0.length l0) (hc0 : l0.length ≤ c0) (h : laws_FnNeedsParts.f k l0 = some r) :
  Calls Try.prog 13 #[.slice A0 l0.length c0] w fun e w' => e = .returned (.bool r) ∧ Below w.heap.size w w' := by
 have hu29 := Try.underlying29
 have HR0 := Aside0.mk hr0
 have HC0 := Aside0.mk hc0
 clear hr0 hc0
 have HB := Aside0.mk (Below.refl w.heap.size w)
 have H : (if (l0.length : Int) > 1048576 then (some true) else ((spec_DrawDishNeeds.f k l0).bind fun bt858 => ((impl_DishNeeds.f k bt858.1 bt858.2.1 bt858.2.2.1 bt858.2.2.2).bind fun bt866 => ((spec_DishNeeds.f k bt858.1 bt858.2.1 bt858.2.2.1 bt858.2.2.2).bind fun bt870 => (if (bt866.2 != bt870.2) = true then (laws_FnNeedsParts.j0 k bt858.1 bt858.2.1 bt858.2.2.1 bt858.2.2.2 bt866.1 bt866.2 bt870.1 bt870.2 true) else ((laws_sameInts.f k bt866.1 bt870.1).bind fun t874 => (if t874 = true then (laws_FnNeedsParts.j0 k bt858.1 bt858.2.1 bt858.2.2.1 bt858.2.2.2 bt866.1 bt866.2 bt870.1 bt870.2 (!bt866.2)) else (laws_FnNeedsParts.j0 k bt858.1 bt858.2.1 bt858.2.2.1 bt858.2.2.2 bt866.1 bt866.2 bt870.1 bt870.2 true)))))))) = some r := h
 clear h
 by_cases c2 : (l0.length : Int) > 1048576
 ·rw [if_pos c2] at H
  have c2b0 : decide (1048576 < (l0.length : Int)) = true := decide_eq_true c2
  have c2b1 : decide (1048576 < l0.length) = true := decide_eq_true (by omega)
  clear c2
  obtain rfl := Option.some.inj H
  go_enter Try.func13, Try.ntmps13
  go_wp2
  go_ret
  exact ⟨pE, pB⟩
 rw [if_neg c2] at H
 have c2b0 : decide (1048576 < (l0.length : Int)) = false := decide_eq_false c2
 have c2b1 : decide (1048576 < l0.length) = false := decide_eq_false (by omega)
 clear c2
 replace H := Option.bind_eq_some_iff.mp H
 obtain ⟨⟨t858, t861, t864, t865⟩, A30, H⟩ := H
 replace H : ((impl_DishNeeds.f k t858 t861 t864 t865).bind fun bt866 => ((spec_DishNeeds.f k t858 t861 t864 t865).bind fun bt870 => (if (bt866.2 != bt870.2) = true then (laws_FnNeedsParts.j0 k t858 t861 t864 t865 bt866.1 bt866.2 bt870.1 bt870.2 true) else ((laws_sameInts.f k bt866.1 bt870.1).bind fun t874 => (if t874 = true then (laws_FnNeedsParts.j0 k t858 t861 t864 t865 bt866.1 bt866.2 bt870.1 bt870.2 (!bt866.2)) else (laws_FnNeedsParts.j0 k t858 t861 t864 t865 bt866.1 bt866.2 bt870.1 bt870.2 true)))))) = some r := H
 have A3 := Aside0.mk A30
 clear A30
 replace H := Option.bind_eq_some_iff.mp H
 obtain ⟨⟨t866, t867⟩, A40, H⟩ := H
 replace H : ((spec_DishNeeds.f k t858 t861 t864 t865).bind fun bt870 => (if (t867 != bt870.2) = true then (laws_FnNeedsParts.j0 k t858 t861 t864 t865 t866 t867 bt870.1 bt870.2 true) else ((laws_sameInts.f k t866 bt870.1).bind fun t874 => (if t874 = true then (laws_FnNeedsParts.j0 k t858 t861 t864 t865 t866 t867 bt870.1 bt870.2 (!t867)) else (laws_FnNeedsParts.j0 k t858 t861 t864 t865 t866 t867 bt870.1 bt870.2 true))))) = some r := H
 have A4 := Aside0.mk A40
 clear A40
 replace H := Option.bind_eq_some_iff.mp H
 obtain ⟨⟨t870, t871⟩, A50, H⟩ := H
 replace H : (if (t867 != t871) = true then (laws_FnNeedsParts.j0 k t858 t861 t864 t865 t866 t867 t870 t871 true) else ((laws_sameInts.f k t866 t870).bind fun t874 => (if t874 = true then (laws_FnNeedsParts.j0 k t858 t861 t864 t865 t866 t867 t870 t871 (!t867)) else (laws_FnNeedsParts.j0 k t858 t861 t864 t865 t866 t867 t870 t871 true)))) = some r := H
 have A5 := Aside0.mk A50
 clear A50
 have HC6 := Aside0.mk H
 clear H
 go_enter Try.func13, Try.ntmps13
 go_upto_region 6 with (first | ((with_reducible refine gate_callee (f := 45) rfl ?_); refine goesL_ (some 21) rfl rfl Try.func45 pL rfl #[.slice A0 l0.length c0] rfl pM ?_; (with_reducible refine (spec_DrawDishNeeds.calls k _ _ l0 t858 t861 t864 t865 _ ?side1 ?side2 A3.out).mono ?_); (case side1 => exact pS (HR0.out)); (case side2 => exact HC0.out); rintro e w7 ⟨v859, v862, rfl, ho0, ho1, hb⟩; refine ⟨_, rfl, ?_⟩; have n0_ := Aside0.mk (Kd.N_lower (Kd.N_mono (ok' := fun k_ => some k_ ≠ (v862 : Value).ownBlock) ho0 (fun k_ hk_ => hk_.2)) (below_size pB)); have n1_ := Aside0.mk (Kd.R_lower (Kd.R_mono (ok' := fun k_ => True) ho1 (fun _ hk_ => trivial)) (below_size pB)); have n2_ := Aside0.mk (below_step pB hb); clear HB; have HO860 := n0_; have HO863 := n1_; have HB := n2_; clear n0_ n1_ n2_; (try clear hb); (try clear hb2); (try clear hk); (try clear hi); (try clear ho0); (try clear ho1); obtain ⟨Ao8, co8, eo8⟩ := Kd.N_slice HO860.out; subst eo8; obtain ⟨Ao9, co9, eo9⟩ := Kd.R_slice HO863.out; subst eo9) | ((with_reducible refine gate_callee (f := 38) rfl ?_); refine goesL_ (some 31) rfl rfl Try.func38 pL rfl #[.slice Ao8 t858.length co8, .slice Ao9 t861.length co9, .int .i64 t864, .int .i64 t865] rfl pM ?_; (with_reducible refine (impl_DishNeeds.calls k _ _ t858 _ _ t861 t864 t865 t866 t867 _ ?side1 ?side2 ?side3 ?side4 A4.out).mono ?_); (case side1 => exact pS ((Kd.N_reads' HO860.out).2.2)); (case side2 => exact (Kd.N_reads' HO860.out).2.1); (case side3 => exact pS ((Kd.R_reads' HO863.out).2.2)); (case side4 => exact (Kd.R_reads' HO863.out).2.1); rintro e w10 ⟨v868, rfl, ho0, hb⟩; refine ⟨_, rfl, ?_⟩; have n0_ := Aside0.mk (Kd.N_elder' (by (with_reducible repeat (first | apply Kd.N_alloc | apply Kd.N_drewN | apply Kd.N_drew)); exact HO860.out) (Kd.R_base ho0) hb); have n1_ := Aside0.mk (Kd.R_below (pR HO863) hb); have n2_ := Aside0.mk (Kd.R_lower ho0 (below_size pB)); have n3_ := Aside0.mk (below_step pB hb); clear HO860; clear HO863; clear HB; have HO860 := n0_; have HO863 := n1_; have HO869 := n2_; have HB := n3_; clear n0_ n1_ n2_ n3_; (try clear hb); (try clear hb2); (try clear hk); (try clear hi); (try clear ho0)) | ((with_reducible refine gate_callee (f := 37) rfl ?_); refine goesL_ (some 39) rfl rfl Try.func37 pL rfl #[.slice Ao8 t858.length co8, .slice Ao9 t861.length co9, .int .i64 t864, .int .i64 t865] rfl pM ?_; (with_reducible refine (spec_DishNeeds.calls k _ _ t858 _ _ t861 t864 t865 t870 t871 _ ?side1 ?side2 ?side3 ?side4 A5.out).mono ?_); (case side1 => exact pS ((Kd.N_reads' HO860.out).2.2)); (case side2 => exact (Kd.N_reads' HO860.out).2.1); (case side3 => exact pS ((Kd.R_reads' HO863.out).2.2)); (case side4 => exact (Kd.R_reads' HO863.out).2.1); rintro e w11 ⟨v872, rfl, ho0, hb⟩; refine ⟨_, rfl, ?_⟩; have n0_ := Aside0.mk (Kd.N_elder' (by (with_reducible repeat (first | apply Kd.N_alloc | apply Kd.N_drewN | apply Kd.N_drew)); exact HO860.out) (Kd.R_base ho0) hb); have n1_ := Aside0.mk (Kd.R_below (pR HO863) hb); have n2_ := Aside0.mk (Kd.R_elder' (pR HO869) (Kd.R_base ho0) hb); have n3_ := Aside0.mk (Kd.R_lower (Kd.R_new' ho0 (Kd.R_lt (pR HO869))) (below_size pB)); have n4_ := Aside0.mk (below_step pB hb); clear HO860; clear HO863; clear HO869; clear HB; have HO860 := n0_; have HO863 := n1_; have HO869 := n2_; have HO873 := n3_; have HB := n4_; clear n0_ n1_ n2_ n3_ n4_; (try clear hb); (try clear hb2); (try clear hk); (try clear hi); (try clear ho0)))
 (try simp only [Act.put, List.setIfInBounds_toArray, List.set_cons_zero, List.set_cons_succ])
 go_cut [54] (fun v54 wc => ∃ (kq : Nat) (x54_5 : Bool), v54 = .bool x54_5 ∧ Aside0 (laws_FnNeedsParts.j0 kq t858 t861 t864 t865 t866 t867 t870 t871 x54_5 = some r) ∧ Aside0 (kq ≤ k) ∧ Aside0 (Kd.N k29 29 wc w.heap.size (fun k_ => some k_ ≠ ((.slice Ao9 t861.length co9) : Value).ownBlock ∧ some k_ ≠ (v868 : Value).ownBlock ∧ some k_ ≠ (v872 : Value).ownBlock) (.slice Ao8 t858.length co8) t858) ∧ Aside0 (Kd.R k63 63 wc w.heap.size (fun _ => True) (.slice Ao9 t861.length co9) t861) ∧ Aside0 (Kd.R (Kd.int .i64) 3 wc w.heap.size (fun k_ => some k_ ≠ (v872 : Value).ownBlock) v868 t866) ∧ Aside0 (Kd.R (Kd.int .i64) 3 wc w.heap.size (fun k_ => some k_ ≠ (v868 : Value).ownBlock) v872 t870) ∧ Aside0 (Below w.heap.size w wc))
 case first =>
  have H := HC6.out
  clear HC6
  by_cases c12 : (t867 != t871) = true
  ·rw [if_pos c12] at H
   have c12b0 : (t867 != t871) = true := c12
   (try (have c12b1 : decide (t867 = t871) = false := by simpa using c12))
   (try (have c12b2 : (t867 == t871) = false := by simpa using c12))
   (try (have c12b3 : ¬ (t867 = t871) := by simpa using c12))
   clear c12
   (first | rw [c12b0] | (simp only [i64_w, i32_w]; rw [c12b0]) | skip)
   have H' := Aside0.mk H
   clear H
   go_wp2
   go_meet
   case rel => exact ⟨_, (true), pF, H', ⟨by first | omega | exact Nat.le_refl _⟩, ⟨by (with_reducible repeat (first | apply Kd.N_alloc | apply Kd.N_drewN | apply Kd.N_drew)); exact Kd.N_mono HO860.out (fun _ hk => ⟨hk.1.1, ⟨hk.1.2, hk.2⟩⟩)⟩, ⟨pR HO863⟩, ⟨by (with_reducible repeat (first | apply Kd.R_alloc | apply Kd.R_drewN | apply Kd.R_drew)); exact Kd.R_mono HO869.out (fun _ hk => hk.2)⟩, ⟨by (with_reducible repeat (first | apply Kd.R_alloc | apply Kd.R_drewN | apply Kd.R_drew)); exact Kd.R_mono HO873.out (fun _ hk => hk.2)⟩, ⟨pB⟩⟩
  rw [if_neg c12] at H
  have c12b0 : (t867 != t871) = false := by simpa using c12
  (try (have c12b1 : decide (t867 = t871) = true := by simpa using c12))
  (try (have c12b2 : (t867 == t871) = true := by simpa using c12))
  clear c12
  (first | rw [c12b0] | (simp only [i64_w, i32_w]; rw [c12b0]) | skip)
  replace H := Option.bind_eq_some_iff.mp H
  obtain ⟨t874, A130, H⟩ := H
  replace H : (if t874 = true then (laws_FnNeedsParts.j0 k t858 t861 t864 t865 t866 t867 t870 t871 (!t867)) else (laws_FnNeedsParts.j0 k t858 t861 t864 t865 t866 t867 t870 t871 true)) = some r := H
  have A13 := Aside0.mk A130
  clear A130
  by_cases c14 : t874 = true
  ·subst c14
   have H1 : (laws_FnNeedsParts.j0 k t858 t861 t864 t865 t866 t867 t870 t871 (!t867)) = some r := by rw [if_pos rfl] at H; exact H
   clear H
   have H := H1
   clear H1
   have H' := Aside0.mk H
   clear H
   obtain ⟨Ao15, co15, eo15⟩ := Kd.R_slice HO869.out
   subst eo15
   obtain ⟨Ao16, co16, eo16⟩ := Kd.R_slice HO873.out
   subst eo16
   go_wp2_with (first | (go_at_call 43; (with_reducible refine (laws_sameInts.calls k _ _ t866 _ _ t870 true _ ?side1 ?side2 ?side3 ?side4 A13.out).mono ?_); (case side1 => exact pS ((Kd.R_reads' HO869.out).2.2)); (case side2 => exact (Kd.R_reads' HO869.out).2.1); (case side3 => exact pS ((Kd.R_reads' HO873.out).2.2)); (case side4 => exact (Kd.R_reads' HO873.out).2.1); rintro e w' ⟨rfl, ⟨nd, rfl⟩⟩))
   go_meet
   case rel => exact ⟨_, (!t867), pF, H', ⟨by first | omega | exact Nat.le_refl _⟩, ⟨by (with_reducible repeat (first | apply Kd.N_alloc | apply Kd.N_drewN | apply Kd.N_drew)); exact Kd.N_mono HO860.out (fun _ hk => ⟨hk.1.1, ⟨hk.1.2, hk.2⟩⟩)⟩, ⟨pR HO863⟩, ⟨by (with_reducible repeat (first | apply Kd.R_alloc | apply Kd.R_drewN | apply Kd.R_drew)); exact Kd.R_mono HO869.out (fun _ hk => hk.2)⟩, ⟨by (with_reducible repeat (first | apply Kd.R_alloc | apply Kd.R_drewN | apply Kd.R_drew)); exact Kd.R_mono HO873.out (fun _ hk => hk.2)⟩, ⟨pB⟩⟩
  replace c14 := Bool.eq_false_iff.mpr c14
  subst c14
  have H1 : (laws_FnNeedsParts.j0 k t858 t861 t864 t865 t866 t867 t870 t871 true) = some r := by rw [if_neg (show ¬ (false = true) by decide)] at H; exact H
  clear H
  have H := H1
  clear H1
  have H' := Aside0.mk H
  clear H
  obtain ⟨Ao17, co17, eo17⟩ := Kd.R_slice HO869.out
  subst eo17
  obtain ⟨Ao18, co18, eo18⟩ := Kd.R_slice HO873.out
  subst eo18
  go_wp2_with (first | (go_at_call 43; (with_reducible refine (laws_sameInts.calls k _ _ t866 _ _ t870 false _ ?side1 ?side2 ?side3 ?side4 A13.out).mono ?_); (case side1 => exact pS ((Kd.R_reads' HO869.out).2.2)); (case side2 => exact (Kd.R_reads' HO869.out).2.1); (case side3 => exact pS ((Kd.R_reads' HO873.out).2.2)); (case side4 => exact (Kd.R_reads' HO873.out).2.1); rintro e w' ⟨rfl, ⟨nd, rfl⟩⟩))
  go_meet
  case rel => exact ⟨_, (true), pF, H', ⟨by first | omega | exact Nat.le_refl _⟩, ⟨by (with_reducible repeat (first | apply Kd.N_alloc | apply Kd.N_drewN | apply Kd.N_drew)); exact Kd.N_mono HO860.out (fun _ hk => ⟨hk.1.1, ⟨hk.1.2, hk.2⟩⟩)⟩, ⟨pR HO863⟩, ⟨by (with_reducible repeat (first | apply Kd.R_alloc | apply Kd.R_drewN | apply Kd.R_drew)); exact Kd.R_mono HO869.out (fun _ hk => hk.2)⟩, ⟨by (with_reducible repeat (first | apply Kd.R_alloc | apply Kd.R_drewN | apply Kd.R_drew)); exact Kd.R_mono HO873.out (fun _ hk => hk.2)⟩, ⟨pB⟩⟩
 case rest =>
  clear HC6
  try clear c1
  try clear c2
  try clear c2b0
  try clear c2b1
  try clear p2
  try clear c3
  try clear c4
  try clear c12
  try clear c12b0
  try clear c12b1
  try clear c12b2
  try clear c13
  try clear c14
  obtain ⟨kq, x54_5, rfl, HA, HJ5, HO_3, HO_4, HO_7, HO_9, HB⟩ := hcut
  cases kq with
  | zero => exact absurd HA.out (by simp [laws_FnNeedsParts.j0])
  | succ kj5 =>
   have H := HA.out
   clear HA
   simp only [laws_FnNeedsParts.j0] at H
   by_cases c19 : x54_5 = true
   ·subst c19
    have H1 : (if (t867 == t871) = true then ((laws_sameInts.f kj5 t866 t870).bind fun t875 => (some t875)) else (some false)) = some r := by rw [if_pos rfl] at H; exact H
    clear H
    have H := H1
    clear H1
    rcases (Classical.em ((t867 == t871) = true)).symm with c20 | c20
    ·rw [if_neg c20] at H
     have c20b0 : (t867 == t871) = false := by simpa using c20
     (try (have c20b1 : decide (t867 = t871) = false := by simpa using c20))
     (try (have c20b2 : (t867 == t871) = false := by simpa using c20))
     (try (have c20b3 : ¬ (t867 = t871) := by simpa using c20))
     clear c20
     obtain rfl := Option.some.inj H
     go_wp2
     go_ret
     exact ⟨pE, pB⟩
    rw [if_pos c20] at H
    have c20b0 : (t867 == t871) = true := c20
    (try (have c20b1 : decide (t867 = t871) = true := by simpa using c20))
    (try (have c20b2 : (t867 == t871) = true := by simpa using c20))
    clear c20
    replace H := Option.bind_eq_some_iff.mp H
    obtain ⟨t875, A210, H⟩ := H
    replace H : (some t875) = some r := H
    have A21 := Aside0.mk A210
    clear A210
    obtain rfl := Option.some.inj H
    obtain ⟨Ao22, co22, eo22⟩ := Kd.R_slice HO_7.out
    subst eo22
    obtain ⟨Ao23, co23, eo23⟩ := Kd.R_slice HO_9.out
    subst eo23
    go_wp2_with (first | (go_at_call 43; (with_reducible refine (laws_sameInts.calls kj5 _ _ t866 _ _ t870 t875 _ ?side1 ?side2 ?side3 ?side4 A21.out).mono ?_); (case side1 => exact pS ((Kd.R_reads' HO_7.out).2.2)); (case side2 => exact (Kd.R_reads' HO_7.out).2.1); (case side3 => exact pS ((Kd.R_reads' HO_9.out).2.2)); (case side4 => exact (Kd.R_reads' HO_9.out).2.1); rintro e w' ⟨rfl, ⟨nd, rfl⟩⟩))
    go_ret
    exact ⟨pE, pB⟩
   replace c19 := Bool.eq_false_iff.mpr c19
   subst c19
   have H1 : ((impl_DishesFind.f t858 t864).bind fun t876 => (if 0 ≤ t876 then (if t876 < (t858.length : Int) then (laws_FnNeedsParts.l0 kj5 t858 t861 t865 t866 0 ((rd_T29 t858 t876).f0) ((rd_T29 t858 t876).f1) ((rd_T29 t858 t876).f2)) else (none)) else (none))) = some r := by rw [if_neg (show ¬ (false = true) by decide)] at H; exact H
   clear H
   have H := H1
   clear H1
   replace H := Option.bind_eq_some_iff.mp H
   obtain ⟨t876, A240, H⟩ := H
   replace H : (if 0 ≤ t876 then (if t876 < (t858.length : Int) then (laws_FnNeedsParts.l0 kj5 t858 t861 t865 t866 0 ((rd_T29 t858 t876).f0) ((rd_T29 t858 t876).f1) ((rd_T29 t858 t876).f2)) else (none)) else (none)) = some r := H
   have A24 := Aside0.mk A240
   clear A240
   rcases (Classical.em (0 ≤ t876)).symm with c25 | c25
   ·rw [if_neg c25] at H
    exact absurd H (by simp)

   rw [if_pos c25] at H
   have c25b0 : decide (0 ≤ t876) = true := decide_eq_true c25
   clear c25
   rcases (Classical.em (t876 < (t858.length : Int))).symm with c26 | c26
   ·rw [if_neg c26] at H
    exact absurd H (by simp)
   rw [if_pos c26] at H
   have c26b0 : decide (t876 < (t858.length : Int)) = true := decide_eq_true c26
   clear c26
   have H' := Aside0.mk H
   clear H
   go_wp2_with (first | ((with_reducible refine gate_callee (f := 20) rfl ?_); refine goesL_ (some 66) rfl rfl Try.func20 pL rfl #[.slice Ao8 t858.length co8, .int .i64 t864] rfl pM ?_; (with_reducible refine (impl_DishesFind.calls _ _ t858 t864 t876 _ ?side1 ?side2 A24.out).mono ?_); (case side1 => exact pS ((Kd.N_reads' HO_3.out).2.2)); (case side2 => exact (Kd.N_reads' HO_3.out).2.1); rintro e w27 ⟨rfl, hb⟩; refine ⟨_, rfl, ?_⟩; have n0_ := Aside0.mk (Kd.N_below (by (with_reducible repeat (first | apply Kd.N_alloc | apply Kd.N_drewN | apply Kd.N_drew)); exact HO_3.out) hb); have n1_ := Aside0.mk (Kd.R_below (pR HO_4) hb); have n2_ := Aside0.mk (Kd.R_below (pR HO_7) hb); have n3_ := Aside0.mk (Kd.R_below (pR HO_9) hb); have n4_ := Aside0.mk (below_step pB hb); clear HO_3; clear HO_4; clear HO_7; clear HO_9; clear HB; have HO_3 := n0_; have HO_4 := n1_; have HO_7 := n2_; have HO_9 := n3_; have HB := n4_; clear n0_ n1_ n2_ n3_ n4_; (try clear hb); (try clear hb2); (try clear hk); (try clear hi); have p877 : 0 ≤ (t876 : Int) := of_decide_eq_true pA; have q877 : t876 < (t858.length : Int) := of_decide_eq_true pA; obtain ⟨ad877, A877_2, c877_2, e877, hx877_0, hx877_1, hx877_2, hl877_2, hi877_2⟩ := at_T29 (Kd.N_reads' HO_3.out).2.2 t876 p877 q877; cases e877; obtain ⟨ce877, hce877, hMe877, hcc877⟩ := Kd.N_get HO_3.out z29 t876 p877 (by first | exact q877 | exact of_decide_eq_true pA | (have e_ := (Kd.N_reads' HO_3.out).1; omega)); obtain ⟨ua877_2, uc877_2, rfl, ul877_2, ge877_2⟩ := k29_openF hMe877; have hv877_2 := hcc877 2 _ rfl; rw [add_field _ _ 2 (by omega)] at hv877_2; replace hv877_2 := Option.some.inj (hv877_2.symm.trans hx877_2); injection hv877_2 with hva_ hvn_ hvc_; rw [hva_] at ge877_2; rw [hvc_] at ul877_2; have HL877_2 := Aside0.mk (show Kd.V k55 55 _ w.heap.size _ _ ((rd_T29 t858 t876).f2) from Kd.V_mk ul877_2 ge877_2); clear hva_ hvn_ hvc_ ge877_2 ul877_2; clear hcc877 hce877; have HR877_2 := Aside0.mk (hi877_2); have HC877_2 := Aside0.mk hl877_2; clear hi877_2 hl877_2; replace p877 := eq_true p877; replace q877 := eq_true q877) | ((with_reducible refine gate_dst (N := 11) rfl ?_); (try (refine gate_guard (by rfl) ?_; dsimp only)); refine box_event ?hg (N := 11) ?hd (cs := #[.int .i64 0, .int .i64 0, .slice none 0 0]) (t := 29) ?hr ?_; (case hd => rfl); (case hg => rfl); (case hr => first | (go_simp; done) | (go_simp; rfl)); intro gb878 hg w28 hbox hb; have n0_ := Aside0.mk (Kd.N_below (Kd.N_elderB (by (with_reducible repeat (first | apply Kd.N_alloc | apply Kd.N_drewN | apply Kd.N_drew)); exact HO_3.out) gb878 (Nat.le_of_eq hg.symm)) hb); have n1_ := Aside0.mk (Kd.R_below (pR HO_4) hb); have n2_ := Aside0.mk (Kd.R_below (pR HO_7) hb); have n3_ := Aside0.mk (Kd.R_below (pR HO_9) hb); have n4_ := Aside0.mk (Kd.V_below (Kd.V_elderB (by (with_reducible repeat (first | apply Kd.V_alloc | apply Kd.V_drewN | apply Kd.V_drew)); exact HL877_2.out) gb878 (Nat.le_of_eq hg.symm)) hb); have n5_ := Aside0.mk (Kd.C_below F13.q0 hb); have n6_ := Aside0.mk (below_step pB hb); have n7_ := Aside0.mk (hbox); have n8_ := Aside0.mk ((by rw [hg]; exact (below_size pB) : w.heap.size ≤ gb878)); have n9_ := Aside0.mk ((by rw [hg]; exact (below_size pB) : w.heap.size ≤ gb878)); have n10_ := Aside0.mk ((fun ad_ he_ hp_ => by rw [hg]; exact Nat.ne_of_lt (laws_FnNeedsParts.cLt_ (show Kd.C k55 _ A877_2 ((rd_T29 t858 t876).f2).length ((rd_T29 t858 t876).f2) from F13.q0) he_ hp_ (by decide)) : ∀ ad_ : Addr, A877_2 = some ad_ → 0 < ((rd_T29 t858 t876).f2).length → ad_.block ≠ gb878)); clear HO_3; clear HO_4; clear HO_7; clear HO_9; clear HL877_2; clear HR877_2; clear HB; have HO_3 := n0_; have HO_4 := n1_; have HO_7 := n2_; have HO_9 := n3_; have HL877_2 := n4_; have HR877_2 := n5_; have HB := n6_; have BK878 := n7_; have GW878 := n8_; have GE878 := n9_; have NS878_HR877_2 := n10_; clear n0_ n1_ n2_ n3_ n4_ n5_ n6_ n7_ n8_ n9_ n10_; clear hb hbox hg; have hcz29_0 : w28.cell? ⟨gb878, 0, none⟩ = some (.int .i64 0) := (blk_cell BK878.out 0).trans rfl; have hcz29_1 : w28.cell? ⟨gb878, 1, none⟩ = some (.int .i64 0) := (blk_cell BK878.out 1).trans rfl; have hcz29_2 : w28.cell? ⟨gb878, 2, none⟩ = some (.slice none 0 0) := (blk_cell BK878.out 2).trans rfl; have hfz29_0 := blk_frozen BK878.out 0; have hfz29_1 := blk_frozen BK878.out 1; have hfz29_2 := blk_frozen BK878.out 2))
   go_loopg [12] kj5 (fun kq v12 w' => ∃ (x12_2 : Int), v12 = .int .i64 x12_2 ∧ Aside0 (laws_FnNeedsParts.l0 kq t858 t861 t865 t866 x12_2 ((rd_T29 t858 t876).f0) ((rd_T29 t858 t876).f1) ((rd_T29 t858 t876).f2) = some r) ∧ Aside0 (kq ≤ kj5) ∧ Aside0 (Kd.N k29 29 w' w.heap.size (fun k_ => some k_ ≠ ((.slice Ao9 t861.length co9) : Value).ownBlock ∧ some k_ ≠ (v868 : Value).ownBlock ∧ k_ ≠ gb878) (.slice (some ad877) t858.length co8) t858) ∧ Aside0 (Kd.R k63 63 w' w.heap.size (fun _ => True) (.slice Ao9 t861.length co9) t861) ∧ Aside0 (Kd.R (Kd.int .i64) 3 w' w.heap.size (fun _ => True) v868 t866) ∧ Aside0 (w'.heap[gb878]? = some (.cells #[.int .i64 ((rd_T29 t858 t876).f0), .int .i64 ((rd_T29 t858 t876).f1), (.slice A877_2 ((rd_T29 t858 t876).f2).length c877_2)] 29 (0, 0))) ∧ Aside0 (Kd.C k55 w' A877_2 ((rd_T29 t858 t876).f2).length ((rd_T29 t858 t876).f2)) ∧ Aside0 (Below w.heap.size w w'))
   case atStart => exact ⟨(0), pF, H', ⟨Nat.le_refl _⟩, ⟨by (with_reducible repeat (first | apply Kd.N_alloc | apply Kd.N_drewN | apply Kd.N_drew)); exact Kd.N_mono (Kd.N_far (p := ⟨gb878, 2, none⟩) (Kd.N_far (p := ⟨gb878, 1, none⟩) (Kd.N_far (p := ⟨gb878, 0, none⟩) (Kd.N_mono HO_3.out (fun k_ hk => (⟨hk, hk.2⟩ : _ ∧ k_ ≠ gb878))) (fun _ hk => hk.2) (.int .i64 ((rd_T29 t858 t876).f0))) (fun _ hk => hk.2) (.int .i64 ((rd_T29 t858 t876).f1))) (fun _ hk => hk.2) (.slice A877_2 ((rd_T29 t858 t876).f2).length c877_2)) (fun _ hk => ⟨hk.1.1.1, ⟨hk.1.1.2.1, hk.1.2⟩⟩)⟩, ⟨by (with_reducible repeat (first | apply Kd.R_alloc | apply Kd.R_drewN | apply Kd.R_drew)); exact Kd.R_mono (Kd.R_far (p := ⟨gb878, 2, none⟩) (Kd.R_far (p := ⟨gb878, 1, none⟩) (Kd.R_far (p := ⟨gb878, 0, none⟩) (Kd.R_types HO_4.out BK878.out (by decide)) (fun _ hk => hk.2) (.int .i64 ((rd_T29 t858 t876).f0))) (fun _ hk => hk.2) (.int .i64 ((rd_T29 t858 t876).f1))) (fun _ hk => hk.2) (.slice A877_2 ((rd_T29 t858 t876).f2).length c877_2)) (fun _ hk => trivial)⟩, ⟨by (with_reducible repeat (first | apply Kd.R_alloc | apply Kd.R_drewN | apply Kd.R_drew)); exact Kd.R_mono (Kd.R_far (p := ⟨gb878, 2, none⟩) (Kd.R_far (p := ⟨gb878, 1, none⟩) (Kd.R_far (p := ⟨gb878, 0, none⟩) (Kd.R_types HO_7.out BK878.out (by decide)) (fun _ hk => hk.2) (.int .i64 ((rd_T29 t858 t876).f0))) (fun _ hk => hk.2) (.int .i64 ((rd_T29 t858 t876).f1))) (fun _ hk => hk.2) (.slice A877_2 ((rd_T29 t858 t876).f2).length c877_2)) (fun _ hk => trivial)⟩, ⟨by (with_reducible repeat (first | refine blk_drewN ?_ _ | refine blk_drew ?_ | refine blk_alloc ?_ _)); refine blk_put (cs := #[.int .i64 ((rd_T29 t858 t876).f0), .int .i64 ((rd_T29 t858 t876).f1), .slice none 0 0]) ?_ 2 _ rfl; (with_reducible repeat (first | refine blk_drewN ?_ _ | refine blk_drew ?_ | refine blk_alloc ?_ _)); refine blk_put (cs := #[.int .i64 ((rd_T29 t858 t876).f0), .int .i64 0, .slice none 0 0]) ?_ 1 _ rfl; (with_reducible repeat (first | refine blk_drewN ?_ _ | refine blk_drew ?_ | refine blk_alloc ?_ _)); refine blk_put (cs := #[.int .i64 0, .int .i64 0, .slice none 0 0]) ?_ 0 _ rfl; (with_reducible repeat (first | refine blk_drewN ?_ _ | refine blk_drew ?_ | refine blk_alloc ?_ _)); exact BK878.out⟩, ⟨(Kd.V_reads' (by (with_reducible repeat (first | apply Kd.V_alloc | apply Kd.V_drewN | apply Kd.V_drew)); exact (Kd.V_mono (Kd.V_far (p := ⟨gb878, 2, none⟩) (Kd.V_far (p := ⟨gb878, 1, none⟩) (Kd.V_far (p := ⟨gb878, 0, none⟩) (Kd.V_mono HL877_2.out (fun k_ hk => (⟨hk, hk.2⟩ : _ ∧ k_ ≠ gb878))) (fun _ hk => hk.2) (.int .i64 ((rd_T29 t858 t876).f0))) (fun _ hk => hk.2) (.int .i64 ((rd_T29 t858 t876).f1))) (fun _ hk => hk.2) (.slice A877_2 ((rd_T29 t858 t876).f2).length c877_2)) (fun _ h_ => h_.1)))).2.2⟩, ⟨pG GE878⟩⟩
   case round =>
    clear H'
    try clear c1
    try clear c2
    try clear c2b0
    try clear c2b1
    try clear p2
    try clear c3
    try clear c4
    try clear c8
    try clear p8
    try clear q8
    try clear hx8
    try clear c12
    try clear c12b0
    try clear c12b1
    try clear c12b2
    try clear c13
    try clear c14
    try clear c19
    try clear c20
    try clear c20b0
    try clear c20b1
    try clear c20b2
    try clear c25
    try clear c25b0
    try clear c26
    try clear c26b0
    try clear hcz29_0
    try clear hcz29_1
    try clear hcz29_2
    try clear hfz29_0
    try clear hfz29_1
    try clear hfz29_2
    try clear hx877_0
    try clear hx877_1
    try clear hx877_2
    try clear p2
    try clear p877
    try clear q877
    obtain ⟨x12_2, rfl, HA, HK2, HO_3, HO_4, HO_7, BK878, HR877_2, HB⟩ := hrel
    cases gk with
    | zero => exact absurd HA.out (by simp [laws_FnNeedsParts.l0])
    | succ k2 =>
     have H := HA.out
     clear HA
     simp only [laws_FnNeedsParts.l0] at H
     rcases (Classical.em (x12_2 < (((rd_T29 t858 t876).f2).length : Int))).symm with c30 | c30
     ·rw [if_neg c30] at H
      have c30b0 : decide (x12_2 < (((rd_T29 t858 t876).f2).length : Int)) = false := decide_eq_false c30
      clear c30
      obtain rfl := Option.some.inj H
      have hcz58_0 : wr.cell? ⟨gb878, 0, none⟩ = some (.int .i64 ((rd_T29 t858 t876).f0)) := (blk_cell BK878.out 0).trans rfl
      have hcz58_1 : wr.cell? ⟨gb878, 1, none⟩ = some (.int .i64 ((rd_T29 t858 t876).f1)) := (blk_cell BK878.out 1).trans rfl
      have hcz58_2 : wr.cell? ⟨gb878, 2, none⟩ = some (.slice A877_2 ((rd_T29 t858 t876).f2).length c877_2) := (blk_cell BK878.out 2).trans rfl
      have hfz58_0 := blk_frozen BK878.out 0
      have hfz58_1 := blk_frozen BK878.out 1
      have hfz58_2 := blk_frozen BK878.out 2
      go_wp2
      go_ret
      exact ⟨pE, pG GE878⟩
     rw [if_pos c30] at H
     have c30b0 : decide (x12_2 < (((rd_T29 t858 t876).f2).length : Int)) = true := decide_eq_true c30
     clear c30
     rcases (Classical.em (0 ≤ x12_2)).symm with c31 | c31
     ·rw [if_neg c31] at H
      exact absurd H (by simp)
     rw [if_pos c31] at H
     have c31b0 : decide (0 ≤ x12_2) = true := decide_eq_true c31
     clear c31
     rcases (Classical.em (((rd_T55 ((rd_T29 t858 t876).f2) x12_2).f1) > 0)).symm with c32 | c32
     ·rw [if_neg c32] at H
      have c32b0 : decide (0 < ((rd_T55 ((rd_T29 t858 t876).f2) x12_2).f1)) = false := decide_eq_false c32
      clear c32
      have H' := Aside0.mk H
      clear H
      have hcz57_0 : wr.cell? ⟨gb878, 0, none⟩ = some (.int .i64 ((rd_T29 t858 t876).f0)) := (blk_cell BK878.out 0).trans rfl
      have hcz57_1 : wr.cell? ⟨gb878, 1, none⟩ = some (.int .i64 ((rd_T29 t858 t876).f1)) := (blk_cell BK878.out 1).trans rfl
      have hcz57_2 : wr.cell? ⟨gb878, 2, none⟩ = some (.slice A877_2 ((rd_T29 t858 t876).f2).length c877_2) := (blk_cell BK878.out 2).trans rfl
      have hfz57_0 := blk_frozen BK878.out 0
      have hfz57_1 := blk_frozen BK878.out 1
      have hfz57_2 := blk_frozen BK878.out 2
      have p879 : 0 ≤ (x12_2 : Int) := of_decide_eq_true pA
      have q879 : x12_2 < (((rd_T29 t858 t876).f2).length : Int) := of_decide_eq_true pA
      obtain ⟨ad879, e879, hx879_0, hx879_1, hx879_2⟩ := at_T55 F13.q0 x12_2 p879 q879
      cases e879
      replace p879 := eq_true p879
      replace q879 := eq_true q879
      go_wp2
      go_roundg k2
      case measure => have := HJ5.out; have := HK2.out; omega
      case rel => exact ⟨(wrap64 (x12_2 + 1)), pF, H', ⟨by have := HJ5.out; have := HK2.out; omega⟩, ⟨by (with_reducible repeat (first | apply Kd.N_alloc | apply Kd.N_drewN | apply Kd.N_drew)); exact HO_3.out⟩, ⟨pR HO_4⟩, ⟨pR HO_7⟩, ⟨pC BK878⟩, ⟨by repeat (first | (with_reducible exact HR877_2.out) | (with_reducible refine Kd.C_alloc ?_ _) | (with_reducible refine Kd.C_drewN ?_ _) | (with_reducible refine Kd.C_drew ?_) | exact HR877_2.out)⟩, ⟨pG GE878⟩⟩
     rw [if_pos c32] at H
     have c32b0 : decide (0 < ((rd_T55 ((rd_T29 t858 t876).f2) x12_2).f1)) = true := decide_eq_true c32
     clear c32
     by_cases c33 : ((rd_T29 t858 t876).f1) = 0
     ·rw [if_pos c33] at H
      exact absurd H (by simp)
     rw [if_neg c33] at H
     have c33b0 : (((rd_T29 t858 t876).f1) == 0) = false := beq_eq_false_iff_ne.mpr c33
     have c33b1 : (((rd_T29 t858 t876).f1) != 0) = true := bne_iff_ne.mpr c33
     obtain ⟨ji34, hji34⟩ : ∃ j_ : Int, (mn (wrap64 (Int.tdiv (wrap64 (t865 * ((rd_T55 ((rd_T29 t858 t876).f2) x12_2).f2))) ((rd_T29 t858 t876).f1))) 300) = j_ := ⟨_, rfl⟩
     replace H : ((impl_DishNeeds.f k2 t858 t861 ((rd_T55 ((rd_T29 t858 t876).f2) x12_2).f1) (ji34)).bind fun bt882 => (laws_FnNeedsParts.l1 k2 t858 t861 t865 t866 x12_2 bt882.1 bt882.2 0 ((rd_T29 t858 t876).f0) ((rd_T29 t858 t876).f1) ((rd_T29 t858 t876).f2))) = some r := by first | (rw [hji34] at H; exact H) | (simp only [hji34] at H ⊢; exact H)
     have hji34_ : (if 300 < (wrap64 (Int.tdiv (wrap64 (t865 * ((rd_T55 ((rd_T29 t858 t876).f2) x12_2).f2))) ((rd_T29 t858 t876).f1))) then 300 else (wrap64 (Int.tdiv (wrap64 (t865 * ((rd_T55 ((rd_T29 t858 t876).f2) x12_2).f2))) ((rd_T29 t858 t876).f1)))) = ji34 := hji34
     replace H := Option.bind_eq_some_iff.mp H
     obtain ⟨⟨t882, t883⟩, A350, H⟩ := H
     replace H : (laws_FnNeedsParts.l1 k2 t858 t861 t865 t866 x12_2 t882 t883 0 ((rd_T29 t858 t876).f0) ((rd_T29 t858 t876).f1) ((rd_T29 t858 t876).f2)) = some r := H
     have A35 := Aside0.mk A350
     clear A350
     have H' := Aside0.mk H
     clear H
     have hcz36_0 : wr.cell? ⟨gb878, 0, none⟩ = some (.int .i64 ((rd_T29 t858 t876).f0)) := (blk_cell BK878.out 0).trans rfl
     have hcz36_1 : wr.cell? ⟨gb878, 1, none⟩ = some (.int .i64 ((rd_T29 t858 t876).f1)) := (blk_cell BK878.out 1).trans rfl
     have hcz36_2 : wr.cell? ⟨gb878, 2, none⟩ = some (.slice A877_2 ((rd_T29 t858 t876).f2).length c877_2) := (blk_cell BK878.out 2).trans rfl
     have hfz36_0 := blk_frozen BK878.out 0
     have hfz36_1 := blk_frozen BK878.out 1
     have hfz36_2 := blk_frozen BK878.out 2
     have p879 : 0 ≤ (x12_2 : Int) := of_decide_eq_true pA
     have q879 : x12_2 < (((rd_T29 t858 t876).f2).length : Int) := of_decide_eq_true pA
     obtain ⟨ad879, e879, hx879_0, hx879_1, hx879_2⟩ := at_T55 F13.q0 x12_2 p879 q879
     cases e879
     replace p879 := eq_true p879
     replace q879 := eq_true q879
     try go_wp2
     have n0_ := Aside0.mk (Kd.N_drew HO_3.out)
     have n1_ := Aside0.mk (Kd.R_drew HO_4.out)
     have n2_ := Aside0.mk (Kd.R_drew HO_7.out)
     have n3_ := Aside0.mk (blk_drew BK878.out)
     have n4_ := Aside0.mk (Kd.C_drew HR877_2.out)
     have n5_ := Aside0.mk (below_drew1 HB.out)
     clear HO_3
     clear HO_4
     clear HO_7
     clear BK878
     clear HR877_2
     clear HB
     have HO_3 := n0_
     have HO_4 := n1_
     have HO_7 := n2_
     have BK878 := n3_
     have HR877_2 := n4_
     have HB := n5_
     clear n0_ n1_ n2_ n3_ n4_ n5_
     have p880 : 0 ≤ (x12_2 : Int) := of_decide_eq_true pA
     have q880 : x12_2 < (((rd_T29 t858 t876).f2).length : Int) := of_decide_eq_true pA
     obtain ⟨ad880, e880, hx880_0, hx880_1, hx880_2⟩ := at_T55 F13.q0 x12_2 p880 q880
     obtain rfl : ad879 = ad880 := (by injection e880)
     replace p880 := eq_true p880
     replace q880 := eq_true q880
     have p881 : 0 ≤ (x12_2 : Int) := of_decide_eq_true pA
     have q881 : x12_2 < (((rd_T29 t858 t876).f2).length : Int) := of_decide_eq_true pA
     obtain ⟨ad881, e881, hx881_0, hx881_1, hx881_2⟩ := at_T55 F13.q0 x12_2 p881 q881
     obtain rfl : ad879 = ad881 := (by injection e881)
     replace p881 := eq_true p881
     replace q881 := eq_true q881
     refine start_ (n := 26) (S := fun w' => w'.cell? ⟨gb878, 0, none⟩ = some (.int .i64 ((rd_T29 t858 t876).f0)) ∧ w'.cell? ⟨gb878, 1, none⟩ = some (.int .i64 ((rd_T29 t858 t876).f1)) ∧ w'.cell? ⟨gb878, 2, none⟩ = some (.slice (some ad879) ((rd_T29 t858 t876).f2).length c877_2) ∧ w'.cell? (ad879.add ((x12_2).toNat * 3)) = some (.int .i64 ((rd_T55 ((rd_T29 t858 t876).f2) x12_2).f0)) ∧ w'.cell? ⟨(ad879.add ((x12_2).toNat * 3)).block, (ad879.add ((x12_2).toNat * 3)).off + 1, none⟩ = some (.int .i64 ((rd_T55 ((rd_T29 t858 t876).f2) x12_2).f1)) ∧ w'.cell? ⟨(ad879.add ((x12_2).toNat * 3)).block, (ad879.add ((x12_2).toNat * 3)).off + 2, none⟩ = some (.int .i64 ((rd_T55 ((rd_T29 t858 t876).f2) x12_2).f2)) ∧ w'.cell? (ad879.add ((x12_2).toNat * 3)) = some (.int .i64 ((rd_T55 ((rd_T29 t858 t876).f2) x12_2).f0)) ∧ w'.cell? ⟨(ad879.add ((x12_2).toNat * 3)).block, (ad879.add ((x12_2).toNat * 3)).off + 1, none⟩ = some (.int .i64 ((rd_T55 ((rd_T29 t858 t876).f2) x12_2).f1)) ∧ w'.cell? ⟨(ad879.add ((x12_2).toNat * 3)).block, (ad879.add ((x12_2).toNat * 3)).off + 2, none⟩ = some (.int .i64 ((rd_T55 ((rd_T29 t858 t876).f2) x12_2).f2))) (ds := []) #[false, false, false, false, false, false, false, false, false, false, false, false, false, false, false, false, false, false, false, false, false, false, false, false, false, false] pL rfl rfl ⟨(blk_cell BK878.out 0).trans rfl, (blk_cell BK878.out 1).trans rfl, (blk_cell BK878.out 2).trans rfl, hx880_0, hx880_1, hx880_2, hx881_0, hx881_1, hx881_2⟩ (fun hHeld => ?_); refine with_tabW laws_FnNeedsParts.tab13 laws_FnNeedsParts.bits13 (fun HT_ HW_ => ?_)
     generalize wr.drew = w37 at HO_3 HO_4 HO_7 BK878 HR877_2 HB hx880_0 hx880_1 hx880_2 hx881_0 hx881_1 hx881_2 hHeld ⊢
     refine pv 0 (some 84) HT_ rfl rfl pL ?_
     refine pv 1 (some 85) HT_ rfl rfl pL ?_
     refine pv 2 (some 86) HT_ rfl rfl pL ?_
     refine pv 4 (some 88) HT_ rfl rfl pL ?_
     refine pv 8 (some 92) HT_ rfl rfl pL ?_
     refine pv 9 (some 93) HT_ rfl rfl pL ?_
     refine pv 11 (some 95) HT_ rfl rfl pL ?_
     refine pv 16 (some 100) HT_ rfl rfl pL ?_
     refine tk 3 (some 87) #[true, true, true, true, true, false, false, false, true, true, false, true, false, false, false, false, true, false, false, false, false, false, false, false, false, false] HT_ HW_ rfl rfl pL (fun _ _ _ h => h) (by rfl) (by rintro w' ⟨s0, s1, s2, s3, s4, s5, s6, s7, s8⟩; go_simp; with_reducible rfl) hHeld pP ?_
     refine pv 5 (some 89) HT_ rfl rfl pL ?_
     refine pv 6 (some 90) HT_ rfl rfl pL ?_
     refine tv 7 (some 91) HT_ HW_ rfl rfl pL (fun _ _ _ h => h) (by rfl) (by rintro w' ⟨s0, s1, s2, s3, s4, s5, s6, s7, s8⟩; go_simp; with_reducible rfl) hHeld pP ?_
     refine tv 10 (some 94) HT_ HW_ rfl rfl pL (fun _ _ _ h => h) (by rfl) (by rintro w' ⟨s0, s1, s2, s3, s4, s5, s6, s7, s8⟩; go_simp; with_reducible rfl) hHeld pP ?_
     refine pv 12 (some 96) HT_ rfl rfl pL ?_
     refine pv 13 (some 97) HT_ rfl rfl pL ?_
     refine tv 14 (some 98) HT_ HW_ rfl rfl pL (fun _ _ _ h => h) (by rfl) (by rintro w' ⟨s0, s1, s2, s3, s4, s5, s6, s7, s8⟩; go_simp; with_reducible rfl) hHeld pP ?_
     refine pv 15 (some 99) HT_ rfl rfl pL ?_
     refine tk 17 (some 101) #[true, true, true, true, true, true, true, true, true, true, true, true, true, true, true, true, true, true, false, false, false, false, false, false, false, false] HT_ HW_ rfl rfl pL (fun _ _ _ h => h) (by rfl) (by rintro w' ⟨s0, s1, s2, s3, s4, s5, s6, s7, s8⟩; go_simp; with_reducible rfl) hHeld pP ?_
     refine pv 18 (some 102) HT_ rfl rfl pL ?_
     refine pv 19 (some 103) HT_ rfl rfl pL ?_
     refine one_ (i := 20) (N := some 104) #[true, true, true, true, true, true, true, true, true, true, true, true, true, true, true, true, true, true, true, true, true, false, false, false, false, false] rfl rfl (one_of HT_.out pL) (by decide) (fun K hK => ?_)
     refine goes_ Try.func38 pL rfl #[.slice (some ad877) t858.length co8, .slice Ao9 t861.length co9, .int .i64 ((rd_T55 ((rd_T29 t858 t876).f2) x12_2).f1), .int .i64 ji34] (by rfl) rfl rfl (by (try simp only [List.map_toArray, List.map_cons, List.map_nil]); first | done | (simp only [hji34]; rfl) | rfl | (simp only [List.length_drop, List.length_take]; rfl)) ?_
     with_reducible refine (impl_DishNeeds.calls k2 _ _ t858 _ _ t861 ((rd_T55 ((rd_T29 t858 t876).f2) x12_2).f1) ji34 t882 t883 _ ?side1 ?side2 ?side3 ?side4 A35.out).mono ?_
     (case side1 => exact pS ((Kd.N_reads' HO_3.out).2.2))
     (case side2 => exact (Kd.N_reads' HO_3.out).2.1)
     (case side3 => exact pS ((Kd.R_reads' HO_4.out).2.2))
     (case side4 => exact (Kd.R_reads' HO_4.out).2.1)
     rintro e w38 ⟨v884, rfl, ho0, hb⟩
     have HS3_ := (hb.cell (World.block_lt_of_cell? _ _ (hHeld.2.2.2.1))).trans (hHeld.2.2.2.1)
     have HS4_ := (hb.cell (World.block_lt_of_cell? _ _ (hHeld.2.2.2.2.1))).trans (hHeld.2.2.2.2.1)
     have HS5_ := (hb.cell (World.block_lt_of_cell? _ _ (hHeld.2.2.2.2.2.1))).trans (hHeld.2.2.2.2.2.1)
     have HS6_ := (hb.cell (World.block_lt_of_cell? _ _ (hHeld.2.2.2.2.2.2.1))).trans (hHeld.2.2.2.2.2.2.1)
     have HS7_ := (hb.cell (World.block_lt_of_cell? _ _ (hHeld.2.2.2.2.2.2.2.1))).trans (hHeld.2.2.2.2.2.2.2.1)
     have HS8_ := (hb.cell (World.block_lt_of_cell? _ _ (hHeld.2.2.2.2.2.2.2.2))).trans (hHeld.2.2.2.2.2.2.2.2)
     refine ⟨_, rfl, ?_⟩
     have n0_ := Aside0.mk (Kd.N_elder' (by (with_reducible repeat (first | apply Kd.N_alloc | apply Kd.N_drewN | apply Kd.N_drew)); exact HO_3.out) (Kd.R_base ho0) hb)
     have n1_ := Aside0.mk (Kd.R_below (pR HO_4) hb)
     have n2_ := Aside0.mk (Kd.R_elder' (pR HO_7) (Kd.R_base ho0) hb)
     have n3_ := Aside0.mk (Kd.R_lower (Kd.R_new' ho0 (Kd.R_lt (pR HO_7))) (below_size (pG GE878)))
     have n4_ := Aside0.mk (blk_below (g := gb878) (o := .cells #[.int .i64 ((rd_T29 t858 t876).f0), .int .i64 ((rd_T29 t858 t876).f1), .slice (some ad879) ((rd_T29 t858 t876).f2).length c877_2] 29 (0, 0)) (pC BK878) hb)
     have n5_ := Aside0.mk (Kd.C_below F13.q0 hb)
     have n6_ := Aside0.mk (below_step (pG GE878) hb)
     clear HO_3
     clear HO_4
     clear HO_7
     clear BK878
     clear HR877_2
     clear HB
     have HO_3 := n0_
     have HO_4 := n1_
     have HO_7 := n2_
     have HO885 := n3_
     have BK878 := n4_
     have HR877_2 := n5_
     have HB := n6_
     clear n0_ n1_ n2_ n3_ n4_ n5_ n6_
     (try clear hb)
     (try clear hb2)
     (try clear hk)
     (try clear hi)
     (try clear ho0)
     refine hK.out _ _ ⟨(blk_cell BK878.out 0).trans rfl, (blk_cell BK878.out 1).trans rfl, (blk_cell BK878.out 2).trans rfl, HS3_, HS4_, HS5_, HS6_, HS7_, HS8_⟩ (fun hHeld => ?_)
     clear hK K
     refine norm_ (a' := ?_) ?_ ?_
     rotate_left
     ·show Act.put _ (some 104) _ = _
      exact pP
     refine pv 21 (some 83) HT_ rfl rfl pL ?_
     refine pv 22 (some 105) HT_ rfl rfl pL ?_
     refine pv 23 (some 106) HT_ rfl rfl pL ?_
     refine pv 24 (some 13) HT_ rfl rfl pL ?_
     refine pv 25 (some 14) HT_ rfl rfl pL ?_
     refine done_ (done_of HT_.out pL) ?_
     try go_wp2
     go_loopg [15] k2 (fun kq v15 w' => ∃ (x15_3 : Int), v15 = .int .i64 x15_3 ∧ Aside0 (laws_FnNeedsParts.l1 kq t858 t861 t865 t866 x12_2 t882 t883 x15_3 ((rd_T29 t858 t876).f0) ((rd_T29 t858 t876).f1) ((rd_T29 t858 t876).f2) = some r) ∧ Aside0 (kq ≤ k2) ∧ Aside0 (Kd.N k29 29 w' w.heap.size (fun k_ => some k_ ≠ ((.slice Ao9 t861.length co9) : Value).ownBlock ∧ some k_ ≠ (v868 : Value).ownBlock ∧ some k_ ≠ (v884 : Value).ownBlock ∧ k_ ≠ gb878) (.slice (some ad877) t858.length co8) t858) ∧ Aside0 (Kd.R k63 63 w' w.heap.size (fun _ => True) (.slice Ao9 t861.length co9) t861) ∧ Aside0 (Kd.R (Kd.int .i64) 3 w' w.heap.size (fun k_ => some k_ ≠ (v884 : Value).ownBlock) v868 t866) ∧ Aside0 (Kd.R (Kd.int .i64) 3 w' w.heap.size (fun k_ => some k_ ≠ (v868 : Value).ownBlock) v884 t882) ∧ Aside0 (w'.heap[gb878]? = some (.cells #[.int .i64 ((rd_T29 t858 t876).f0), .int .i64 ((rd_T29 t858 t876).f1), (.slice (some ad879) ((rd_T29 t858 t876).f2).length c877_2)] 29 (0, 0))) ∧ Aside0 (Kd.C k55 w' (some ad879) ((rd_T29 t858 t876).f2).length ((rd_T29 t858 t876).f2)) ∧ Aside0 (Below w.heap.size w w'))
     case atStart => exact ⟨(0), pF, H', ⟨Nat.le_refl _⟩, ⟨by (with_reducible repeat (first | apply Kd.N_alloc | apply Kd.N_drewN | apply Kd.N_drew)); exact Kd.N_mono HO_3.out (fun _ hk => ⟨hk.1.1, ⟨hk.1.2.1, ⟨hk.2, hk.1.2.2⟩⟩⟩)⟩, ⟨pR HO_4⟩, ⟨by (with_reducible repeat (first | apply Kd.R_alloc | apply Kd.R_drewN | apply Kd.R_drew)); exact Kd.R_mono HO_7.out (fun _ hk => hk.2)⟩, ⟨by (with_reducible repeat (first | apply Kd.R_alloc | apply Kd.R_drewN | apply Kd.R_drew)); exact Kd.R_mono HO885.out (fun _ hk => hk.2)⟩, ⟨pC BK878⟩, ⟨by repeat (first | (with_reducible exact HR877_2.out) | (with_reducible refine Kd.C_alloc ?_ _) | (with_reducible refine Kd.C_drewN ?_ _) | (with_reducible refine Kd.C_drew ?_) | exact HR877_2.out)⟩, ⟨pG GE878⟩⟩
     case round =>
      clear H'
      try clear c1
      try clear c2
      try clear c2b0
      try clear c2b1
      try clear p2
      try clear c3
      try clear c4
      try clear p6
      try clear c8
      try clear p8
      try clear q8
      try clear hx8
      try clear c12
      try clear c12b0
      try clear c12b1
      try clear c12b2
      try clear c13
      try clear c14
      try clear c19
      try clear c20
      try clear c20b0
      try clear c20b1
      try clear c20b2
      try clear c25
      try clear c25b0
      try clear c26
      try clear c26b0
      try clear c30
      try clear c30b0
      try clear c31
      try clear c31b0
      try clear c32
      try clear c32b0
      try clear c33
      try clear c33b0
      try clear c33b1
      try clear c37
      try clear c38
      try clear hcz29_0
      try clear hcz29_1
      try clear hcz29_2
      try clear hcz36_0
      try clear hcz36_1
      try clear hcz36_2
      try clear hfz29_0
      try clear hfz29_1
      try clear hfz29_2
      try clear hfz36_0
      try clear hfz36_1
      try clear hfz36_2
      try clear hx877_0
      try clear hx877_1
      try clear hx877_2
      try clear hx879_0
      try clear hx879_1
      try clear hx879_2
      try clear hx880_0
      try clear hx880_1
      try clear hx880_2
      try clear hx881_0
      try clear hx881_1
      try clear hx881_2
      try clear p2
      try clear p8
      try clear p877
      try clear p879
      try clear p880
      try clear p881
      try clear q8
      try clear q877
      try clear q879
      try clear q880
      try clear q881
      obtain ⟨x15_3, rfl, HA, HK3, HO_3, HO_4, HO_7, HO_13, BK878, HR877_2, HB⟩ := hrel
      cases gk with
      | zero => exact absurd HA.out (by simp [laws_FnNeedsParts.l1])
      | succ k3 =>
       have H := HA.out
       clear HA
       simp only [laws_FnNeedsParts.l1] at H
       have HC39 := Aside0.mk H
       clear H
       go_upto_region 15 with (fail)
       go_cut [119] (fun v119 wc => ∃ (kq : Nat) (x119_38 : Bool), v119 = .bool x119_38 ∧ Aside0 (laws_FnNeedsParts.j3 kq t858 t861 t865 t866 x12_2 t882 t883 x15_3 x119_38 ((rd_T29 t858 t876).f0) ((rd_T29 t858 t876).f1) ((rd_T29 t858 t876).f2) = some r) ∧ Aside0 (kq ≤ k3) ∧ Aside0 (Kd.N k29 29 wc w.heap.size (fun k_ => some k_ ≠ ((.slice Ao9 t861.length co9) : Value).ownBlock ∧ some k_ ≠ (v868 : Value).ownBlock ∧ some k_ ≠ (v884 : Value).ownBlock ∧ k_ ≠ gb878) (.slice (some ad877) t858.length co8) t858) ∧ Aside0 (Kd.R k63 63 wc w.heap.size (fun _ => True) (.slice Ao9 t861.length co9) t861) ∧ Aside0 (Kd.R (Kd.int .i64) 3 wc w.heap.size (fun k_ => some k_ ≠ (v884 : Value).ownBlock) v868 t866) ∧ Aside0 (Kd.R (Kd.int .i64) 3 wc w.heap.size (fun k_ => some k_ ≠ (v868 : Value).ownBlock) v884 t882) ∧ Aside0 (wc.heap[gb878]? = some (.cells #[.int .i64 ((rd_T29 t858 t876).f0), .int .i64 ((rd_T29 t858 t876).f1), (.slice (some ad879) ((rd_T29 t858 t876).f2).length c877_2)] 29 (0, 0))) ∧ Aside0 (Kd.C k55 wc (some ad879) ((rd_T29 t858 t876).f2).length ((rd_T29 t858 t876).f2)) ∧ Aside0 (Below w.heap.size w wc))
       case first =>
        have H := HC39.out
        clear HC39
        rcases (Classical.em (x15_3 < (t882.length : Int))).symm with c40 | c40
        ·rw [if_neg c40] at H
         have c40b0 : decide (x15_3 < (t882.length : Int)) = false := decide_eq_false c40
         clear c40
         (first | rw [c40b0] | (simp only [i64_w, i32_w]; rw [c40b0]) | skip)
         have H' := Aside0.mk H
         clear H
         obtain ⟨Ao45, co45, eo45⟩ := Kd.R_slice HO_13.out
         subst eo45
         go_wp2
         go_meet
         case rel => exact ⟨_, (false), pF, H', ⟨by have := HJ5.out; have := HK2.out; have := HK3.out; first | omega | exact Nat.le_refl _⟩, ⟨by (with_reducible repeat (first | apply Kd.N_alloc | apply Kd.N_drewN | apply Kd.N_drew)); exact HO_3.out⟩, ⟨pR HO_4⟩, ⟨pR HO_7⟩, ⟨pR HO_13⟩, ⟨pC BK878⟩, ⟨by repeat (first | (with_reducible exact HR877_2.out) | (with_reducible refine Kd.C_alloc ?_ _) | (with_reducible refine Kd.C_drewN ?_ _) | (with_reducible refine Kd.C_drew ?_) | exact HR877_2.out)⟩, ⟨pG GE878⟩⟩
        rw [if_pos c40] at H
        have c40b0 : decide (x15_3 < (t882.length : Int)) = true := decide_eq_true c40
        clear c40
        (first | rw [c40b0] | (simp only [i64_w, i32_w]; rw [c40b0]) | skip)
        rcases (Classical.em (t883 = true)).symm with c41 | c41
        ·replace c41 := Bool.eq_false_iff.mpr c41
         subst c41
         have H1 : (laws_FnNeedsParts.j3 k3 t858 t861 t865 t866 x12_2 t882 false x15_3 false ((rd_T29 t858 t876).f0) ((rd_T29 t858 t876).f1) ((rd_T29 t858 t876).f2)) = some r := by rw [if_neg (show ¬ (false = true) by decide)] at H; exact H
         clear H
         have H := H1
         clear H1
         have H' := Aside0.mk H
         clear H
         obtain ⟨Ao44, co44, eo44⟩ := Kd.R_slice HO_13.out
         subst eo44
         go_wp2
         go_meet
         case rel => exact ⟨_, (false), pF, H', ⟨by have := HJ5.out; have := HK2.out; have := HK3.out; first | omega | exact Nat.le_refl _⟩, ⟨by (with_reducible repeat (first | apply Kd.N_alloc | apply Kd.N_drewN | apply Kd.N_drew)); exact HO_3.out⟩, ⟨pR HO_4⟩, ⟨pR HO_7⟩, ⟨pR HO_13⟩, ⟨pC BK878⟩, ⟨by repeat (first | (with_reducible exact HR877_2.out) | (with_reducible refine Kd.C_alloc ?_ _) | (with_reducible refine Kd.C_drewN ?_ _) | (with_reducible refine Kd.C_drew ?_) | exact HR877_2.out)⟩, ⟨pG GE878⟩⟩
        subst c41
        have H1 : (laws_FnNeedsParts.j3 k3 t858 t861 t865 t866 x12_2 t882 true x15_3 (decide (x15_3 < (t866.length : Int))) ((rd_T29 t858 t876).f0) ((rd_T29 t858 t876).f1) ((rd_T29 t858 t876).f2)) = some r := by rw [if_pos rfl] at H; exact H
        clear H
        have H := H1
        clear H1
        have H' := Aside0.mk H
        clear H
        obtain ⟨Ao42, co42, eo42⟩ := Kd.R_slice HO_13.out
        subst eo42
        obtain ⟨Ao43, co43, eo43⟩ := Kd.R_slice HO_7.out
        subst eo43
        go_wp2
        go_meet
        case rel => exact ⟨_, (decide (x15_3 < (t866.length : Int))), pF, H', ⟨by have := HJ5.out; have := HK2.out; have := HK3.out; first | omega | exact Nat.le_refl _⟩, ⟨by (with_reducible repeat (first | apply Kd.N_alloc | apply Kd.N_drewN | apply Kd.N_drew)); exact HO_3.out⟩, ⟨pR HO_4⟩, ⟨pR HO_7⟩, ⟨pR HO_13⟩, ⟨pC BK878⟩, ⟨by repeat (first | (with_reducible exact HR877_2.out) | (with_reducible refine Kd.C_alloc ?_ _) | (with_reducible refine Kd.C_drewN ?_ _) | (with_reducible refine Kd.C_drew ?_) | exact HR877_2.out)⟩, ⟨pG GE878⟩⟩
       case rest =>
        clear HC39
        try clear c1
        try clear c2
        try clear c2b0
        try clear c2b1
        try clear p2
        try clear c3
        try clear c4
        try clear p6
        try clear c8
        try clear p8
        try clear q8
        try clear hx8
        try clear c12
        try clear c12b0
        try clear c12b1
        try clear c12b2
        try clear c13
        try clear c14
        try clear c19
        try clear c20
        try clear c20b0
        try clear c20b1
        try clear c20b2
        try clear c25
        try clear c25b0
        try clear c26
        try clear c26b0
        try clear c30
        try clear c30b0
        try clear c31
        try clear c31b0
        try clear c32
        try clear c32b0
        try clear c33
        try clear c33b0
        try clear c33b1
        try clear c37
        try clear c38
        try clear c40
        try clear c40b0
        try clear c41
        try clear hcz29_0
        try clear hcz29_1
        try clear hcz29_2
        try clear hcz36_0
        try clear hcz36_1
        try clear hcz36_2
        try clear hfz29_0
        try clear hfz29_1
        try clear hfz29_2
        try clear hfz36_0
        try clear hfz36_1
        try clear hfz36_2
        try clear hx877_0
        try clear hx877_1
        try clear hx877_2
        try clear hx879_0
        try clear hx879_1
        try clear hx879_2
        try clear hx880_0
        try clear hx880_1
        try clear hx880_2
        try clear hx881_0
        try clear hx881_1
        try clear hx881_2
        try clear p2
        try clear p6
        try clear p8
        try clear p877
        try clear p879
        try clear p880
        try clear p881
        try clear q8
        try clear q877
        try clear q879
        try clear q880
        try clear q881
        obtain ⟨kq, x119_38, rfl, HA, HJ38, HO_3, HO_4, HO_7, HO_13, BK878, HR877_2, HB⟩ := hcut
        cases kq with
        | zero => exact absurd HA.out (by simp [laws_FnNeedsParts.j3])
        | succ kj38 =>
         have H := HA.out
         clear HA
         simp only [laws_FnNeedsParts.j3] at H
         rcases (Classical.em (x119_38 = true)).symm with c46 | c46
         ·replace c46 := Bool.eq_false_iff.mpr c46
          subst c46
          have H1 : (laws_FnNeedsParts.l0 kj38 t858 t861 t865 t866 (wrap64 (x12_2 + 1)) ((rd_T29 t858 t876).f0) ((rd_T29 t858 t876).f1) ((rd_T29 t858 t876).f2)) = some r := by rw [if_neg (show ¬ (false = true) by decide)] at H; exact H
          clear H
          have H := H1
          clear H1
          have H' := Aside0.mk H
          clear H
          go_wp2
          go_roundg kj38
          case measure => have := HJ5.out; have := HK2.out; have := HK3.out; have := HJ38.out; omega
          case rel => exact ⟨(wrap64 (x12_2 + 1)), pF, H', ⟨by have := HJ5.out; have := HK2.out; have := HK3.out; have := HJ38.out; omega⟩, ⟨by (with_reducible repeat (first | apply Kd.N_alloc | apply Kd.N_drewN | apply Kd.N_drew)); exact Kd.N_mono HO_3.out (fun _ hk => ⟨hk.1, ⟨hk.2.1, hk.2.2.2⟩⟩)⟩, ⟨pR HO_4⟩, ⟨by (with_reducible repeat (first | apply Kd.R_alloc | apply Kd.R_drewN | apply Kd.R_drew)); exact Kd.R_mono HO_7.out (fun _ hk => trivial)⟩, ⟨pC BK878⟩, ⟨by repeat (first | (with_reducible exact HR877_2.out) | (with_reducible refine Kd.C_alloc ?_ _) | (with_reducible refine Kd.C_drewN ?_ _) | (with_reducible refine Kd.C_drew ?_) | exact HR877_2.out)⟩, ⟨pG GE878⟩⟩
         subst c46
         have H1 : (if 0 ≤ x15_3 then (if x15_3 < (t882.length : Int) then (if x15_3 < (t866.length : Int) then (if (rd t882 x15_3) > (rd t866 x15_3) then (some false) else (laws_FnNeedsParts.l1 kj38 t858 t861 t865 t866 x12_2 t882 t883 (wrap64 (x15_3 + 1)) ((rd_T29 t858 t876).f0) ((rd_T29 t858 t876).f1) ((rd_T29 t858 t876).f2))) else (none)) else (none)) else (none)) = some r := by rw [if_pos rfl] at H; exact H
         clear H
         have H := H1
         clear H1
         rcases (Classical.em (0 ≤ x15_3)).symm with c47 | c47
         ·rw [if_neg c47] at H
          exact absurd H (by simp)
         rw [if_pos c47] at H
         have c47b0 : decide (0 ≤ x15_3) = true := decide_eq_true c47
         clear c47
         rcases (Classical.em (x15_3 < (t882.length : Int))).symm with c48 | c48
         ·rw [if_neg c48] at H
          exact absurd H (by simp)
         rw [if_pos c48] at H
         have c48b0 : decide (x15_3 < (t882.length : Int)) = true := decide_eq_true c48
         clear c48
         rcases (Classical.em (x15_3 < (t866.length : Int))).symm with c49 | c49
         ·rw [if_neg c49] at H
          exact absurd H (by simp)
         rw [if_pos c49] at H
         have c49b0 : decide (x15_3 < (t866.length : Int)) = true := decide_eq_true c49
         clear c49
         by_cases c50 : (rd t882 x15_3) > (rd t866 x15_3)
         ·rw [if_pos c50] at H
          have c50b0 : decide ((rd t866 x15_3) < (rd t882 x15_3)) = true := decide_eq_true c50
          clear c50
          obtain rfl := Option.some.inj H
          try go_wp2
          have n0_ := Aside0.mk (Kd.N_drew HO_3.out)
          have n1_ := Aside0.mk (Kd.R_drew HO_4.out)
          have n2_ := Aside0.mk (Kd.R_drew HO_7.out)
          have n3_ := Aside0.mk (Kd.R_drew HO_13.out)
          have n4_ := Aside0.mk (blk_drew BK878.out)
          have n5_ := Aside0.mk (Kd.C_drew HR877_2.out)
          have n6_ := Aside0.mk (below_drew1 HB.out)
          clear HO_3
          clear HO_4
          clear HO_7
          clear HO_13
          clear BK878
          clear HR877_2
          clear HB
          have HO_3 := n0_
          have HO_4 := n1_
          have HO_7 := n2_
          have HO_13 := n3_
          have BK878 := n4_
          have HR877_2 := n5_
          have HB := n6_
          clear n0_ n1_ n2_ n3_ n4_ n5_ n6_
          obtain ⟨Ao52, co52, eo52⟩ := Kd.R_slice HO_13.out
          (first | subst eo52 | (injection eo52 with f1_ f2_ f3_; have f4_ := f1_.symm; have f5_ := f3_.symm; clear f1_ f2_ f3_; subst f4_; subst f5_))
          have p886 : 0 ≤ (x15_3 : Int) := of_decide_eq_true pA
          have q886 : x15_3 < (t882.length : Int) := of_decide_eq_true pA
          obtain ⟨ad886, e886, hx886_0⟩ := Kd.at_int (Kd.R_reads' HO_13.out).2.2 x15_3 p886 q886
          cases e886
          replace p886 := eq_true p886
          replace q886 := eq_true q886
          obtain ⟨Ao53, co53, eo53⟩ := Kd.R_slice HO_7.out
          (first | subst eo53 | (injection eo53 with f1_ f2_ f3_; have f4_ := f1_.symm; have f5_ := f3_.symm; clear f1_ f2_ f3_; subst f4_; subst f5_))
          have p887 : 0 ≤ (x15_3 : Int) := of_decide_eq_true pA
          have q887 : x15_3 < (t866.length : Int) := of_decide_eq_true pA
          obtain ⟨ad887, e887, hx887_0⟩ := Kd.at_int (Kd.R_reads' HO_7.out).2.2 x15_3 p887 q887
          cases e887
          replace p887 := eq_true p887
          replace q887 := eq_true q887
          refine start_ (n := 9) (S := fun w' => w'.cell? (ad886.add (x15_3).toNat) = some (.int .i64 (rd t882 x15_3)) ∧ w'.cell? (ad887.add (x15_3).toNat) = some (.int .i64 (rd t866 x15_3))) (ds := []) #[false, false, false, false, false, false, false, false, false] pL rfl rfl ⟨hx886_0, hx887_0⟩ (fun hHeld => ?_); refine with_tabW laws_FnNeedsParts.tab17 laws_FnNeedsParts.bits17 (fun HT_ HW_ => ?_)
          generalize wc.drew = w51 at HO_3 HO_4 HO_7 HO_13 BK878 HR877_2 HB hx886_0 hx887_0 hHeld ⊢
          refine pv 0 (some 122) HT_ rfl rfl pL ?_
          refine pv 1 (some 123) HT_ rfl rfl pL ?_
          refine pv 2 (some 124) HT_ rfl rfl pL ?_
          refine pv 4 (some 126) HT_ rfl rfl pL ?_
          refine pv 5 (some 127) HT_ rfl rfl pL ?_
          refine pv 6 (some 128) HT_ rfl rfl pL ?_
          refine tv 3 (some 125) HT_ HW_ rfl rfl pL (fun _ _ _ h => h) (by rfl) (by rintro w' ⟨s0, s1⟩; go_simp; with_reducible rfl) hHeld pP ?_
          refine tv 7 (some 129) HT_ HW_ rfl rfl pL (fun _ _ _ h => h) (by rfl) (by rintro w' ⟨s0, s1⟩; go_simp; with_reducible rfl) hHeld pP ?_
          refine pu 8 (some 130) #[true, true, true, true, true, true, true, true, true] HT_ rfl rfl pL (fun _ _ _ h => h) (by rfl) pY pP ?_
          refine done_ (done_of HT_.out pL) ?_
          try go_wp2
          go_ret
          exact ⟨by first | rfl | (simp [errW_none, errW_some] <;> rfl) | (simp only [← hji34]; first | rfl | (simp [errW_none, errW_some] <;> rfl)) | (simp [*, errW_none, errW_some] <;> rfl), pG GE878⟩
         rw [if_neg c50] at H
         have c50b0 : decide ((rd t866 x15_3) < (rd t882 x15_3)) = false := decide_eq_false c50
         clear c50
         have H' := Aside0.mk H
         clear H
         try go_wp2
         have n0_ := Aside0.mk (Kd.N_drew HO_3.out)
         have n1_ := Aside0.mk (Kd.R_drew HO_4.out)
         have n2_ := Aside0.mk (Kd.R_drew HO_7.out)
         have n3_ := Aside0.mk (Kd.R_drew HO_13.out)
         have n4_ := Aside0.mk (blk_drew BK878.out)
         have n5_ := Aside0.mk (Kd.C_drew HR877_2.out)
         have n6_ := Aside0.mk (below_drew1 HB.out)
         clear HO_3
         clear HO_4
         clear HO_7
         clear HO_13
         clear BK878
         clear HR877_2
         clear HB
         have HO_3 := n0_
         have HO_4 := n1_
         have HO_7 := n2_
         have HO_13 := n3_
         have BK878 := n4_
         have HR877_2 := n5_
         have HB := n6_
         clear n0_ n1_ n2_ n3_ n4_ n5_ n6_
         obtain ⟨Ao55, co55, eo55⟩ := Kd.R_slice HO_13.out
         (first | subst eo55 | (injection eo55 with f1_ f2_ f3_; have f4_ := f1_.symm; have f5_ := f3_.symm; clear f1_ f2_ f3_; subst f4_; subst f5_))
         have p886 : 0 ≤ (x15_3 : Int) := of_decide_eq_true pA
         have q886 : x15_3 < (t882.length : Int) := of_decide_eq_true pA
         obtain ⟨ad886, e886, hx886_0⟩ := Kd.at_int (Kd.R_reads' HO_13.out).2.2 x15_3 p886 q886
         cases e886
         replace p886 := eq_true p886
         replace q886 := eq_true q886
         obtain ⟨Ao56, co56, eo56⟩ := Kd.R_slice HO_7.out
         (first | subst eo56 | (injection eo56 with f1_ f2_ f3_; have f4_ := f1_.symm; have f5_ := f3_.symm; clear f1_ f2_ f3_; subst f4_; subst f5_))
         have p887 : 0 ≤ (x15_3 : Int) := of_decide_eq_true pA
         have q887 : x15_3 < (t866.length : Int) := of_decide_eq_true pA
         obtain ⟨ad887, e887, hx887_0⟩ := Kd.at_int (Kd.R_reads' HO_7.out).2.2 x15_3 p887 q887
         cases e887
         replace p887 := eq_true p887
         replace q887 := eq_true q887
         refine start_ (n := 9) (S := fun w' => w'.cell? (ad886.add (x15_3).toNat) = some (.int .i64 (rd t882 x15_3)) ∧ w'.cell? (ad887.add (x15_3).toNat) = some (.int .i64 (rd t866 x15_3))) (ds := []) #[false, false, false, false, false, false, false, false, false] pL rfl rfl ⟨hx886_0, hx887_0⟩ (fun hHeld => ?_); refine with_tabW laws_FnNeedsParts.tab17 laws_FnNeedsParts.bits17 (fun HT_ HW_ => ?_)
         generalize wc.drew = w54 at HO_3 HO_4 HO_7 HO_13 BK878 HR877_2 HB hx886_0 hx887_0 hHeld ⊢
         refine pv 0 (some 122) HT_ rfl rfl pL ?_
         refine pv 1 (some 123) HT_ rfl rfl pL ?_
         refine pv 2 (some 124) HT_ rfl rfl pL ?_
         refine pv 4 (some 126) HT_ rfl rfl pL ?_
         refine pv 5 (some 127) HT_ rfl rfl pL ?_
         refine pv 6 (some 128) HT_ rfl rfl pL ?_
         refine tv 3 (some 125) HT_ HW_ rfl rfl pL (fun _ _ _ h => h) (by rfl) (by rintro w' ⟨s0, s1⟩; go_simp; with_reducible rfl) hHeld pP ?_
         refine tv 7 (some 129) HT_ HW_ rfl rfl pL (fun _ _ _ h => h) (by rfl) (by rintro w' ⟨s0, s1⟩; go_simp; with_reducible rfl) hHeld pP ?_
         refine pu 8 (some 130) #[true, true, true, true, true, true, true, true, true] HT_ rfl rfl pL (fun _ _ _ h => h) (by rfl) pY pP ?_
         refine done_ (done_of HT_.out pL) ?_
         try go_wp2
         go_roundg kj38
         case measure => have := HJ5.out; have := HK2.out; have := HK3.out; have := HJ38.out; omega
         case rel => exact ⟨(wrap64 (x15_3 + 1)), pF, H', ⟨by have := HJ5.out; have := HK2.out; have := HK3.out; have := HJ38.out; omega⟩, ⟨by (with_reducible repeat (first | apply Kd.N_alloc | apply Kd.N_drewN | apply Kd.N_drew)); exact HO_3.out⟩, ⟨pR HO_4⟩, ⟨pR HO_7⟩, ⟨pR HO_13⟩, ⟨pC BK878⟩, ⟨by repeat (first | (with_reducible exact HR877_2.out) | (with_reducible refine Kd.C_alloc ?_ _) | (with_reducible refine Kd.C_drewN ?_ _) | (with_reducible refine Kd.C_drew ?_) | exact HR877_2.out)⟩, ⟨pG GE878⟩⟩
/-- THE ONE PURE STATEMENT of laws_FnNeedsParts: yours. -/
def laws_FnNeedsParts.Pure : Prop := ∀ (l0 : List Int), l0.length ≤ maxLen → l0.length * 1 ≤ 140737488351232 → (∀ x ∈ l0, (Lit.int .u8 x).wf = true) → ∃ k, laws_FnNeedsParts.f k l0 = some true
theorem laws_FnNeedsParts.walk (P : laws_FnNeedsParts.Pure) (a0 : Option Addr) (len0 cap0 : Nat) (z0 : List Int) (w : World) (w0 : (a0 = none ∧ len0 = 0 ∧ cap0 = 0 ∧ z0 = []) ∨ ∃ x, a0 = some x ∧ len0 ≤ cap0 ∧ cap0 ≤ maxLen ∧ z0.length = cap0 ∧ (∀ i, i < z0.length → w.cell? (x.add i) = some (.int .u8 (z0.getD i 0))) ∧ ∀ n ∈ z0, (Lit.int .u8 n).wf = true) (y0 : len0 * 1 ≤ 140737488351232) :
  Calls Try.prog 13 #[.slice a0 len0 cap0] w fun e w' => e = .returned (.bool true) ∧ Below w.heap.size w w' := by
 obtain ⟨l0, rfl, hr0, hm0, hw0, hc0⟩ := ReadsInt.ofRowC w0
 obtain ⟨k, h⟩ := P l0 hm0 y0 hw0
 refine (laws_FnNeedsParts.calls k _ _ l0 true w (Kd.C_of_reads (d := (0 : Int)) (h1 := fun _ => rfl) hr0) hc0 h).mono ?_
 rintro e w' ⟨rfl, hd⟩
 exact ⟨rfl, hd⟩

end Go.Proofs.Ytclldijjbmnkeaa.Q
