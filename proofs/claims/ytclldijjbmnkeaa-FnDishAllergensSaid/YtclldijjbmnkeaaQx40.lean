-- Written by the kit's print.py for all laws of the seat at once (one namespace), by a program of this session.
import Derived.Test.YtclldijjbmnkeaaQx0
import Derived.Test.YtclldijjbmnkeaaQx5
import Derived.Test.YtclldijjbmnkeaaQx10
import Derived.Test.YtclldijjbmnkeaaQx15
import Derived.Test.YtclldijjbmnkeaaQx27
import Derived.Test.YtclldijjbmnkeaaQx38
namespace Go.Proofs.Ytclldijjbmnkeaa.Q
open Go.RowKit Go.Proofs.YtclldijjbmnkeaaW.PrintWords Go.Proofs.YtclldijjbmnkeaaW.PrintLast Go.Proofs.YtclldijjbmnkeaaW.PrintMore
attribute [local go_sem] max2_int min2_int max_two min_two max_three min_three max_four min_four   -- for this text's walks alone
set_option linter.unusedVariables false
set_option linter.unusedSimpArgs false

/-! ### impl_AllergensJoin: function 52 -/
def impl_AllergensJoin.f (a0 : Int) (a1 : Int) : Option (Int) := (impl_isSet.f a0).bind fun t990 => (if t990 = true then ((impl_isSet.f a1).bind fun t991 => (if t991 = true then (some (Go.bits .or .i64 a0 a1)) else (some (-1)))) else (some (-1)))
set_option maxHeartbeats 8000000 in
set_option maxRecDepth 100000 in
theorem impl_AllergensJoin.calls (a0 : Int) (a1 : Int) (r : Int) (w : World) (h : impl_AllergensJoin.f a0 a1 = some r) :
  Calls Try.prog 52 #[.int .i64 a0, .int .i64 a1] w fun e w' => e = .returned (.int .i64 r) ∧ Drawn0 w w' := by
 have H : ((impl_isSet.f a0).bind fun t990 => (if t990 = true then ((impl_isSet.f a1).bind fun t991 => (if t991 = true then (some (Go.bits .or .i64 a0 a1)) else (some (-1)))) else (some (-1)))) = some r := h
 clear h
 replace H := Option.bind_eq_some_iff.mp H
 obtain ⟨t990, A30, H⟩ := H
 replace H : (if t990 = true then ((impl_isSet.f a1).bind fun t991 => (if t991 = true then (some (Go.bits .or .i64 a0 a1)) else (some (-1)))) else (some (-1))) = some r := H
 have A3 := Aside0.mk A30
 clear A30
 rcases (Classical.em (t990 = true)).symm with c4 | c4
 ·replace c4 := Bool.eq_false_iff.mpr c4
  subst c4
  have H1 : (some (-1)) = some r := by rw [if_neg (show ¬ (false = true) by decide)] at H; exact H
  clear H
  have H := H1
  clear H1
  obtain rfl := Option.some.inj H
  go_enter Try.func52, Try.ntmps52
  go_wp2_with (first | ((with_reducible refine gate_callee (f := 86) rfl ?_); refine goesL_ (some 6) rfl rfl Try.func86 pL rfl #[.int .i64 a0] rfl pM ?_; (with_reducible refine (impl_isSet.calls a0 false _ A3.out).mono ?_); rintro e w' ⟨rfl, ⟨nd, rfl⟩⟩; refine ⟨_, rfl, ?_⟩))
  go_ret
  exact ⟨pF, by repeat (first | exact Drawn0.refl _ | apply Drawn0.step)⟩

 subst c4
 have H1 : ((impl_isSet.f a1).bind fun t991 => (if t991 = true then (some (Go.bits .or .i64 a0 a1)) else (some (-1)))) = some r := by rw [if_pos rfl] at H; exact H
 clear H
 have H := H1
 clear H1
 replace H := Option.bind_eq_some_iff.mp H
 obtain ⟨t991, A50, H⟩ := H
 replace H : (if t991 = true then (some (Go.bits .or .i64 a0 a1)) else (some (-1))) = some r := H
 have A5 := Aside0.mk A50
 clear A50
 by_cases c6 : t991 = true
 ·subst c6
  have H1 : (some (Go.bits .or .i64 a0 a1)) = some r := by rw [if_pos rfl] at H; exact H
  clear H
  have H := H1
  clear H1
  obtain rfl := Option.some.inj H
  go_enter Try.func52, Try.ntmps52
  go_wp2_with (first | ((with_reducible refine gate_callee (f := 86) rfl ?_); refine goesL_ (some 6) rfl rfl Try.func86 pL rfl #[.int .i64 a0] rfl pM ?_; (with_reducible refine (impl_isSet.calls a0 true _ A3.out).mono ?_); rintro e w' ⟨rfl, ⟨nd, rfl⟩⟩; refine ⟨_, rfl, ?_⟩) | (go_at_call 86; (with_reducible refine (impl_isSet.calls a1 true _ A5.out).mono ?_); rintro e w' ⟨rfl, ⟨nd, rfl⟩⟩))
  go_ret
  exact ⟨pF, by repeat (first | exact Drawn0.refl _ | apply Drawn0.step)⟩
 replace c6 := Bool.eq_false_iff.mpr c6
 subst c6
 have H1 : (some (-1)) = some r := by rw [if_neg (show ¬ (false = true) by decide)] at H; exact H
 clear H
 have H := H1
 clear H1
 obtain rfl := Option.some.inj H
 go_enter Try.func52, Try.ntmps52
 go_wp2_with (first | ((with_reducible refine gate_callee (f := 86) rfl ?_); refine goesL_ (some 6) rfl rfl Try.func86 pL rfl #[.int .i64 a0] rfl pM ?_; (with_reducible refine (impl_isSet.calls a0 true _ A3.out).mono ?_); rintro e w' ⟨rfl, ⟨nd, rfl⟩⟩; refine ⟨_, rfl, ?_⟩) | (go_at_call 86; (with_reducible refine (impl_isSet.calls a1 false _ A5.out).mono ?_); rintro e w' ⟨rfl, ⟨nd, rfl⟩⟩))
 go_ret
 exact ⟨pF, by repeat (first | exact Drawn0.refl _ | apply Drawn0.step)⟩
/-! ### laws_FnDishAllergens: function 17 -/
mutual
def laws_FnDishAllergens.j0 : Nat → List (S29) → List (S63) → Int → Int → Int → Bool → Option (Bool)
 | 0, _, _, _, _, _, _ => none
 | k + 1, x3, x4, x5, x6, x7, x35 => if x35 = true then (some (x6 == x7)) else ((impl_DishesFind.f x3 x5).bind fun t1001 => (if 0 ≤ t1001 then (if t1001 < (x3.length : Int) then (laws_FnDishAllergens.l0 k x3 x4 x6 0 0 ((rd_T29 x3 t1001).f0) ((rd_T29 x3 t1001).f1) ((rd_T29 x3 t1001).f2)) else (none)) else (none)))
def laws_FnDishAllergens.l0 : Nat → List (S29) → List (S63) → Int → Int → Int → Int → Int → List (S55) → Option (Bool)
 | 0, _, _, _, _, _, _, _, _ => none
 | k + 1, x3, x4, x6, x9, x10, x1004000, x1004001, x1004002 => if x10 < (x1004002.length : Int) then (if 0 ≤ x10 then (if ((rd_T55 x1004002 x10).f1) > 0 then ((impl_DishAllergens.f k x3 x4 ((rd_T55 x1004002 x10).f1)).bind fun t1006 => ((impl_AllergensJoin.f x9 t1006).bind fun t1007 => (laws_FnDishAllergens.l0 k x3 x4 x6 t1007 (wrap64 (x10 + 1)) x1004000 x1004001 x1004002))) else ((impl_FoodsFind.f k x4 ((rd_T55 x1004002 x10).f0)).bind fun t1008 => (if 0 ≤ t1008 then (if t1008 < (x4.length : Int) then ((impl_AllergensJoin.f x9 ((rd_T63 x4 t1008).f2)).bind fun t1010 => (laws_FnDishAllergens.l0 k x3 x4 x6 t1010 (wrap64 (x10 + 1)) x1004000 x1004001 x1004002)) else (none)) else (none)))) else (none)) else (some (x9 == x6))
end
def laws_FnDishAllergens.f (k : Nat) (l0 : List Int) : Option (Bool) := if (l0.length : Int) > 1048576 then (some true) else ((spec_DrawDishAllergens.f k l0).bind fun bt992 => ((impl_DishAllergens.f k bt992.1 bt992.2.1 bt992.2.2).bind fun t999 => ((spec_DishAllergens.f k bt992.1 bt992.2.1 bt992.2.2).bind fun t1000 => (if t999 = t1000 then (laws_FnDishAllergens.j0 k bt992.1 bt992.2.1 bt992.2.2 t999 t1000 (decide (t1000 < 0))) else (laws_FnDishAllergens.j0 k bt992.1 bt992.2.1 bt992.2.2 t999 t1000 true)))))
theorem laws_FnDishAllergens.mono_l : ∀ k, (∀ y0 y1 y2 y3 y4 y5, LeO (laws_FnDishAllergens.j0 k y0 y1 y2 y3 y4 y5) (laws_FnDishAllergens.j0 (k + 1) y0 y1 y2 y3 y4 y5)) ∧ (∀ y0 y1 y2 y3 y4 y5 y6 y7, LeO (laws_FnDishAllergens.l0 k y0 y1 y2 y3 y4 y5 y6 y7) (laws_FnDishAllergens.l0 (k + 1) y0 y1 y2 y3 y4 y5 y6 y7))
 | 0 => ⟨fun _ _ _ _ _ _ r h => by simp [laws_FnDishAllergens.j0] at h, fun _ _ _ _ _ _ _ _ r h => by simp [laws_FnDishAllergens.l0] at h⟩
 | k + 1 => by
  obtain ⟨ih0, ih1⟩ := laws_FnDishAllergens.mono_l k
  refine ⟨?_, ?_⟩
  ·intro y0 y1 y2 y3 y4 y5
   unfold laws_FnDishAllergens.j0
   repeat' first
   | (with_reducible exact ih0 _ _ _ _ _ _)
   | (with_reducible exact ih1 _ _ _ _ _ _ _ _)
   | (with_reducible exact impl_DishAllergens.mono _ _ _ _)
   | (with_reducible exact impl_FoodsFind.mono _ _ _)
   | (with_reducible exact spec_DishAllergens.mono _ _ _ _)
   | (with_reducible exact spec_DrawDishAllergens.mono _ _)
   | (with_reducible exact LeO.refl _)
   | (with_reducible exact LeO.none _)
   | (with_reducible refine LeO.ite ?_ ?_)
   | (with_reducible refine LeO.bind ?_ (fun _ => ?_))
   | exact ih0 _ _ _ _ _ _
   | exact ih1 _ _ _ _ _ _ _ _
   | exact impl_DishAllergens.mono _ _ _ _
   | exact impl_FoodsFind.mono _ _ _
   | exact spec_DishAllergens.mono _ _ _ _
   | exact spec_DrawDishAllergens.mono _ _
   | exact LeO.none _
   | refine LeO.ite ?_ ?_
   | refine LeO.bind ?_ (fun _ => ?_)
  ·intro y0 y1 y2 y3 y4 y5 y6 y7
   unfold laws_FnDishAllergens.l0
   repeat' first
   | (with_reducible exact ih0 _ _ _ _ _ _)
   | (with_reducible exact ih1 _ _ _ _ _ _ _ _)
   | (with_reducible exact impl_DishAllergens.mono _ _ _ _)
   | (with_reducible exact impl_FoodsFind.mono _ _ _)
   | (with_reducible exact spec_DishAllergens.mono _ _ _ _)
   | (with_reducible exact spec_DrawDishAllergens.mono _ _)
   | (with_reducible exact LeO.refl _)
   | (with_reducible exact LeO.none _)
   | (with_reducible refine LeO.ite ?_ ?_)
   | (with_reducible refine LeO.bind ?_ (fun _ => ?_))
   | exact ih0 _ _ _ _ _ _
   | exact ih1 _ _ _ _ _ _ _ _
   | exact impl_DishAllergens.mono _ _ _ _
   | exact impl_FoodsFind.mono _ _ _
   | exact spec_DishAllergens.mono _ _ _ _
   | exact spec_DrawDishAllergens.mono _ _
   | exact LeO.none _
   | refine LeO.ite ?_ ?_
   | refine LeO.bind ?_ (fun _ => ?_)
theorem laws_FnDishAllergens.mono : ∀ a0 k, LeO (laws_FnDishAllergens.f k a0) (laws_FnDishAllergens.f (k + 1) a0) := by
 intro a0 k
 obtain ⟨ih0, ih1⟩ := laws_FnDishAllergens.mono_l k
 unfold laws_FnDishAllergens.f
 repeat' first
   | (with_reducible exact ih0 _ _ _ _ _ _)
   | (with_reducible exact ih1 _ _ _ _ _ _ _ _)
   | (with_reducible exact impl_DishAllergens.mono _ _ _ _)
   | (with_reducible exact impl_FoodsFind.mono _ _ _)
   | (with_reducible exact spec_DishAllergens.mono _ _ _ _)
   | (with_reducible exact spec_DrawDishAllergens.mono _ _)
   | (with_reducible exact LeO.refl _)
   | (with_reducible exact LeO.none _)
   | (with_reducible refine LeO.ite ?_ ?_)
   | (with_reducible refine LeO.bind ?_ (fun _ => ?_))
   | exact ih0 _ _ _ _ _ _
   | exact ih1 _ _ _ _ _ _ _ _
   | exact impl_DishAllergens.mono _ _ _ _
   | exact impl_FoodsFind.mono _ _ _
   | exact spec_DishAllergens.mono _ _ _ _
   | exact spec_DrawDishAllergens.mono _ _
   | exact LeO.none _
   | refine LeO.ite ?_ ?_
   | refine LeO.bind ?_ (fun _ => ?_)
theorem laws_FnDishAllergens.cLt_ {α : Type} {d : Kd α} {W : World} {A : Option Addr} {n : Nat} {xs : List α} (h : d.C W A n xs) {ad : Addr} (he : A = some ad) (hp : 0 < n) (hs : 0 < d.sz) : ad.block < W.heap.size := by
 subst he
 cases xs with
 | nil => exact absurd h.1 (by simp; omega)
 | cons x xs' =>
  obtain ⟨ad', c, e, hcl, _, hcc⟩ := Kd.C_get h x 0 (Int.le_refl 0) (by omega)
  injection e with e
  subst e
  have h4 := hcc 0 _ (List.getElem?_eq_getElem (by omega))
  have h5 := World.block_lt_of_cell? W _ h4
  rwa [add_block] at h5
theorem laws_FnDishAllergens.cSet_ {α : Type} {d : Kd α} {W : World} {A : Option Addr} {n : Nat} {xs : List α} {g j : Nat} {u : Value} (hK : ∀ (W W1 : World) x c, d.K W x c → d.K W1 x c) (hne : ∀ ad : Addr, A = some ad → 0 < n → ad.block ≠ g) (h : d.C W A n xs) : d.C (W.setCell ⟨g, j, none⟩ u) A n xs := by
 obtain ⟨h1, h2, h3⟩ := h
 refine ⟨h1, h2, fun hp => ?_⟩
 obtain ⟨ad, he, hc⟩ := h3 hp
 refine ⟨ad, he, fun q p hq => ?_⟩
 obtain ⟨c, hcl, hk, hcc⟩ := hc q p hq
 refine ⟨c, hcl, hK _ _ _ _ hk, fun q2 u2 hu => ?_⟩
 rw [← hcc q2 u2 hu]
 have := Below.heap_setCell W ⟨g, j, none⟩ u ad.block (hne ad he hp)
 simp only [World.cell?, add_block, this]
theorem F17.q0 {P : Prop} (h : P := by (with_reducible repeat (first | apply Kd.R_alloc | apply Kd.R_drewN | apply Kd.R_drew)); exact (Kd.R_mono (Kd.R_far (p := ⟨gb1005, 2, none⟩) (Kd.R_far (p := ⟨gb1005, 1, none⟩) (Kd.R_far (p := ⟨gb1005, 0, none⟩) (Kd.R_types HO_4.out BK1005.out (by decide)) (fun _ hk => hk.2) (.int .i64 ((rd_T55 ((rd_T29 t992 t1001).f2) x10_2).f0))) (fun _ hk => hk.2) (.int .i64 ((rd_T55 ((rd_T29 t992 t1001).f2) x10_2).f1))) (fun _ hk => hk.2) (.int .i64 ((rd_T55 ((rd_T29 t992 t1001).f2) x10_2).f2))) (fun _ h_ => h_.1))) : P := h
theorem F17.q1 {P : Prop} (h : P := by (with_reducible repeat (first | apply Kd.N_alloc | apply Kd.N_drewN | apply Kd.N_drew)); exact (Kd.N_mono (Kd.N_far (p := ⟨gb1005, 2, none⟩) (Kd.N_far (p := ⟨gb1005, 1, none⟩) (Kd.N_far (p := ⟨gb1005, 0, none⟩) (Kd.N_mono HO_3.out (fun k_ hk => (⟨hk, hk.2⟩ : _ ∧ k_ ≠ gb1005))) (fun _ hk => hk.2) (.int .i64 ((rd_T55 ((rd_T29 t992 t1001).f2) x10_2).f0))) (fun _ hk => hk.2) (.int .i64 ((rd_T55 ((rd_T29 t992 t1001).f2) x10_2).f1))) (fun _ hk => hk.2) (.int .i64 ((rd_T55 ((rd_T29 t992 t1001).f2) x10_2).f2))) (fun _ h_ => h_.1))) : P := h
theorem F17.q2 {P : Prop} (h : P := by (with_reducible repeat (first | refine blk_drewN ?_ _ | refine blk_drew ?_ | refine blk_alloc ?_ _)); refine blk_put (cs := #[.int .i64 ((rd_T55 ((rd_T29 t992 t1001).f2) x10_2).f0), .int .i64 ((rd_T55 ((rd_T29 t992 t1001).f2) x10_2).f1), .int .i64 0]) ?_ 2 _ rfl; (with_reducible repeat (first | refine blk_drewN ?_ _ | refine blk_drew ?_ | refine blk_alloc ?_ _)); refine blk_put (cs := #[.int .i64 ((rd_T55 ((rd_T29 t992 t1001).f2) x10_2).f0), .int .i64 0, .int .i64 0]) ?_ 1 _ rfl; (with_reducible repeat (first | refine blk_drewN ?_ _ | refine blk_drew ?_ | refine blk_alloc ?_ _)); refine blk_put (cs := #[.int .i64 0, .int .i64 0, .int .i64 0]) ?_ 0 _ rfl; (with_reducible repeat (first | refine blk_drewN ?_ _ | refine blk_drew ?_ | refine blk_alloc ?_ _)); exact BK1005.out) : P := h
theorem F17.q3 {P : Prop} (h : P := by repeat (first | (with_reducible exact HR1002_2.out) | (with_reducible refine Kd.C_alloc ?_ _) | (with_reducible refine Kd.C_drewN ?_ _) | (with_reducible refine Kd.C_drew ?_) | exact HR1002_2.out)) : P := h
theorem F17.q4 {P : Prop} (h : P := by (with_reducible repeat (first | refine blk_drewN ?_ _ | refine blk_drew ?_ | refine blk_alloc ?_ _)); refine blk_far ?_ NB1003_1005.out _; (with_reducible repeat (first | refine blk_drewN ?_ _ | refine blk_drew ?_ | refine blk_alloc ?_ _)); refine blk_far ?_ NB1003_1005.out _; (with_reducible repeat (first | refine blk_drewN ?_ _ | refine blk_drew ?_ | refine blk_alloc ?_ _)); refine blk_far ?_ NB1003_1005.out _; (with_reducible repeat (first | refine blk_drewN ?_ _ | refine blk_drew ?_ | refine blk_alloc ?_ _)); exact BK1003.out) : P := h
set_option maxHeartbeats 8000000 in
set_option maxRecDepth 100000 in
theorem laws_FnDishAllergens.calls (k : Nat) (A0 : Option Addr) (c0 : Nat) (l0 : List Int) (r : Bool) (w : World) (hr0 : Kd.C (Kd.int .u8) w A0 l0.length l0) (hc0 : l0.length ≤ c0) (h : laws_FnDishAllergens.f k l0 = some r) :
  Calls Try.prog 17 #[.slice A0 l0.length c0] w fun e w' => e = .returned (.bool r) ∧ Below w.heap.size w w' := by
 have hu29 := Try.underlying29
 have hu55 := Try.underlying55
 have HR0 := Aside0.mk hr0
 have HC0 := Aside0.mk hc0
 clear hr0 hc0
 have HB := Aside0.mk (Below.refl w.heap.size w)
 have H : (if (l0.length : Int) > 1048576 then (some true) else ((spec_DrawDishAllergens.f k l0).bind fun bt992 => ((impl_DishAllergens.f k bt992.1 bt992.2.1 bt992.2.2).bind fun t999 => ((spec_DishAllergens.f k bt992.1 bt992.2.1 bt992.2.2).bind fun t1000 => (if t999 = t1000 then (laws_FnDishAllergens.j0 k bt992.1 bt992.2.1 bt992.2.2 t999 t1000 (decide (t1000 < 0))) else (laws_FnDishAllergens.j0 k bt992.1 bt992.2.1 bt992.2.2 t999 t1000 true)))))) = some r := h
 clear h
 by_cases c2 : (l0.length : Int) > 1048576
 ·rw [if_pos c2] at H
  have c2b0 : decide (1048576 < (l0.length : Int)) = true := decide_eq_true c2
  have c2b1 : decide (1048576 < l0.length) = true := decide_eq_true (by omega)
  clear c2
  obtain rfl := Option.some.inj H
  go_enter Try.func17, Try.ntmps17
  go_wp2
  go_ret
  exact ⟨pE, pB⟩
 rw [if_neg c2] at H
 have c2b0 : decide (1048576 < (l0.length : Int)) = false := decide_eq_false c2
 have c2b1 : decide (1048576 < l0.length) = false := decide_eq_false (by omega)
 clear c2
 replace H := Option.bind_eq_some_iff.mp H
 obtain ⟨⟨t992, t995, t998⟩, A30, H⟩ := H
 replace H : ((impl_DishAllergens.f k t992 t995 t998).bind fun t999 => ((spec_DishAllergens.f k t992 t995 t998).bind fun t1000 => (if t999 = t1000 then (laws_FnDishAllergens.j0 k t992 t995 t998 t999 t1000 (decide (t1000 < 0))) else (laws_FnDishAllergens.j0 k t992 t995 t998 t999 t1000 true)))) = some r := H
 have A3 := Aside0.mk A30
 clear A30
 replace H := Option.bind_eq_some_iff.mp H
 obtain ⟨t999, A40, H⟩ := H
 replace H : ((spec_DishAllergens.f k t992 t995 t998).bind fun t1000 => (if t999 = t1000 then (laws_FnDishAllergens.j0 k t992 t995 t998 t999 t1000 (decide (t1000 < 0))) else (laws_FnDishAllergens.j0 k t992 t995 t998 t999 t1000 true))) = some r := H
 have A4 := Aside0.mk A40
 clear A40
 replace H := Option.bind_eq_some_iff.mp H
 obtain ⟨t1000, A50, H⟩ := H
 replace H : (if t999 = t1000 then (laws_FnDishAllergens.j0 k t992 t995 t998 t999 t1000 (decide (t1000 < 0))) else (laws_FnDishAllergens.j0 k t992 t995 t998 t999 t1000 true)) = some r := H
 have A5 := Aside0.mk A50
 clear A50
 have HC6 := Aside0.mk H
 clear H
 go_enter Try.func17, Try.ntmps17
 go_upto_region 6 with (first | ((with_reducible refine gate_callee (f := 51) rfl ?_); refine goesL_ (some 17) rfl rfl Try.func51 pL rfl #[.slice A0 l0.length c0] rfl pM ?_; (with_reducible refine (spec_DrawDishAllergens.calls k _ _ l0 t992 t995 t998 _ ?side1 ?side2 A3.out).mono ?_); (case side1 => exact pS (HR0.out)); (case side2 => exact HC0.out); rintro e w7 ⟨v993, v996, rfl, ho0, ho1, hb⟩; refine ⟨_, rfl, ?_⟩; have n0_ := Aside0.mk (Kd.N_lower (Kd.N_mono (ok' := fun k_ => some k_ ≠ (v996 : Value).ownBlock) ho0 (fun k_ hk_ => hk_.2)) (below_size pB)); have n1_ := Aside0.mk (Kd.R_lower (Kd.R_mono (ok' := fun k_ => True) ho1 (fun _ hk_ => trivial)) (below_size pB)); have n2_ := Aside0.mk (below_step pB hb); clear HB; have HO994 := n0_; have HO997 := n1_; have HB := n2_; clear n0_ n1_ n2_; (try clear hb); (try clear hb2); (try clear hk); (try clear hi); (try clear ho0); (try clear ho1); obtain ⟨Ao8, co8, eo8⟩ := Kd.N_slice HO994.out; subst eo8; obtain ⟨Ao9, co9, eo9⟩ := Kd.R_slice HO997.out; subst eo9) | ((with_reducible refine gate_callee (f := 28) rfl ?_); refine goesL_ (some 24) rfl rfl Try.func28 pL rfl #[.slice Ao8 t992.length co8, .slice Ao9 t995.length co9, .int .i64 t998] rfl pM ?_; (with_reducible refine (impl_DishAllergens.calls k _ _ t992 _ _ t995 t998 t999 _ ?side1 ?side2 ?side3 ?side4 A4.out).mono ?_); (case side1 => exact pS ((Kd.N_reads' HO994.out).2.2)); (case side2 => exact (Kd.N_reads' HO994.out).2.1); (case side3 => exact pS ((Kd.R_reads' HO997.out).2.2)); (case side4 => exact (Kd.R_reads' HO997.out).2.1); rintro e w10 ⟨rfl, hb⟩; refine ⟨_, rfl, ?_⟩; have n0_ := Aside0.mk (Kd.N_below (by (with_reducible repeat (first | apply Kd.N_alloc | apply Kd.N_drewN | apply Kd.N_drew)); exact HO994.out) hb); have n1_ := Aside0.mk (Kd.R_below (pR HO997) hb); have n2_ := Aside0.mk (below_step pB hb); clear HO994; clear HO997; clear HB; have HO994 := n0_; have HO997 := n1_; have HB := n2_; clear n0_ n1_ n2_; (try clear hb); (try clear hb2); (try clear hk); (try clear hi)) | ((with_reducible refine gate_callee (f := 26) rfl ?_); refine goesL_ (some 28) rfl rfl Try.func26 pL rfl #[.slice Ao8 t992.length co8, .slice Ao9 t995.length co9, .int .i64 t998] rfl pM ?_; (with_reducible refine (spec_DishAllergens.calls k _ _ t992 _ _ t995 t998 t1000 _ ?side1 ?side2 ?side3 ?side4 A5.out).mono ?_); (case side1 => exact pS ((Kd.N_reads' HO994.out).2.2)); (case side2 => exact (Kd.N_reads' HO994.out).2.1); (case side3 => exact pS ((Kd.R_reads' HO997.out).2.2)); (case side4 => exact (Kd.R_reads' HO997.out).2.1); rintro e w11 ⟨rfl, hb⟩; refine ⟨_, rfl, ?_⟩; have n0_ := Aside0.mk (Kd.N_below (by (with_reducible repeat (first | apply Kd.N_alloc | apply Kd.N_drewN | apply Kd.N_drew)); exact HO994.out) hb); have n1_ := Aside0.mk (Kd.R_below (pR HO997) hb); have n2_ := Aside0.mk (below_step pB hb); clear HO994; clear HO997; clear HB; have HO994 := n0_; have HO997 := n1_; have HB := n2_; clear n0_ n1_ n2_; (try clear hb); (try clear hb2); (try clear hk); (try clear hi)))
 (try simp only [Act.put, List.setIfInBounds_toArray, List.set_cons_zero, List.set_cons_succ])
 go_cut [35] (fun v35 wc => ∃ (kq : Nat) (x35_5 : Bool), v35 = .bool x35_5 ∧ Aside0 (laws_FnDishAllergens.j0 kq t992 t995 t998 t999 t1000 x35_5 = some r) ∧ Aside0 (kq ≤ k) ∧ Aside0 (Kd.N k29 29 wc w.heap.size (fun k_ => some k_ ≠ ((.slice Ao9 t995.length co9) : Value).ownBlock) (.slice Ao8 t992.length co8) t992) ∧ Aside0 (Kd.R k63 63 wc w.heap.size (fun _ => True) (.slice Ao9 t995.length co9) t995) ∧ Aside0 (Below w.heap.size w wc))
 case first =>
  have H := HC6.out
  clear HC6
  rcases (Classical.em (t999 = t1000)).symm with c12 | c12
  ·rw [if_neg c12] at H
   have c12b0 : (t999 == t1000) = false := beq_eq_false_iff_ne.mpr c12
   have c12b1 : (t999 != t1000) = true := bne_iff_ne.mpr c12
   (first | rw [c12b0] | (simp only [i64_w, i32_w]; rw [c12b0]) | skip)
   have H' := Aside0.mk H
   clear H
   go_wp2
   go_meet
   case rel => exact ⟨_, (true), pF, H', ⟨by first | omega | exact Nat.le_refl _⟩, ⟨by (with_reducible repeat (first | apply Kd.N_alloc | apply Kd.N_drewN | apply Kd.N_drew)); exact HO994.out⟩, ⟨pR HO997⟩, ⟨pB⟩⟩
  rw [if_pos c12] at H
  have c12b0 : (t999 == t1000) = true := beq_iff_eq.mpr c12
  have c12b1 : (t999 != t1000) = false := bne_eq_false_iff_eq.mpr c12
  clear c12
  (first | rw [c12b0] | (simp only [i64_w, i32_w]; rw [c12b0]) | skip)
  have H' := Aside0.mk H
  clear H
  go_wp2
  go_meet
  case rel => exact ⟨_, (decide (t1000 < 0)), pF, H', ⟨by first | omega | exact Nat.le_refl _⟩, ⟨by (with_reducible repeat (first | apply Kd.N_alloc | apply Kd.N_drewN | apply Kd.N_drew)); exact HO994.out⟩, ⟨pR HO997⟩, ⟨pB⟩⟩
 case rest =>
  clear HC6
  try clear c1
  try clear c2
  try clear c2b0
  try clear c2b1
  try clear p2
  try clear c5
  try clear c12
  try clear c12b0
  try clear c12b1
  obtain ⟨kq, x35_5, rfl, HA, HJ5, HO_3, HO_4, HB⟩ := hcut
  cases kq with
  | zero => exact absurd HA.out (by simp [laws_FnDishAllergens.j0])
  | succ kj5 =>
   have H := HA.out
   clear HA
   simp only [laws_FnDishAllergens.j0] at H
   by_cases c13 : x35_5 = true
   ·subst c13
    have H1 : (some (t999 == t1000)) = some r := by rw [if_pos rfl] at H; exact H
    clear H
    have H := H1
    clear H1
    obtain rfl := Option.some.inj H
    go_wp2
    go_ret
    exact ⟨pE, pB⟩
   replace c13 := Bool.eq_false_iff.mpr c13
   subst c13
   have H1 : ((impl_DishesFind.f t992 t998).bind fun t1001 => (if 0 ≤ t1001 then (if t1001 < (t992.length : Int) then (laws_FnDishAllergens.l0 kj5 t992 t995 t999 0 0 ((rd_T29 t992 t1001).f0) ((rd_T29 t992 t1001).f1) ((rd_T29 t992 t1001).f2)) else (none)) else (none))) = some r := by rw [if_neg (show ¬ (false = true) by decide)] at H; exact H
   clear H
   have H := H1
   clear H1
   replace H := Option.bind_eq_some_iff.mp H
   obtain ⟨t1001, A140, H⟩ := H
   replace H : (if 0 ≤ t1001 then (if t1001 < (t992.length : Int) then (laws_FnDishAllergens.l0 kj5 t992 t995 t999 0 0 ((rd_T29 t992 t1001).f0) ((rd_T29 t992 t1001).f1) ((rd_T29 t992 t1001).f2)) else (none)) else (none)) = some r := H
   have A14 := Aside0.mk A140
   clear A140
   rcases (Classical.em (0 ≤ t1001)).symm with c15 | c15
   ·rw [if_neg c15] at H
    exact absurd H (by simp)

   rw [if_pos c15] at H
   have c15b0 : decide (0 ≤ t1001) = true := decide_eq_true c15
   clear c15
   rcases (Classical.em (t1001 < (t992.length : Int))).symm with c16 | c16
   ·rw [if_neg c16] at H
    exact absurd H (by simp)
   rw [if_pos c16] at H
   have c16b0 : decide (t1001 < (t992.length : Int)) = true := decide_eq_true c16
   clear c16
   have H' := Aside0.mk H
   clear H
   go_wp2_with (first | ((with_reducible refine gate_callee (f := 20) rfl ?_); refine goesL_ (some 42) rfl rfl Try.func20 pL rfl #[.slice Ao8 t992.length co8, .int .i64 t998] rfl pM ?_; (with_reducible refine (impl_DishesFind.calls _ _ t992 t998 t1001 _ ?side1 ?side2 A14.out).mono ?_); (case side1 => exact pS ((Kd.N_reads' HO_3.out).2.2)); (case side2 => exact (Kd.N_reads' HO_3.out).2.1); rintro e w17 ⟨rfl, hb⟩; refine ⟨_, rfl, ?_⟩; have n0_ := Aside0.mk (Kd.N_below (by (with_reducible repeat (first | apply Kd.N_alloc | apply Kd.N_drewN | apply Kd.N_drew)); exact HO_3.out) hb); have n1_ := Aside0.mk (Kd.R_below (pR HO_4) hb); have n2_ := Aside0.mk (below_step pB hb); clear HO_3; clear HO_4; clear HB; have HO_3 := n0_; have HO_4 := n1_; have HB := n2_; clear n0_ n1_ n2_; (try clear hb); (try clear hb2); (try clear hk); (try clear hi); have p1002 : 0 ≤ (t1001 : Int) := of_decide_eq_true pA; have q1002 : t1001 < (t992.length : Int) := of_decide_eq_true pA; obtain ⟨ad1002, A1002_2, c1002_2, e1002, hx1002_0, hx1002_1, hx1002_2, hl1002_2, hi1002_2⟩ := at_T29 (Kd.N_reads' HO_3.out).2.2 t1001 p1002 q1002; cases e1002; obtain ⟨ce1002, hce1002, hMe1002, hcc1002⟩ := Kd.N_get HO_3.out z29 t1001 p1002 (by first | exact q1002 | exact of_decide_eq_true pA | (have e_ := (Kd.N_reads' HO_3.out).1; omega)); obtain ⟨ua1002_2, uc1002_2, rfl, ul1002_2, ge1002_2⟩ := k29_openF hMe1002; have hv1002_2 := hcc1002 2 _ rfl; rw [add_field _ _ 2 (by omega)] at hv1002_2; replace hv1002_2 := Option.some.inj (hv1002_2.symm.trans hx1002_2); injection hv1002_2 with hva_ hvn_ hvc_; rw [hva_] at ge1002_2; rw [hvc_] at ul1002_2; have HL1002_2 := Aside0.mk (show Kd.V k55 55 _ w.heap.size _ _ ((rd_T29 t992 t1001).f2) from Kd.V_mk ul1002_2 ge1002_2); clear hva_ hvn_ hvc_ ge1002_2 ul1002_2; clear hcc1002 hce1002; have HR1002_2 := Aside0.mk (hi1002_2); have HC1002_2 := Aside0.mk hl1002_2; clear hi1002_2 hl1002_2; replace p1002 := eq_true p1002; replace q1002 := eq_true q1002) | ((with_reducible refine gate_dst (N := 8) rfl ?_); refine box_event ?hg (N := 8) ?hd (cs := #[.int .i64 0, .int .i64 0, .slice none 0 0]) (t := 29) ?hr ?_; (case hd => rfl); (case hg => rfl); (case hr => first | (go_simp; done) | (go_simp; rfl)); intro gb1003 hg w18 hbox hb; have n0_ := Aside0.mk (Kd.N_below (Kd.N_elderB (by (with_reducible repeat (first | apply Kd.N_alloc | apply Kd.N_drewN | apply Kd.N_drew)); exact HO_3.out) gb1003 (Nat.le_of_eq hg.symm)) hb); have n1_ := Aside0.mk (Kd.R_below (pR HO_4) hb); have n2_ := Aside0.mk (Kd.V_below (Kd.V_elderB (by (with_reducible repeat (first | apply Kd.V_alloc | apply Kd.V_drewN | apply Kd.V_drew)); exact HL1002_2.out) gb1003 (Nat.le_of_eq hg.symm)) hb); have n3_ := Aside0.mk (Kd.C_below F17.q3 hb); have n4_ := Aside0.mk (below_step pB hb); have n5_ := Aside0.mk (hbox); have n6_ := Aside0.mk ((by rw [hg]; exact (below_size pB) : w.heap.size ≤ gb1003)); have n7_ := Aside0.mk ((by rw [hg]; exact (below_size pB) : w.heap.size ≤ gb1003)); have n8_ := Aside0.mk ((fun ad_ he_ hp_ => by rw [hg]; exact Nat.ne_of_lt (laws_FnDishAllergens.cLt_ (show Kd.C k55 _ A1002_2 ((rd_T29 t992 t1001).f2).length ((rd_T29 t992 t1001).f2) from F17.q3) he_ hp_ (by decide)) : ∀ ad_ : Addr, A1002_2 = some ad_ → 0 < ((rd_T29 t992 t1001).f2).length → ad_.block ≠ gb1003)); clear HO_3; clear HO_4; clear HL1002_2; clear HR1002_2; clear HB; have HO_3 := n0_; have HO_4 := n1_; have HL1002_2 := n2_; have HR1002_2 := n3_; have HB := n4_; have BK1003 := n5_; have GW1003 := n6_; have GE1003 := n7_; have NS1003_HR1002_2 := n8_; clear n0_ n1_ n2_ n3_ n4_ n5_ n6_ n7_ n8_; clear hb hbox hg; have hcz19_0 : w18.cell? ⟨gb1003, 0, none⟩ = some (.int .i64 0) := (blk_cell BK1003.out 0).trans rfl; have hcz19_1 : w18.cell? ⟨gb1003, 1, none⟩ = some (.int .i64 0) := (blk_cell BK1003.out 1).trans rfl; have hcz19_2 : w18.cell? ⟨gb1003, 2, none⟩ = some (.slice none 0 0) := (blk_cell BK1003.out 2).trans rfl; have hfz19_0 := blk_frozen BK1003.out 0; have hfz19_1 := blk_frozen BK1003.out 1; have hfz19_2 := blk_frozen BK1003.out 2))
   go_loopg [9, 10] kj5 (fun kq v9 v10 w' => ∃ (x9_2 : Int) (x10_2 : Int), v9 = .int .i64 x9_2 ∧ v10 = .int .i64 x10_2 ∧ Aside0 (laws_FnDishAllergens.l0 kq t992 t995 t999 x9_2 x10_2 ((rd_T29 t992 t1001).f0) ((rd_T29 t992 t1001).f1) ((rd_T29 t992 t1001).f2) = some r) ∧ Aside0 (kq ≤ kj5) ∧ Aside0 (Kd.N k29 29 w' w.heap.size (fun k_ => some k_ ≠ ((.slice Ao9 t995.length co9) : Value).ownBlock ∧ k_ ≠ gb1003) (.slice (some ad1002) t992.length co8) t992) ∧ Aside0 (Kd.R k63 63 w' w.heap.size (fun _ => True) (.slice Ao9 t995.length co9) t995) ∧ Aside0 (w'.heap[gb1003]? = some (.cells #[.int .i64 ((rd_T29 t992 t1001).f0), .int .i64 ((rd_T29 t992 t1001).f1), (.slice A1002_2 ((rd_T29 t992 t1001).f2).length c1002_2)] 29 (0, 0))) ∧ Aside0 (Kd.C k55 w' A1002_2 ((rd_T29 t992 t1001).f2).length ((rd_T29 t992 t1001).f2)) ∧ Aside0 (Below w.heap.size w w'))
   case atStart => exact ⟨(0), (0), pF, pF, H', ⟨Nat.le_refl _⟩, ⟨by (with_reducible repeat (first | apply Kd.N_alloc | apply Kd.N_drewN | apply Kd.N_drew)); exact Kd.N_mono (Kd.N_far (p := ⟨gb1003, 2, none⟩) (Kd.N_far (p := ⟨gb1003, 1, none⟩) (Kd.N_far (p := ⟨gb1003, 0, none⟩) (Kd.N_mono HO_3.out (fun k_ hk => (⟨hk, hk.2⟩ : _ ∧ k_ ≠ gb1003))) (fun _ hk => hk.2) (.int .i64 ((rd_T29 t992 t1001).f0))) (fun _ hk => hk.2) (.int .i64 ((rd_T29 t992 t1001).f1))) (fun _ hk => hk.2) (.slice A1002_2 ((rd_T29 t992 t1001).f2).length c1002_2)) (fun _ hk => ⟨hk.1.1, hk.1.2⟩)⟩, ⟨by (with_reducible repeat (first | apply Kd.R_alloc | apply Kd.R_drewN | apply Kd.R_drew)); exact Kd.R_mono (Kd.R_far (p := ⟨gb1003, 2, none⟩) (Kd.R_far (p := ⟨gb1003, 1, none⟩) (Kd.R_far (p := ⟨gb1003, 0, none⟩) (Kd.R_types HO_4.out BK1003.out (by decide)) (fun _ hk => hk.2) (.int .i64 ((rd_T29 t992 t1001).f0))) (fun _ hk => hk.2) (.int .i64 ((rd_T29 t992 t1001).f1))) (fun _ hk => hk.2) (.slice A1002_2 ((rd_T29 t992 t1001).f2).length c1002_2)) (fun _ hk => trivial)⟩, ⟨by (with_reducible repeat (first | refine blk_drewN ?_ _ | refine blk_drew ?_ | refine blk_alloc ?_ _)); refine blk_put (cs := #[.int .i64 ((rd_T29 t992 t1001).f0), .int .i64 ((rd_T29 t992 t1001).f1), .slice none 0 0]) ?_ 2 _ rfl; (with_reducible repeat (first | refine blk_drewN ?_ _ | refine blk_drew ?_ | refine blk_alloc ?_ _)); refine blk_put (cs := #[.int .i64 ((rd_T29 t992 t1001).f0), .int .i64 0, .slice none 0 0]) ?_ 1 _ rfl; (with_reducible repeat (first | refine blk_drewN ?_ _ | refine blk_drew ?_ | refine blk_alloc ?_ _)); refine blk_put (cs := #[.int .i64 0, .int .i64 0, .slice none 0 0]) ?_ 0 _ rfl; (with_reducible repeat (first | refine blk_drewN ?_ _ | refine blk_drew ?_ | refine blk_alloc ?_ _)); exact BK1003.out⟩, ⟨(Kd.V_reads' (by (with_reducible repeat (first | apply Kd.V_alloc | apply Kd.V_drewN | apply Kd.V_drew)); exact (Kd.V_mono (Kd.V_far (p := ⟨gb1003, 2, none⟩) (Kd.V_far (p := ⟨gb1003, 1, none⟩) (Kd.V_far (p := ⟨gb1003, 0, none⟩) (Kd.V_mono HL1002_2.out (fun k_ hk => (⟨hk, hk.2⟩ : _ ∧ k_ ≠ gb1003))) (fun _ hk => hk.2) (.int .i64 ((rd_T29 t992 t1001).f0))) (fun _ hk => hk.2) (.int .i64 ((rd_T29 t992 t1001).f1))) (fun _ hk => hk.2) (.slice A1002_2 ((rd_T29 t992 t1001).f2).length c1002_2)) (fun _ h_ => h_.1)))).2.2⟩, ⟨pG GE1003⟩⟩
   case round =>
    clear H'
    try clear c1
    try clear p1
    try clear q1
    try clear hx1
    try clear c2
    try clear c2b0
    try clear c2b1
    try clear p2
    try clear c5
    try clear c10
    try clear p10
    try clear q10
    try clear hx10
    try clear c12
    try clear c12b0
    try clear c12b1
    try clear c13
    try clear c15
    try clear c15b0
    try clear c16
    try clear c16b0
    try clear c17
    try clear hcz19_0
    try clear hcz19_1
    try clear hcz19_2
    try clear hfz19_0
    try clear hfz19_1
    try clear hfz19_2
    try clear hx1002_0
    try clear hx1002_1
    try clear hx1002_2
    try clear p1002
    try clear p2
    try clear q1002
    obtain ⟨x9_2, x10_2, rfl, rfl, HA, HK2, HO_3, HO_4, BK1003, HR1002_2, HB⟩ := hrel
    cases gk with
    | zero => exact absurd HA.out (by simp [laws_FnDishAllergens.l0])
    | succ k2 =>
     have H := HA.out
     clear HA
     simp only [laws_FnDishAllergens.l0] at H
     rcases (Classical.em (x10_2 < (((rd_T29 t992 t1001).f2).length : Int))).symm with c20 | c20
     ·rw [if_neg c20] at H
      have c20b0 : decide (x10_2 < (((rd_T29 t992 t1001).f2).length : Int)) = false := decide_eq_false c20
      clear c20
      obtain rfl := Option.some.inj H
      have hcz39_0 : wr.cell? ⟨gb1003, 0, none⟩ = some (.int .i64 ((rd_T29 t992 t1001).f0)) := (blk_cell BK1003.out 0).trans rfl
      have hcz39_1 : wr.cell? ⟨gb1003, 1, none⟩ = some (.int .i64 ((rd_T29 t992 t1001).f1)) := (blk_cell BK1003.out 1).trans rfl
      have hcz39_2 : wr.cell? ⟨gb1003, 2, none⟩ = some (.slice A1002_2 ((rd_T29 t992 t1001).f2).length c1002_2) := (blk_cell BK1003.out 2).trans rfl
      have hfz39_0 := blk_frozen BK1003.out 0
      have hfz39_1 := blk_frozen BK1003.out 1
      have hfz39_2 := blk_frozen BK1003.out 2
      go_wp2
      go_ret
      exact ⟨pE, pG GE1003⟩
     rw [if_pos c20] at H
     have c20b0 : decide (x10_2 < (((rd_T29 t992 t1001).f2).length : Int)) = true := decide_eq_true c20
     clear c20
     rcases (Classical.em (0 ≤ x10_2)).symm with c21 | c21
     ·rw [if_neg c21] at H
      exact absurd H (by simp)
     rw [if_pos c21] at H
     have c21b0 : decide (0 ≤ x10_2) = true := decide_eq_true c21
     clear c21
     by_cases c22 : ((rd_T55 ((rd_T29 t992 t1001).f2) x10_2).f1) > 0
     ·rw [if_pos c22] at H
      have c22b0 : decide (0 < ((rd_T55 ((rd_T29 t992 t1001).f2) x10_2).f1)) = true := decide_eq_true c22
      clear c22
      replace H := Option.bind_eq_some_iff.mp H
      obtain ⟨t1006, A230, H⟩ := H
      replace H : ((impl_AllergensJoin.f x9_2 t1006).bind fun t1007 => (laws_FnDishAllergens.l0 k2 t992 t995 t999 t1007 (wrap64 (x10_2 + 1)) ((rd_T29 t992 t1001).f0) ((rd_T29 t992 t1001).f1) ((rd_T29 t992 t1001).f2))) = some r := H
      have A23 := Aside0.mk A230
      clear A230
      replace H := Option.bind_eq_some_iff.mp H
      obtain ⟨t1007, A240, H⟩ := H
      replace H : (laws_FnDishAllergens.l0 k2 t992 t995 t999 t1007 (wrap64 (x10_2 + 1)) ((rd_T29 t992 t1001).f0) ((rd_T29 t992 t1001).f1) ((rd_T29 t992 t1001).f2)) = some r := H
      have A24 := Aside0.mk A240
      clear A240
      have H' := Aside0.mk H
      clear H
      have hcz25_0 : wr.cell? ⟨gb1003, 0, none⟩ = some (.int .i64 ((rd_T29 t992 t1001).f0)) := (blk_cell BK1003.out 0).trans rfl
      have hcz25_1 : wr.cell? ⟨gb1003, 1, none⟩ = some (.int .i64 ((rd_T29 t992 t1001).f1)) := (blk_cell BK1003.out 1).trans rfl
      have hcz25_2 : wr.cell? ⟨gb1003, 2, none⟩ = some (.slice A1002_2 ((rd_T29 t992 t1001).f2).length c1002_2) := (blk_cell BK1003.out 2).trans rfl
      have hfz25_0 := blk_frozen BK1003.out 0
      have hfz25_1 := blk_frozen BK1003.out 1
      have hfz25_2 := blk_frozen BK1003.out 2
      have p1004 : 0 ≤ (x10_2 : Int) := of_decide_eq_true pA
      have q1004 : x10_2 < (((rd_T29 t992 t1001).f2).length : Int) := of_decide_eq_true pA
      obtain ⟨ad1004, e1004, hx1004_0, hx1004_1, hx1004_2⟩ := at_T55 F17.q3 x10_2 p1004 q1004
      cases e1004
      replace p1004 := eq_true p1004
      replace q1004 := eq_true q1004
      go_wp2_with (first | ((with_reducible refine gate_dst (N := 11) rfl ?_); refine box_event ?hg (N := 11) ?hd (cs := #[.int .i64 0, .int .i64 0, .int .i64 0]) (t := 55) ?hr ?_; (case hd => rfl); (case hg => rfl); (case hr => first | (go_simp; done) | (go_simp; rfl)); intro gb1005 hg w26 hbox hb; have n0_ := Aside0.mk (Kd.N_below (Kd.N_elderB (by (with_reducible repeat (first | apply Kd.N_alloc | apply Kd.N_drewN | apply Kd.N_drew)); exact HO_3.out) gb1005 (Nat.le_of_eq hg.symm)) hb); have n1_ := Aside0.mk (Kd.R_below (pR HO_4) hb); have n2_ := Aside0.mk (blk_below (g := gb1003) (o := .cells #[.int .i64 ((rd_T29 t992 t1001).f0), .int .i64 ((rd_T29 t992 t1001).f1), .slice (some ad1004) ((rd_T29 t992 t1001).f2).length c1002_2] 29 (0, 0)) (pC BK1003) hb); have n3_ := Aside0.mk (Kd.C_below F17.q3 hb); have n4_ := Aside0.mk (below_step (pG GE1003) hb); have n5_ := Aside0.mk (hbox); have n6_ := Aside0.mk ((by rw [hg]; exact (below_size (pG GE1003)) : w.heap.size ≤ gb1005)); have n7_ := Aside0.mk ((by rw [hg]; exact (below_size (pG GE1003)) : w.heap.size ≤ gb1005)); have n8_ := Aside0.mk ((fun ad_ he_ hp_ => by rw [hg]; exact Nat.ne_of_lt (laws_FnDishAllergens.cLt_ (show Kd.C k55 _ (some ad1004) ((rd_T29 t992 t1001).f2).length ((rd_T29 t992 t1001).f2) from F17.q3) he_ hp_ (by decide)) : ∀ ad_ : Addr, (some ad1004) = some ad_ → 0 < ((rd_T29 t992 t1001).f2).length → ad_.block ≠ gb1005)); have n9_ := Aside0.mk ((by rw [hg]; exact Nat.ne_of_lt (blk_lt (g := gb1003) (o := .cells #[.int .i64 ((rd_T29 t992 t1001).f0), .int .i64 ((rd_T29 t992 t1001).f1), .slice (some ad1004) ((rd_T29 t992 t1001).f2).length c1002_2] 29 (0, 0)) (pC BK1003)) : gb1003 ≠ gb1005)); have n10_ := Aside0.mk ((by rw [hg]; exact Nat.ne_of_gt (blk_lt (g := gb1003) (o := .cells #[.int .i64 ((rd_T29 t992 t1001).f0), .int .i64 ((rd_T29 t992 t1001).f1), .slice (some ad1004) ((rd_T29 t992 t1001).f2).length c1002_2] 29 (0, 0)) (pC BK1003)) : gb1005 ≠ gb1003)); clear HO_3; clear HO_4; clear BK1003; clear HR1002_2; clear HB; have HO_3 := n0_; have HO_4 := n1_; have BK1003 := n2_; have HR1002_2 := n3_; have HB := n4_; have BK1005 := n5_; have GW1005 := n6_; have GE1005 := n7_; have NS1005_HR1002_2 := n8_; have NB1003_1005 := n9_; have NB1005_1003 := n10_; clear n0_ n1_ n2_ n3_ n4_ n5_ n6_ n7_ n8_ n9_ n10_; clear hb hbox hg; have hnb27 := NB1005_1003.out; have hnc27 := NB1003_1005.out; have hcz28_0 : w26.cell? ⟨gb1005, 0, none⟩ = some (.int .i64 0) := (blk_cell BK1005.out 0).trans rfl; have hcz28_1 : w26.cell? ⟨gb1005, 1, none⟩ = some (.int .i64 0) := (blk_cell BK1005.out 1).trans rfl; have hcz28_2 : w26.cell? ⟨gb1005, 2, none⟩ = some (.int .i64 0) := (blk_cell BK1005.out 2).trans rfl; have hfz28_0 := blk_frozen BK1005.out 0; have hfz28_1 := blk_frozen BK1005.out 1; have hfz28_2 := blk_frozen BK1005.out 2) | ((with_reducible refine gate_callee (f := 28) rfl ?_); refine goesL_ (some 65) rfl rfl Try.func28 pL rfl #[.slice (some ad1002) t992.length co8, .slice Ao9 t995.length co9, .int .i64 ((rd_T55 ((rd_T29 t992 t1001).f2) x10_2).f1)] rfl pM ?_; (with_reducible refine (impl_DishAllergens.calls k2 _ _ t992 _ _ t995 ((rd_T55 ((rd_T29 t992 t1001).f2) x10_2).f1) t1006 _ ?side1 ?side2 ?side3 ?side4 A23.out).mono ?_); (case side1 => refine (Kd.N_reads' (e := 29) (base := w.heap.size) (ok := fun k_ => ((some k_ ≠ (.slice Ao9 t995.length co9 : Value).ownBlock ∧ k_ ≠ gb1003) ∧ k_ ≠ gb1005)) (n := t992.length) (c := co8) ?_).2.2; exact F17.q1); (case side2 => exact (Kd.N_reads' HO_3.out).2.1); (case side3 => refine (Kd.R_reads' (e := 63) (base := w.heap.size) (ok := fun k_ => True) (n := t995.length) (c := co9) ?_).2.2; exact F17.q0); (case side4 => exact (Kd.R_reads' HO_4.out).2.1); rintro e w29 ⟨rfl, hb⟩; refine ⟨_, rfl, ?_⟩; have n0_ := Aside0.mk (Kd.N_below F17.q1 hb); have n1_ := Aside0.mk (Kd.R_below F17.q0 hb); have n2_ := Aside0.mk (blk_below (g := gb1003) (o := .cells #[.int .i64 ((rd_T29 t992 t1001).f0), .int .i64 ((rd_T29 t992 t1001).f1), .slice (some ad1004) ((rd_T29 t992 t1001).f2).length c1002_2] 29 (0, 0)) F17.q4 hb); have n3_ := Aside0.mk (Kd.C_below (show Kd.C k55 _ _ ((rd_T29 t992 t1001).f2).length ((rd_T29 t992 t1001).f2) from by repeat (first | (with_reducible exact HR1002_2.out) | (with_reducible refine Kd.C_alloc ?_ _) | (with_reducible refine Kd.C_drewN ?_ _) | (with_reducible refine Kd.C_drew ?_) | refine laws_FnDishAllergens.cSet_ (fun _ _ _ _ h_ => h_) NS1005_HR1002_2.out ?_ | exact HR1002_2.out)) hb); have n4_ := Aside0.mk (blk_below (g := gb1005) (o := .cells #[.int .i64 ((rd_T55 ((rd_T29 t992 t1001).f2) x10_2).f0), .int .i64 ((rd_T55 ((rd_T29 t992 t1001).f2) x10_2).f1), .int .i64 ((rd_T55 ((rd_T29 t992 t1001).f2) x10_2).f2)] 55 (0, 0)) F17.q2 hb); have n5_ := Aside0.mk (below_step (by repeat (first | (with_reducible first | exact HB.out | apply below_alloc | apply pw_below_drewN | apply below_drew1 | refine below_set ?_ GE1003.out | refine below_set ?_ GE1005.out) | exact HB.out)) hb); clear HO_3; clear HO_4; clear BK1003; clear HR1002_2; clear BK1005; clear HB; have HO_3 := n0_; have HO_4 := n1_; have BK1003 := n2_; have HR1002_2 := n3_; have BK1005 := n4_; have HB := n5_; clear n0_ n1_ n2_ n3_ n4_ n5_; (try clear hb); (try clear hb2); (try clear hk); (try clear hi)) | ((with_reducible refine gate_callee (f := 52) rfl ?_); refine goesL_ (some 66) rfl rfl Try.func52 pL rfl #[.int .i64 x9_2, .int .i64 t1006] rfl pM ?_; (with_reducible refine (impl_AllergensJoin.calls x9_2 t1006 t1007 _ A24.out).mono ?_); rintro e w' ⟨rfl, ⟨nd, rfl⟩⟩; refine ⟨_, rfl, ?_⟩))
      go_roundg k2
      case measure => have := HJ5.out; have := HK2.out; omega
      case rel => exact ⟨(t1007), (wrap64 (x10_2 + 1)), pF, pF, H', ⟨by have := HJ5.out; have := HK2.out; omega⟩, ⟨by (with_reducible repeat (first | apply Kd.N_alloc | apply Kd.N_drewN | apply Kd.N_drew)); exact Kd.N_mono HO_3.out (fun _ hk => ⟨hk.1.1, hk.1.2⟩)⟩, ⟨pR HO_4⟩, ⟨pC BK1003⟩, ⟨by repeat (first | (with_reducible exact HR1002_2.out) | (with_reducible refine Kd.C_alloc ?_ _) | (with_reducible refine Kd.C_drewN ?_ _) | (with_reducible refine Kd.C_drew ?_) | exact HR1002_2.out)⟩, ⟨by repeat (first | (with_reducible first | exact HB.out | apply below_alloc | apply pw_below_drewN | apply below_drew1 | refine below_set ?_ GE1003.out | refine below_set ?_ GE1005.out) | exact HB.out)⟩⟩
     rw [if_neg c22] at H
     have c22b0 : decide (0 < ((rd_T55 ((rd_T29 t992 t1001).f2) x10_2).f1)) = false := decide_eq_false c22
     clear c22
     replace H := Option.bind_eq_some_iff.mp H
     obtain ⟨t1008, A300, H⟩ := H
     replace H : (if 0 ≤ t1008 then (if t1008 < (t995.length : Int) then ((impl_AllergensJoin.f x9_2 ((rd_T63 t995 t1008).f2)).bind fun t1010 => (laws_FnDishAllergens.l0 k2 t992 t995 t999 t1010 (wrap64 (x10_2 + 1)) ((rd_T29 t992 t1001).f0) ((rd_T29 t992 t1001).f1) ((rd_T29 t992 t1001).f2))) else (none)) else (none)) = some r := H
     have A30 := Aside0.mk A300
     clear A300
     rcases (Classical.em (0 ≤ t1008)).symm with c31 | c31
     ·rw [if_neg c31] at H
      exact absurd H (by simp)
     rw [if_pos c31] at H
     have c31b0 : decide (0 ≤ t1008) = true := decide_eq_true c31
     clear c31
     rcases (Classical.em (t1008 < (t995.length : Int))).symm with c32 | c32
     ·rw [if_neg c32] at H
      exact absurd H (by simp)
     rw [if_pos c32] at H
     have c32b0 : decide (t1008 < (t995.length : Int)) = true := decide_eq_true c32
     clear c32
     replace H := Option.bind_eq_some_iff.mp H
     obtain ⟨t1010, A330, H⟩ := H
     replace H : (laws_FnDishAllergens.l0 k2 t992 t995 t999 t1010 (wrap64 (x10_2 + 1)) ((rd_T29 t992 t1001).f0) ((rd_T29 t992 t1001).f1) ((rd_T29 t992 t1001).f2)) = some r := H
     have A33 := Aside0.mk A330
     clear A330
     have H' := Aside0.mk H
     clear H
     have hcz34_0 : wr.cell? ⟨gb1003, 0, none⟩ = some (.int .i64 ((rd_T29 t992 t1001).f0)) := (blk_cell BK1003.out 0).trans rfl
     have hcz34_1 : wr.cell? ⟨gb1003, 1, none⟩ = some (.int .i64 ((rd_T29 t992 t1001).f1)) := (blk_cell BK1003.out 1).trans rfl
     have hcz34_2 : wr.cell? ⟨gb1003, 2, none⟩ = some (.slice A1002_2 ((rd_T29 t992 t1001).f2).length c1002_2) := (blk_cell BK1003.out 2).trans rfl
     have hfz34_0 := blk_frozen BK1003.out 0
     have hfz34_1 := blk_frozen BK1003.out 1
     have hfz34_2 := blk_frozen BK1003.out 2
     have p1004 : 0 ≤ (x10_2 : Int) := of_decide_eq_true pA
     have q1004 : x10_2 < (((rd_T29 t992 t1001).f2).length : Int) := of_decide_eq_true pA
     obtain ⟨ad1004, e1004, hx1004_0, hx1004_1, hx1004_2⟩ := at_T55 F17.q3 x10_2 p1004 q1004
     cases e1004
     replace p1004 := eq_true p1004
     replace q1004 := eq_true q1004
     go_wp2_with (first | ((with_reducible refine gate_dst (N := 11) rfl ?_); refine box_event ?hg (N := 11) ?hd (cs := #[.int .i64 0, .int .i64 0, .int .i64 0]) (t := 55) ?hr ?_; (case hd => rfl); (case hg => rfl); (case hr => first | (go_simp; done) | (go_simp; rfl)); intro gb1005 hg w35 hbox hb; have n0_ := Aside0.mk (Kd.N_below (Kd.N_elderB (by (with_reducible repeat (first | apply Kd.N_alloc | apply Kd.N_drewN | apply Kd.N_drew)); exact HO_3.out) gb1005 (Nat.le_of_eq hg.symm)) hb); have n1_ := Aside0.mk (Kd.R_below (pR HO_4) hb); have n2_ := Aside0.mk (blk_below (g := gb1003) (o := .cells #[.int .i64 ((rd_T29 t992 t1001).f0), .int .i64 ((rd_T29 t992 t1001).f1), .slice (some ad1004) ((rd_T29 t992 t1001).f2).length c1002_2] 29 (0, 0)) (pC BK1003) hb); have n3_ := Aside0.mk (Kd.C_below F17.q3 hb); have n4_ := Aside0.mk (below_step (pG GE1003) hb); have n5_ := Aside0.mk (hbox); have n6_ := Aside0.mk ((by rw [hg]; exact (below_size (pG GE1003)) : w.heap.size ≤ gb1005)); have n7_ := Aside0.mk ((by rw [hg]; exact (below_size (pG GE1003)) : w.heap.size ≤ gb1005)); have n8_ := Aside0.mk ((fun ad_ he_ hp_ => by rw [hg]; exact Nat.ne_of_lt (laws_FnDishAllergens.cLt_ (show Kd.C k55 _ (some ad1004) ((rd_T29 t992 t1001).f2).length ((rd_T29 t992 t1001).f2) from F17.q3) he_ hp_ (by decide)) : ∀ ad_ : Addr, (some ad1004) = some ad_ → 0 < ((rd_T29 t992 t1001).f2).length → ad_.block ≠ gb1005)); have n9_ := Aside0.mk ((by rw [hg]; exact Nat.ne_of_lt (blk_lt (g := gb1003) (o := .cells #[.int .i64 ((rd_T29 t992 t1001).f0), .int .i64 ((rd_T29 t992 t1001).f1), .slice (some ad1004) ((rd_T29 t992 t1001).f2).length c1002_2] 29 (0, 0)) (pC BK1003)) : gb1003 ≠ gb1005)); have n10_ := Aside0.mk ((by rw [hg]; exact Nat.ne_of_gt (blk_lt (g := gb1003) (o := .cells #[.int .i64 ((rd_T29 t992 t1001).f0), .int .i64 ((rd_T29 t992 t1001).f1), .slice (some ad1004) ((rd_T29 t992 t1001).f2).length c1002_2] 29 (0, 0)) (pC BK1003)) : gb1005 ≠ gb1003)); clear HO_3; clear HO_4; clear BK1003; clear HR1002_2; clear HB; have HO_3 := n0_; have HO_4 := n1_; have BK1003 := n2_; have HR1002_2 := n3_; have HB := n4_; have BK1005 := n5_; have GW1005 := n6_; have GE1005 := n7_; have NS1005_HR1002_2 := n8_; have NB1003_1005 := n9_; have NB1005_1003 := n10_; clear n0_ n1_ n2_ n3_ n4_ n5_ n6_ n7_ n8_ n9_ n10_; clear hb hbox hg; have hnb36 := NB1005_1003.out; have hnc36 := NB1003_1005.out; have hcz37_0 : w35.cell? ⟨gb1005, 0, none⟩ = some (.int .i64 0) := (blk_cell BK1005.out 0).trans rfl; have hcz37_1 : w35.cell? ⟨gb1005, 1, none⟩ = some (.int .i64 0) := (blk_cell BK1005.out 1).trans rfl; have hcz37_2 : w35.cell? ⟨gb1005, 2, none⟩ = some (.int .i64 0) := (blk_cell BK1005.out 2).trans rfl; have hfz37_0 := blk_frozen BK1005.out 0; have hfz37_1 := blk_frozen BK1005.out 1; have hfz37_2 := blk_frozen BK1005.out 2) | ((with_reducible refine gate_callee (f := 49) rfl ?_); refine goesL_ (some 72) rfl rfl Try.func49 pL rfl #[.slice Ao9 t995.length co9, .int .i64 ((rd_T55 ((rd_T29 t992 t1001).f2) x10_2).f0)] rfl pM ?_; (with_reducible refine (impl_FoodsFind.calls k2 _ _ t995 ((rd_T55 ((rd_T29 t992 t1001).f2) x10_2).f0) t1008 _ ?side1 ?side2 A30.out).mono ?_); (case side1 => refine (Kd.R_reads' (e := 63) (base := w.heap.size) (ok := fun k_ => True) (n := t995.length) (c := co9) ?_).2.2; exact F17.q0); (case side2 => exact (Kd.R_reads' HO_4.out).2.1); rintro e w38 ⟨rfl, hb⟩; refine ⟨_, rfl, ?_⟩; have n0_ := Aside0.mk (Kd.N_below F17.q1 hb); have n1_ := Aside0.mk (Kd.R_below F17.q0 hb); have n2_ := Aside0.mk (blk_below (g := gb1003) (o := .cells #[.int .i64 ((rd_T29 t992 t1001).f0), .int .i64 ((rd_T29 t992 t1001).f1), .slice (some ad1004) ((rd_T29 t992 t1001).f2).length c1002_2] 29 (0, 0)) F17.q4 hb); have n3_ := Aside0.mk (Kd.C_below (show Kd.C k55 _ _ ((rd_T29 t992 t1001).f2).length ((rd_T29 t992 t1001).f2) from by repeat (first | (with_reducible exact HR1002_2.out) | (with_reducible refine Kd.C_alloc ?_ _) | (with_reducible refine Kd.C_drewN ?_ _) | (with_reducible refine Kd.C_drew ?_) | refine laws_FnDishAllergens.cSet_ (fun _ _ _ _ h_ => h_) NS1005_HR1002_2.out ?_ | exact HR1002_2.out)) hb); have n4_ := Aside0.mk (blk_below (g := gb1005) (o := .cells #[.int .i64 ((rd_T55 ((rd_T29 t992 t1001).f2) x10_2).f0), .int .i64 ((rd_T55 ((rd_T29 t992 t1001).f2) x10_2).f1), .int .i64 ((rd_T55 ((rd_T29 t992 t1001).f2) x10_2).f2)] 55 (0, 0)) F17.q2 hb); have n5_ := Aside0.mk (below_step (by repeat (first | (with_reducible first | exact HB.out | apply below_alloc | apply pw_below_drewN | apply below_drew1 | refine below_set ?_ GE1003.out | refine below_set ?_ GE1005.out) | exact HB.out)) hb); clear HO_3; clear HO_4; clear BK1003; clear HR1002_2; clear BK1005; clear HB; have HO_3 := n0_; have HO_4 := n1_; have BK1003 := n2_; have HR1002_2 := n3_; have BK1005 := n4_; have HB := n5_; clear n0_ n1_ n2_ n3_ n4_ n5_; (try clear hb); (try clear hb2); (try clear hk); (try clear hi); have p1009 : 0 ≤ (t1008 : Int) := of_decide_eq_true pA; have q1009 : t1008 < (t995.length : Int) := of_decide_eq_true pA; obtain ⟨ad1009, e1009, hx1009_0, hx1009_1, hx1009_2, hx1009_3, hx1009_4, hx1009_5⟩ := at_T63 (Kd.R_reads' HO_4.out).2.2 t1008 p1009 q1009; cases e1009; replace p1009 := eq_true p1009; replace q1009 := eq_true q1009) | ((with_reducible refine gate_callee (f := 52) rfl ?_); refine goesL_ (some 76) rfl rfl Try.func52 pL rfl #[.int .i64 x9_2, .int .i64 ((rd_T63 t995 t1008).f2)] rfl pM ?_; (with_reducible refine (impl_AllergensJoin.calls x9_2 ((rd_T63 t995 t1008).f2) t1010 _ A33.out).mono ?_); rintro e w' ⟨rfl, ⟨nd, rfl⟩⟩; refine ⟨_, rfl, ?_⟩))
     go_roundg k2
     case measure => have := HJ5.out; have := HK2.out; omega
     case rel => exact ⟨(t1010), (wrap64 (x10_2 + 1)), pF, pF, H', ⟨by have := HJ5.out; have := HK2.out; omega⟩, ⟨by (with_reducible repeat (first | apply Kd.N_alloc | apply Kd.N_drewN | apply Kd.N_drew)); exact Kd.N_mono HO_3.out (fun _ hk => ⟨hk.1.1, hk.1.2⟩)⟩, ⟨pR HO_4⟩, ⟨pC BK1003⟩, ⟨by repeat (first | (with_reducible exact HR1002_2.out) | (with_reducible refine Kd.C_alloc ?_ _) | (with_reducible refine Kd.C_drewN ?_ _) | (with_reducible refine Kd.C_drew ?_) | exact HR1002_2.out)⟩, ⟨by repeat (first | (with_reducible first | exact HB.out | apply below_alloc | apply pw_below_drewN | apply below_drew1 | refine below_set ?_ GE1003.out | refine below_set ?_ GE1005.out) | exact HB.out)⟩⟩
/-- THE ONE PURE STATEMENT of laws_FnDishAllergens: yours. -/
def laws_FnDishAllergens.Pure : Prop := ∀ (l0 : List Int), l0.length ≤ maxLen → l0.length * 1 ≤ 140737488351232 → (∀ x ∈ l0, (Lit.int .u8 x).wf = true) → ∃ k, laws_FnDishAllergens.f k l0 = some true
theorem laws_FnDishAllergens.walk (P : laws_FnDishAllergens.Pure) (a0 : Option Addr) (len0 cap0 : Nat) (z0 : List Int) (w : World) (w0 : (a0 = none ∧ len0 = 0 ∧ cap0 = 0 ∧ z0 = []) ∨ ∃ x, a0 = some x ∧ len0 ≤ cap0 ∧ cap0 ≤ maxLen ∧ z0.length = cap0 ∧ (∀ i, i < z0.length → w.cell? (x.add i) = some (.int .u8 (z0.getD i 0))) ∧ ∀ n ∈ z0, (Lit.int .u8 n).wf = true) (y0 : len0 * 1 ≤ 140737488351232) :
  Calls Try.prog 17 #[.slice a0 len0 cap0] w fun e w' => e = .returned (.bool true) ∧ Below w.heap.size w w' := by
 obtain ⟨l0, rfl, hr0, hm0, hw0, hc0⟩ := ReadsInt.ofRowC w0
 obtain ⟨k, h⟩ := P l0 hm0 y0 hw0
 refine (laws_FnDishAllergens.calls k _ _ l0 true w (Kd.C_of_reads (d := (0 : Int)) (h1 := fun _ => rfl) hr0) hc0 h).mono ?_
 rintro e w' ⟨rfl, hd⟩
 exact ⟨rfl, hd⟩

end Go.Proofs.Ytclldijjbmnkeaa.Q
