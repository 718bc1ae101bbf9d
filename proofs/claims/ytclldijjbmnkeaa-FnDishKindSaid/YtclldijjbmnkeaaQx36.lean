-- Written by the kit's print.py for all laws of the seat at once (one namespace), by a program of this session.
import Derived.Test.YtclldijjbmnkeaaQx0
import Derived.Test.YtclldijjbmnkeaaQx5
import Derived.Test.YtclldijjbmnkeaaQx27
import Derived.Test.YtclldijjbmnkeaaQx37
import Derived.Test.YtclldijjbmnkeaaQx38
namespace Go.Proofs.Ytclldijjbmnkeaa.Q
open Go.RowKit Go.Proofs.YtclldijjbmnkeaaW.PrintWords Go.Proofs.YtclldijjbmnkeaaW.PrintLast Go.Proofs.YtclldijjbmnkeaaW.PrintMore
attribute [local go_sem] max2_int min2_int max_two min_two max_three min_three max_four min_four   -- for this text's walks alone
set_option linter.unusedVariables false
set_option linter.unusedSimpArgs false

/-! ### spec_DrawDishKind: function 46 -/
def spec_DrawDishKind.f (k : Nat) (l0 : List Int) : Option ((List (S29)) × (List (S63)) × Int) := (spec_DrawDishAllergens.f k l0).bind fun bt917 => (some (bt917.1, bt917.2.1, bt917.2.2))
theorem spec_DrawDishKind.mono : ∀ a0 k, LeO (spec_DrawDishKind.f k a0) (spec_DrawDishKind.f (k + 1) a0) := by
 intro a0 k
 unfold spec_DrawDishKind.f
 repeat' first
   | (with_reducible exact spec_DrawDishAllergens.mono _ _)
   | (with_reducible exact LeO.refl _)
   | (with_reducible exact LeO.none _)
   | (with_reducible refine LeO.ite ?_ ?_)
   | (with_reducible refine LeO.bind ?_ (fun _ => ?_))
   | exact spec_DrawDishAllergens.mono _ _
   | exact LeO.none _
   | refine LeO.ite ?_ ?_
   | refine LeO.bind ?_ (fun _ => ?_)
set_option maxHeartbeats 8000000 in
set_option maxRecDepth 100000 in
theorem spec_DrawDishKind.calls (k : Nat) (A0 : Option Addr) (c0 : Nat) (l0 : List Int) (r1 : List (S29)) (r2 : List (S63)) (r3 : Int) (w : World) (hr0 : Kd.C (Kd.int .u8) w A0 l0.length l0) (hc0 : l0.length ≤ c0) (h : spec_DrawDishKind.f k l0 = some (r1, r2, r3)) :
  Calls Try.prog 46 #[.slice A0 l0.length c0] w fun e w' => ∃ v0_ v1_ : Value, e = .returned (.tuple #[v0_, v1_, .int .i64 r3]) ∧ Kd.N k29 29 w' w.heap.size (fun k_ => (w.heap.size ≤ k_) ∧ some k_ ≠ (v1_ : Value).ownBlock) v0_ r1 ∧ Kd.R k63 63 w' w.heap.size (fun k_ => (w.heap.size ≤ k_)) v1_ r2 ∧ Below w.heap.size w w' := by
 have HR0 := Aside0.mk hr0
 have HC0 := Aside0.mk hc0
 clear hr0 hc0
 have HB := Aside0.mk (Below.refl w.heap.size w)
 have H : ((spec_DrawDishAllergens.f k l0).bind fun bt917 => (some (bt917.1, bt917.2.1, bt917.2.2))) = some (r1, r2, r3) := h
 clear h
 replace H := Option.bind_eq_some_iff.mp H
 obtain ⟨⟨t917, t920, t923⟩, A20, H⟩ := H
 replace H : (some (t917, t920, t923)) = some (r1, r2, r3) := H
 have A2 := Aside0.mk A20
 clear A20
 simp only [Option.some.injEq, Prod.mk.injEq] at H
 obtain ⟨rfl, rfl, rfl⟩ := H
 go_enter Try.func46, Try.ntmps46
 go_wp2_with (first | ((with_reducible refine gate_callee (f := 51) rfl ?_); refine goesL_ (some 6) rfl rfl Try.func51 pL rfl #[.slice A0 l0.length c0] rfl pM ?_; (with_reducible refine (spec_DrawDishAllergens.calls k _ _ l0 t917 t920 t923 _ ?side1 ?side2 A2.out).mono ?_); (case side1 => exact pS (HR0.out)); (case side2 => exact HC0.out); rintro e w3 ⟨v918, v921, rfl, ho0, ho1, hb⟩; refine ⟨_, rfl, ?_⟩; have n0_ := Aside0.mk (Kd.N_lower (Kd.N_mono (ok' := fun k_ => (w.heap.size ≤ k_) ∧ some k_ ≠ (v921 : Value).ownBlock) ho0 (fun k_ hk_ => ⟨(Nat.le_trans (below_size pB) hk_.1), hk_.2⟩)) (below_size pB)); have n1_ := Aside0.mk (Kd.R_lower (Kd.R_newM (M := fun k_ => (w.heap.size ≤ k_)) (Kd.R_mono (ok' := fun k_ => True) ho1 (fun _ hk_ => trivial)) (below_size pB) (fun k_ h_ => h_)) (below_size pB)); have n2_ := Aside0.mk (below_step pB hb); clear HB; have HO919 := n0_; have HO922 := n1_; have HB := n2_; clear n0_ n1_ n2_; (try clear hb); (try clear hb2); (try clear hk); (try clear hi); (try clear ho0); (try clear ho1)))
 go_ret3
 exact ⟨_, _, pE, by (with_reducible repeat (first | apply Kd.N_alloc | apply Kd.N_drewN | apply Kd.N_drew)); exact HO919.out, by (with_reducible repeat (first | apply Kd.R_alloc | apply Kd.R_drewN | apply Kd.R_drew)); exact Kd.R_mono HO922.out (fun _ hk => hk.1), pB⟩

/-! ### laws_FnDishKind: function 15 -/
mutual
def laws_FnDishKind.j0 : Nat → List (S29) → List (S63) → Int → Int → Int → Bool → Option (Bool)
 | 0, _, _, _, _, _, _ => none
 | k + 1, x3, x4, x5, x6, x7, x35 => if x35 = true then (some (x6 == x7)) else ((impl_DishesFind.f x3 x5).bind fun t952 => (if 0 ≤ t952 then (if t952 < (x3.length : Int) then (laws_FnDishKind.l0 k x3 x4 x6 0 0 ((rd_T29 x3 t952).f0) ((rd_T29 x3 t952).f1) ((rd_T29 x3 t952).f2)) else (none)) else (none)))
def laws_FnDishKind.l0 : Nat → List (S29) → List (S63) → Int → Int → Int → Int → Int → List (S55) → Option (Bool)
 | 0, _, _, _, _, _, _, _, _ => none
 | k + 1, x3, x4, x6, x9, x10, x955000, x955001, x955002 => if x10 < (x955002.length : Int) then (if 0 ≤ x10 then (if ((rd_T55 x955002 x10).f1) > 0 then ((impl_DishKind.f k x3 x4 ((rd_T55 x955002 x10).f1)).bind fun t957 => (laws_FnDishKind.l0 k x3 x4 x6 (mx x9 t957) (wrap64 (x10 + 1)) x955000 x955001 x955002)) else ((impl_FoodsFind.f k x4 ((rd_T55 x955002 x10).f0)).bind fun t958 => (if 0 ≤ t958 then (if t958 < (x4.length : Int) then (laws_FnDishKind.l0 k x3 x4 x6 (mx x9 ((rd_T63 x4 t958).f3)) (wrap64 (x10 + 1)) x955000 x955001 x955002) else (none)) else (none)))) else (none)) else (if x9 = x6 then (some (decide (x6 ≥ 1))) else (some false))
end
def laws_FnDishKind.f (k : Nat) (l0 : List Int) : Option (Bool) := if (l0.length : Int) > 1048576 then (some true) else ((spec_DrawDishKind.f k l0).bind fun bt943 => ((impl_DishKind.f k bt943.1 bt943.2.1 bt943.2.2).bind fun t950 => ((spec_DishKind.f k bt943.1 bt943.2.1 bt943.2.2).bind fun t951 => (if t950 = t951 then (laws_FnDishKind.j0 k bt943.1 bt943.2.1 bt943.2.2 t950 t951 (decide (t951 < 0))) else (laws_FnDishKind.j0 k bt943.1 bt943.2.1 bt943.2.2 t950 t951 true)))))
theorem laws_FnDishKind.mono_l : ∀ k, (∀ y0 y1 y2 y3 y4 y5, LeO (laws_FnDishKind.j0 k y0 y1 y2 y3 y4 y5) (laws_FnDishKind.j0 (k + 1) y0 y1 y2 y3 y4 y5)) ∧ (∀ y0 y1 y2 y3 y4 y5 y6 y7, LeO (laws_FnDishKind.l0 k y0 y1 y2 y3 y4 y5 y6 y7) (laws_FnDishKind.l0 (k + 1) y0 y1 y2 y3 y4 y5 y6 y7))
 | 0 => ⟨fun _ _ _ _ _ _ r h => by simp [laws_FnDishKind.j0] at h, fun _ _ _ _ _ _ _ _ r h => by simp [laws_FnDishKind.l0] at h⟩
 | k + 1 => by
  obtain ⟨ih0, ih1⟩ := laws_FnDishKind.mono_l k
  refine ⟨?_, ?_⟩
  ·intro y0 y1 y2 y3 y4 y5
   unfold laws_FnDishKind.j0
   repeat' first
   | (with_reducible exact ih0 _ _ _ _ _ _)
   | (with_reducible exact ih1 _ _ _ _ _ _ _ _)
   | (with_reducible exact impl_DishKind.mono _ _ _ _)
   | (with_reducible exact impl_FoodsFind.mono _ _ _)
   | (with_reducible exact spec_DishKind.mono _ _ _ _)
   | (with_reducible exact spec_DrawDishKind.mono _ _)
   | (with_reducible exact LeO.refl _)
   | (with_reducible exact LeO.none _)
   | (with_reducible refine LeO.ite ?_ ?_)
   | (with_reducible refine LeO.bind ?_ (fun _ => ?_))
   | exact ih0 _ _ _ _ _ _
   | exact ih1 _ _ _ _ _ _ _ _
   | exact impl_DishKind.mono _ _ _ _
   | exact impl_FoodsFind.mono _ _ _
   | exact spec_DishKind.mono _ _ _ _
   | exact spec_DrawDishKind.mono _ _
   | exact LeO.none _
   | refine LeO.ite ?_ ?_
   | refine LeO.bind ?_ (fun _ => ?_)
  ·intro y0 y1 y2 y3 y4 y5 y6 y7
   unfold laws_FnDishKind.l0
   repeat' first
   | (with_reducible exact ih0 _ _ _ _ _ _)
   | (with_reducible exact ih1 _ _ _ _ _ _ _ _)
   | (with_reducible exact impl_DishKind.mono _ _ _ _)
   | (with_reducible exact impl_FoodsFind.mono _ _ _)
   | (with_reducible exact spec_DishKind.mono _ _ _ _)
   | (with_reducible exact spec_DrawDishKind.mono _ _)
   | (with_reducible exact LeO.refl _)
   | (with_reducible exact LeO.none _)
   | (with_reducible refine LeO.ite ?_ ?_)
   | (with_reducible refine LeO.bind ?_ (fun _ => ?_))
   | exact ih0 _ _ _ _ _ _
   | exact ih1 _ _ _ _ _ _ _ _
   | exact impl_DishKind.mono _ _ _ _
   | exact impl_FoodsFind.mono _ _ _
   | exact spec_DishKind.mono _ _ _ _
   | exact spec_DrawDishKind.mono _ _
   | exact LeO.none _
   | refine LeO.ite ?_ ?_
   | refine LeO.bind ?_ (fun _ => ?_)
theorem laws_FnDishKind.mono : ∀ a0 k, LeO (laws_FnDishKind.f k a0) (laws_FnDishKind.f (k + 1) a0) := by
 intro a0 k
 obtain ⟨ih0, ih1⟩ := laws_FnDishKind.mono_l k
 unfold laws_FnDishKind.f
 repeat' first
   | (with_reducible exact ih0 _ _ _ _ _ _)
   | (with_reducible exact ih1 _ _ _ _ _ _ _ _)
   | (with_reducible exact impl_DishKind.mono _ _ _ _)
   | (with_reducible exact impl_FoodsFind.mono _ _ _)
   | (with_reducible exact spec_DishKind.mono _ _ _ _)
   | (with_reducible exact spec_DrawDishKind.mono _ _)
   | (with_reducible exact LeO.refl _)
   | (with_reducible exact LeO.none _)
   | (with_reducible refine LeO.ite ?_ ?_)
   | (with_reducible refine LeO.bind ?_ (fun _ => ?_))
   | exact ih0 _ _ _ _ _ _
   | exact ih1 _ _ _ _ _ _ _ _
   | exact impl_DishKind.mono _ _ _ _
   | exact impl_FoodsFind.mono _ _ _
   | exact spec_DishKind.mono _ _ _ _
   | exact spec_DrawDishKind.mono _ _
   | exact LeO.none _
   | refine LeO.ite ?_ ?_
   | refine LeO.bind ?_ (fun _ => ?_)
theorem laws_FnDishKind.cLt_ {α : Type} {d : Kd α} {W : World} {A : Option Addr} {n : Nat} {xs : List α} (h : d.C W A n xs) {ad : Addr} (he : A = some ad) (hp : 0 < n) (hs : 0 < d.sz) : ad.block < W.heap.size := by
 subst he
 cases xs with
 | nil => exact absurd h.1 (by simp; omega)
 | cons x xs' =>
  obtain ⟨ad', c, e, hcl, _, hcc⟩ := Kd.C_get h x 0 (Int.le_refl 0) (by omega)
  injection e with e
  subst e
  have h4 := hcc 0 _ (List.getElem?_eq_getElem (by omega))
  have h5 := World.block_lt_of_cell? W _ h4
  rwa [add_block] at h5
theorem laws_FnDishKind.cSet_ {α : Type} {d : Kd α} {W : World} {A : Option Addr} {n : Nat} {xs : List α} {g j : Nat} {u : Value} (hK : ∀ (W W1 : World) x c, d.K W x c → d.K W1 x c) (hne : ∀ ad : Addr, A = some ad → 0 < n → ad.block ≠ g) (h : d.C W A n xs) : d.C (W.setCell ⟨g, j, none⟩ u) A n xs := by
 obtain ⟨h1, h2, h3⟩ := h
 refine ⟨h1, h2, fun hp => ?_⟩
 obtain ⟨ad, he, hc⟩ := h3 hp
 refine ⟨ad, he, fun q p hq => ?_⟩
 obtain ⟨c, hcl, hk, hcc⟩ := hc q p hq
 refine ⟨c, hcl, hK _ _ _ _ hk, fun q2 u2 hu => ?_⟩
 rw [← hcc q2 u2 hu]
 have := Below.heap_setCell W ⟨g, j, none⟩ u ad.block (hne ad he hp)
 simp only [World.cell?, add_block, this]
theorem F15.q0 {P : Prop} (h : P := by (with_reducible repeat (first | apply Kd.R_alloc | apply Kd.R_drewN | apply Kd.R_drew)); exact (Kd.R_mono (Kd.R_far (p := ⟨gb956, 2, none⟩) (Kd.R_far (p := ⟨gb956, 1, none⟩) (Kd.R_far (p := ⟨gb956, 0, none⟩) (Kd.R_types HO_4.out BK956.out (by decide)) (fun _ hk => hk.2) (.int .i64 ((rd_T55 ((rd_T29 t943 t952).f2) x10_2).f0))) (fun _ hk => hk.2) (.int .i64 ((rd_T55 ((rd_T29 t943 t952).f2) x10_2).f1))) (fun _ hk => hk.2) (.int .i64 ((rd_T55 ((rd_T29 t943 t952).f2) x10_2).f2))) (fun _ h_ => h_.1))) : P := h
theorem F15.q1 {P : Prop} (h : P := by (with_reducible repeat (first | apply Kd.N_alloc | apply Kd.N_drewN | apply Kd.N_drew)); exact (Kd.N_mono (Kd.N_far (p := ⟨gb956, 2, none⟩) (Kd.N_far (p := ⟨gb956, 1, none⟩) (Kd.N_far (p := ⟨gb956, 0, none⟩) (Kd.N_mono HO_3.out (fun k_ hk => (⟨hk, hk.2⟩ : _ ∧ k_ ≠ gb956))) (fun _ hk => hk.2) (.int .i64 ((rd_T55 ((rd_T29 t943 t952).f2) x10_2).f0))) (fun _ hk => hk.2) (.int .i64 ((rd_T55 ((rd_T29 t943 t952).f2) x10_2).f1))) (fun _ hk => hk.2) (.int .i64 ((rd_T55 ((rd_T29 t943 t952).f2) x10_2).f2))) (fun _ h_ => h_.1))) : P := h
theorem F15.q2 {P : Prop} (h : P := by (with_reducible repeat (first | refine blk_drewN ?_ _ | refine blk_drew ?_ | refine blk_alloc ?_ _)); refine blk_put (cs := #[.int .i64 ((rd_T55 ((rd_T29 t943 t952).f2) x10_2).f0), .int .i64 ((rd_T55 ((rd_T29 t943 t952).f2) x10_2).f1), .int .i64 0]) ?_ 2 _ rfl; (with_reducible repeat (first | refine blk_drewN ?_ _ | refine blk_drew ?_ | refine blk_alloc ?_ _)); refine blk_put (cs := #[.int .i64 ((rd_T55 ((rd_T29 t943 t952).f2) x10_2).f0), .int .i64 0, .int .i64 0]) ?_ 1 _ rfl; (with_reducible repeat (first | refine blk_drewN ?_ _ | refine blk_drew ?_ | refine blk_alloc ?_ _)); refine blk_put (cs := #[.int .i64 0, .int .i64 0, .int .i64 0]) ?_ 0 _ rfl; (with_reducible repeat (first | refine blk_drewN ?_ _ | refine blk_drew ?_ | refine blk_alloc ?_ _)); exact BK956.out) : P := h
theorem F15.q3 {P : Prop} (h : P := by repeat (first | (with_reducible exact HR953_2.out) | (with_reducible refine Kd.C_alloc ?_ _) | (with_reducible refine Kd.C_drewN ?_ _) | (with_reducible refine Kd.C_drew ?_) | exact HR953_2.out)) : P := h
theorem F15.q4 {P : Prop} (h : P := by (with_reducible repeat (first | refine blk_drewN ?_ _ | refine blk_drew ?_ | refine blk_alloc ?_ _)); refine blk_far ?_ NB954_956.out _; (with_reducible repeat (first | refine blk_drewN ?_ _ | refine blk_drew ?_ | refine blk_alloc ?_ _)); refine blk_far ?_ NB954_956.out _; (with_reducible repeat (first | refine blk_drewN ?_ _ | refine blk_drew ?_ | refine blk_alloc ?_ _)); refine blk_far ?_ NB954_956.out _; (with_reducible repeat (first | refine blk_drewN ?_ _ | refine blk_drew ?_ | refine blk_alloc ?_ _)); exact BK954.out) : P := h
set_option maxHeartbeats 8000000 in
set_option maxRecDepth 100000 in
theorem laws_FnDishKind.calls (k : Nat) (A0 : Option Addr) (c0 : Nat) (l0 : List Int) (r : Bool) (w : World) (hr0 : Kd.C (Kd.int .u8) w A0 l0.length l0) (hc0 : l0.length ≤ c0) (h : laws_FnDishKind.f k l0 = some r) :
  Calls Try.prog 15 #[.slice A0 l0.length c0] w fun e w' => e = .returned (.bool r) ∧ Below w.heap.size w w' := by
 have hu29 := Try.underlying29
 have hu55 := Try.underlying55
 have HR0 := Aside0.mk hr0
 have HC0 := Aside0.mk hc0
 clear hr0 hc0
 have HB := Aside0.mk (Below.refl w.heap.size w)
 have H : (if (l0.length : Int) > 1048576 then (some true) else ((spec_DrawDishKind.f k l0).bind fun bt943 => ((impl_DishKind.f k bt943.1 bt943.2.1 bt943.2.2).bind fun t950 => ((spec_DishKind.f k bt943.1 bt943.2.1 bt943.2.2).bind fun t951 => (if t950 = t951 then (laws_FnDishKind.j0 k bt943.1 bt943.2.1 bt943.2.2 t950 t951 (decide (t951 < 0))) else (laws_FnDishKind.j0 k bt943.1 bt943.2.1 bt943.2.2 t950 t951 true)))))) = some r := h
 clear h
 by_cases c2 : (l0.length : Int) > 1048576
 ·rw [if_pos c2] at H
  have c2b0 : decide (1048576 < (l0.length : Int)) = true := decide_eq_true c2
  have c2b1 : decide (1048576 < l0.length) = true := decide_eq_true (by omega)
  clear c2
  obtain rfl := Option.some.inj H
  go_enter Try.func15, Try.ntmps15
  go_wp2
  go_ret
  exact ⟨pE, pB⟩
 rw [if_neg c2] at H
 have c2b0 : decide (1048576 < (l0.length : Int)) = false := decide_eq_false c2
 have c2b1 : decide (1048576 < l0.length) = false := decide_eq_false (by omega)
 clear c2
 replace H := Option.bind_eq_some_iff.mp H
 obtain ⟨⟨t943, t946, t949⟩, A30, H⟩ := H
 replace H : ((impl_DishKind.f k t943 t946 t949).bind fun t950 => ((spec_DishKind.f k t943 t946 t949).bind fun t951 => (if t950 = t951 then (laws_FnDishKind.j0 k t943 t946 t949 t950 t951 (decide (t951 < 0))) else (laws_FnDishKind.j0 k t943 t946 t949 t950 t951 true)))) = some r := H
 have A3 := Aside0.mk A30
 clear A30
 replace H := Option.bind_eq_some_iff.mp H
 obtain ⟨t950, A40, H⟩ := H
 replace H : ((spec_DishKind.f k t943 t946 t949).bind fun t951 => (if t950 = t951 then (laws_FnDishKind.j0 k t943 t946 t949 t950 t951 (decide (t951 < 0))) else (laws_FnDishKind.j0 k t943 t946 t949 t950 t951 true))) = some r := H
 have A4 := Aside0.mk A40
 clear A40
 replace H := Option.bind_eq_some_iff.mp H
 obtain ⟨t951, A50, H⟩ := H
 replace H : (if t950 = t951 then (laws_FnDishKind.j0 k t943 t946 t949 t950 t951 (decide (t951 < 0))) else (laws_FnDishKind.j0 k t943 t946 t949 t950 t951 true)) = some r := H
 have A5 := Aside0.mk A50
 clear A50
 have HC6 := Aside0.mk H
 clear H
 go_enter Try.func15, Try.ntmps15
 go_upto_region 6 with (first | ((with_reducible refine gate_callee (f := 46) rfl ?_); refine goesL_ (some 17) rfl rfl Try.func46 pL rfl #[.slice A0 l0.length c0] rfl pM ?_; (with_reducible refine (spec_DrawDishKind.calls k _ _ l0 t943 t946 t949 _ ?side1 ?side2 A3.out).mono ?_); (case side1 => exact pS (HR0.out)); (case side2 => exact HC0.out); rintro e w7 ⟨v944, v947, rfl, ho0, ho1, hb⟩; refine ⟨_, rfl, ?_⟩; have n0_ := Aside0.mk (Kd.N_lower (Kd.N_mono (ok' := fun k_ => some k_ ≠ (v947 : Value).ownBlock) ho0 (fun k_ hk_ => hk_.2)) (below_size pB)); have n1_ := Aside0.mk (Kd.R_lower (Kd.R_mono (ok' := fun k_ => True) ho1 (fun _ hk_ => trivial)) (below_size pB)); have n2_ := Aside0.mk (below_step pB hb); clear HB; have HO945 := n0_; have HO948 := n1_; have HB := n2_; clear n0_ n1_ n2_; (try clear hb); (try clear hb2); (try clear hk); (try clear hi); (try clear ho0); (try clear ho1); obtain ⟨Ao8, co8, eo8⟩ := Kd.N_slice HO945.out; subst eo8; obtain ⟨Ao9, co9, eo9⟩ := Kd.R_slice HO948.out; subst eo9) | ((with_reducible refine gate_callee (f := 47) rfl ?_); refine goesL_ (some 24) rfl rfl Try.func47 pL rfl #[.slice Ao8 t943.length co8, .slice Ao9 t946.length co9, .int .i64 t949] rfl pM ?_; (with_reducible refine (impl_DishKind.calls k _ _ t943 _ _ t946 t949 t950 _ ?side1 ?side2 ?side3 ?side4 A4.out).mono ?_); (case side1 => exact pS ((Kd.N_reads' HO945.out).2.2)); (case side2 => exact (Kd.N_reads' HO945.out).2.1); (case side3 => exact pS ((Kd.R_reads' HO948.out).2.2)); (case side4 => exact (Kd.R_reads' HO948.out).2.1); rintro e w10 ⟨rfl, hb⟩; refine ⟨_, rfl, ?_⟩; have n0_ := Aside0.mk (Kd.N_below (by (with_reducible repeat (first | apply Kd.N_alloc | apply Kd.N_drewN | apply Kd.N_drew)); exact HO945.out) hb); have n1_ := Aside0.mk (Kd.R_below (pR HO948) hb); have n2_ := Aside0.mk (below_step pB hb); clear HO945; clear HO948; clear HB; have HO945 := n0_; have HO948 := n1_; have HB := n2_; clear n0_ n1_ n2_; (try clear hb); (try clear hb2); (try clear hk); (try clear hi)) | ((with_reducible refine gate_callee (f := 48) rfl ?_); refine goesL_ (some 28) rfl rfl Try.func48 pL rfl #[.slice Ao8 t943.length co8, .slice Ao9 t946.length co9, .int .i64 t949] rfl pM ?_; (with_reducible refine (spec_DishKind.calls k _ _ t943 _ _ t946 t949 t951 _ ?side1 ?side2 ?side3 ?side4 A5.out).mono ?_); (case side1 => exact pS ((Kd.N_reads' HO945.out).2.2)); (case side2 => exact (Kd.N_reads' HO945.out).2.1); (case side3 => exact pS ((Kd.R_reads' HO948.out).2.2)); (case side4 => exact (Kd.R_reads' HO948.out).2.1); rintro e w11 ⟨rfl, hb⟩; refine ⟨_, rfl, ?_⟩; have n0_ := Aside0.mk (Kd.N_below (by (with_reducible repeat (first | apply Kd.N_alloc | apply Kd.N_drewN | apply Kd.N_drew)); exact HO945.out) hb); have n1_ := Aside0.mk (Kd.R_below (pR HO948) hb); have n2_ := Aside0.mk (below_step pB hb); clear HO945; clear HO948; clear HB; have HO945 := n0_; have HO948 := n1_; have HB := n2_; clear n0_ n1_ n2_; (try clear hb); (try clear hb2); (try clear hk); (try clear hi)))
 (try simp only [Act.put, List.setIfInBounds_toArray, List.set_cons_zero, List.set_cons_succ])
 go_cut [35] (fun v35 wc => ∃ (kq : Nat) (x35_5 : Bool), v35 = .bool x35_5 ∧ Aside0 (laws_FnDishKind.j0 kq t943 t946 t949 t950 t951 x35_5 = some r) ∧ Aside0 (kq ≤ k) ∧ Aside0 (Kd.N k29 29 wc w.heap.size (fun k_ => some k_ ≠ ((.slice Ao9 t946.length co9) : Value).ownBlock) (.slice Ao8 t943.length co8) t943) ∧ Aside0 (Kd.R k63 63 wc w.heap.size (fun _ => True) (.slice Ao9 t946.length co9) t946) ∧ Aside0 (Below w.heap.size w wc))
 case first =>
  have H := HC6.out
  clear HC6
  rcases (Classical.em (t950 = t951)).symm with c12 | c12
  ·rw [if_neg c12] at H
   have c12b0 : (t950 == t951) = false := beq_eq_false_iff_ne.mpr c12
   have c12b1 : (t950 != t951) = true := bne_iff_ne.mpr c12
   (first | rw [c12b0] | (simp only [i64_w, i32_w]; rw [c12b0]) | skip)
   have H' := Aside0.mk H
   clear H
   go_wp2
   go_meet
   case rel => exact ⟨_, (true), pF, H', ⟨by first | omega | exact Nat.le_refl _⟩, ⟨by (with_reducible repeat (first | apply Kd.N_alloc | apply Kd.N_drewN | apply Kd.N_drew)); exact HO945.out⟩, ⟨pR HO948⟩, ⟨pB⟩⟩
  rw [if_pos c12] at H
  have c12b0 : (t950 == t951) = true := beq_iff_eq.mpr c12
  have c12b1 : (t950 != t951) = false := bne_eq_false_iff_eq.mpr c12
  clear c12
  (first | rw [c12b0] | (simp only [i64_w, i32_w]; rw [c12b0]) | skip)
  have H' := Aside0.mk H
  clear H
  go_wp2
  go_meet
  case rel => exact ⟨_, (decide (t951 < 0)), pF, H', ⟨by first | omega | exact Nat.le_refl _⟩, ⟨by (with_reducible repeat (first | apply Kd.N_alloc | apply Kd.N_drewN | apply Kd.N_drew)); exact HO945.out⟩, ⟨pR HO948⟩, ⟨pB⟩⟩
 case rest =>
  clear HC6
  try clear c1
  try clear c2
  try clear c2b0
  try clear c2b1
  try clear p2
  try clear c4
  try clear c12
  try clear c12b0
  try clear c12b1
  obtain ⟨kq, x35_5, rfl, HA, HJ5, HO_3, HO_4, HB⟩ := hcut
  cases kq with
  | zero => exact absurd HA.out (by simp [laws_FnDishKind.j0])
  | succ kj5 =>
   have H := HA.out
   clear HA
   simp only [laws_FnDishKind.j0] at H
   by_cases c13 : x35_5 = true
   ·subst c13
    have H1 : (some (t950 == t951)) = some r := by rw [if_pos rfl] at H; exact H
    clear H
    have H := H1
    clear H1
    obtain rfl := Option.some.inj H
    go_wp2
    go_ret
    exact ⟨pE, pB⟩
   replace c13 := Bool.eq_false_iff.mpr c13
   subst c13
   have H1 : ((impl_DishesFind.f t943 t949).bind fun t952 => (if 0 ≤ t952 then (if t952 < (t943.length : Int) then (laws_FnDishKind.l0 kj5 t943 t946 t950 0 0 ((rd_T29 t943 t952).f0) ((rd_T29 t943 t952).f1) ((rd_T29 t943 t952).f2)) else (none)) else (none))) = some r := by rw [if_neg (show ¬ (false = true) by decide)] at H; exact H
   clear H
   have H := H1
   clear H1
   replace H := Option.bind_eq_some_iff.mp H
   obtain ⟨t952, A140, H⟩ := H
   replace H : (if 0 ≤ t952 then (if t952 < (t943.length : Int) then (laws_FnDishKind.l0 kj5 t943 t946 t950 0 0 ((rd_T29 t943 t952).f0) ((rd_T29 t943 t952).f1) ((rd_T29 t943 t952).f2)) else (none)) else (none)) = some r := H
   have A14 := Aside0.mk A140
   clear A140
   rcases (Classical.em (0 ≤ t952)).symm with c15 | c15
   ·rw [if_neg c15] at H
    exact absurd H (by simp)

   rw [if_pos c15] at H
   have c15b0 : decide (0 ≤ t952) = true := decide_eq_true c15
   clear c15
   rcases (Classical.em (t952 < (t943.length : Int))).symm with c16 | c16
   ·rw [if_neg c16] at H
    exact absurd H (by simp)
   rw [if_pos c16] at H
   have c16b0 : decide (t952 < (t943.length : Int)) = true := decide_eq_true c16
   clear c16
   have H' := Aside0.mk H
   clear H
   go_wp2_with (first | ((with_reducible refine gate_callee (f := 20) rfl ?_); refine goesL_ (some 42) rfl rfl Try.func20 pL rfl #[.slice Ao8 t943.length co8, .int .i64 t949] rfl pM ?_; (with_reducible refine (impl_DishesFind.calls _ _ t943 t949 t952 _ ?side1 ?side2 A14.out).mono ?_); (case side1 => exact pS ((Kd.N_reads' HO_3.out).2.2)); (case side2 => exact (Kd.N_reads' HO_3.out).2.1); rintro e w17 ⟨rfl, hb⟩; refine ⟨_, rfl, ?_⟩; have n0_ := Aside0.mk (Kd.N_below (by (with_reducible repeat (first | apply Kd.N_alloc | apply Kd.N_drewN | apply Kd.N_drew)); exact HO_3.out) hb); have n1_ := Aside0.mk (Kd.R_below (pR HO_4) hb); have n2_ := Aside0.mk (below_step pB hb); clear HO_3; clear HO_4; clear HB; have HO_3 := n0_; have HO_4 := n1_; have HB := n2_; clear n0_ n1_ n2_; (try clear hb); (try clear hb2); (try clear hk); (try clear hi); have p953 : 0 ≤ (t952 : Int) := of_decide_eq_true pA; have q953 : t952 < (t943.length : Int) := of_decide_eq_true pA; obtain ⟨ad953, A953_2, c953_2, e953, hx953_0, hx953_1, hx953_2, hl953_2, hi953_2⟩ := at_T29 (Kd.N_reads' HO_3.out).2.2 t952 p953 q953; cases e953; obtain ⟨ce953, hce953, hMe953, hcc953⟩ := Kd.N_get HO_3.out z29 t952 p953 (by first | exact q953 | exact of_decide_eq_true pA | (have e_ := (Kd.N_reads' HO_3.out).1; omega)); obtain ⟨ua953_2, uc953_2, rfl, ul953_2, ge953_2⟩ := k29_openF hMe953; have hv953_2 := hcc953 2 _ rfl; rw [add_field _ _ 2 (by omega)] at hv953_2; replace hv953_2 := Option.some.inj (hv953_2.symm.trans hx953_2); injection hv953_2 with hva_ hvn_ hvc_; rw [hva_] at ge953_2; rw [hvc_] at ul953_2; have HL953_2 := Aside0.mk (show Kd.V k55 55 _ w.heap.size _ _ ((rd_T29 t943 t952).f2) from Kd.V_mk ul953_2 ge953_2); clear hva_ hvn_ hvc_ ge953_2 ul953_2; clear hcc953 hce953; have HR953_2 := Aside0.mk (hi953_2); have HC953_2 := Aside0.mk hl953_2; clear hi953_2 hl953_2; replace p953 := eq_true p953; replace q953 := eq_true q953) | ((with_reducible refine gate_dst (N := 8) rfl ?_); refine box_event ?hg (N := 8) ?hd (cs := #[.int .i64 0, .int .i64 0, .slice none 0 0]) (t := 29) ?hr ?_; (case hd => rfl); (case hg => rfl); (case hr => first | (go_simp; done) | (go_simp; rfl)); intro gb954 hg w18 hbox hb; have n0_ := Aside0.mk (Kd.N_below (Kd.N_elderB (by (with_reducible repeat (first | apply Kd.N_alloc | apply Kd.N_drewN | apply Kd.N_drew)); exact HO_3.out) gb954 (Nat.le_of_eq hg.symm)) hb); have n1_ := Aside0.mk (Kd.R_below (pR HO_4) hb); have n2_ := Aside0.mk (Kd.V_below (Kd.V_elderB (by (with_reducible repeat (first | apply Kd.V_alloc | apply Kd.V_drewN | apply Kd.V_drew)); exact HL953_2.out) gb954 (Nat.le_of_eq hg.symm)) hb); have n3_ := Aside0.mk (Kd.C_below F15.q3 hb); have n4_ := Aside0.mk (below_step pB hb); have n5_ := Aside0.mk (hbox); have n6_ := Aside0.mk ((by rw [hg]; exact (below_size pB) : w.heap.size ≤ gb954)); have n7_ := Aside0.mk ((by rw [hg]; exact (below_size pB) : w.heap.size ≤ gb954)); have n8_ := Aside0.mk ((fun ad_ he_ hp_ => by rw [hg]; exact Nat.ne_of_lt (laws_FnDishKind.cLt_ (show Kd.C k55 _ A953_2 ((rd_T29 t943 t952).f2).length ((rd_T29 t943 t952).f2) from F15.q3) he_ hp_ (by decide)) : ∀ ad_ : Addr, A953_2 = some ad_ → 0 < ((rd_T29 t943 t952).f2).length → ad_.block ≠ gb954)); clear HO_3; clear HO_4; clear HL953_2; clear HR953_2; clear HB; have HO_3 := n0_; have HO_4 := n1_; have HL953_2 := n2_; have HR953_2 := n3_; have HB := n4_; have BK954 := n5_; have GW954 := n6_; have GE954 := n7_; have NS954_HR953_2 := n8_; clear n0_ n1_ n2_ n3_ n4_ n5_ n6_ n7_ n8_; clear hb hbox hg; have hcz19_0 : w18.cell? ⟨gb954, 0, none⟩ = some (.int .i64 0) := (blk_cell BK954.out 0).trans rfl; have hcz19_1 : w18.cell? ⟨gb954, 1, none⟩ = some (.int .i64 0) := (blk_cell BK954.out 1).trans rfl; have hcz19_2 : w18.cell? ⟨gb954, 2, none⟩ = some (.slice none 0 0) := (blk_cell BK954.out 2).trans rfl; have hfz19_0 := blk_frozen BK954.out 0; have hfz19_1 := blk_frozen BK954.out 1; have hfz19_2 := blk_frozen BK954.out 2))
   go_loopg [9, 10] kj5 (fun kq v9 v10 w' => ∃ (x9_2 : Int) (x10_2 : Int), v9 = .int .i64 x9_2 ∧ v10 = .int .i64 x10_2 ∧ Aside0 (laws_FnDishKind.l0 kq t943 t946 t950 x9_2 x10_2 ((rd_T29 t943 t952).f0) ((rd_T29 t943 t952).f1) ((rd_T29 t943 t952).f2) = some r) ∧ Aside0 (kq ≤ kj5) ∧ Aside0 (Kd.N k29 29 w' w.heap.size (fun k_ => some k_ ≠ ((.slice Ao9 t946.length co9) : Value).ownBlock ∧ k_ ≠ gb954) (.slice (some ad953) t943.length co8) t943) ∧ Aside0 (Kd.R k63 63 w' w.heap.size (fun _ => True) (.slice Ao9 t946.length co9) t946) ∧ Aside0 (w'.heap[gb954]? = some (.cells #[.int .i64 ((rd_T29 t943 t952).f0), .int .i64 ((rd_T29 t943 t952).f1), (.slice A953_2 ((rd_T29 t943 t952).f2).length c953_2)] 29 (0, 0))) ∧ Aside0 (Kd.C k55 w' A953_2 ((rd_T29 t943 t952).f2).length ((rd_T29 t943 t952).f2)) ∧ Aside0 (Below w.heap.size w w'))
   case atStart => exact ⟨(0), (0), pF, pF, H', ⟨Nat.le_refl _⟩, ⟨by (with_reducible repeat (first | apply Kd.N_alloc | apply Kd.N_drewN | apply Kd.N_drew)); exact Kd.N_mono (Kd.N_far (p := ⟨gb954, 2, none⟩) (Kd.N_far (p := ⟨gb954, 1, none⟩) (Kd.N_far (p := ⟨gb954, 0, none⟩) (Kd.N_mono HO_3.out (fun k_ hk => (⟨hk, hk.2⟩ : _ ∧ k_ ≠ gb954))) (fun _ hk => hk.2) (.int .i64 ((rd_T29 t943 t952).f0))) (fun _ hk => hk.2) (.int .i64 ((rd_T29 t943 t952).f1))) (fun _ hk => hk.2) (.slice A953_2 ((rd_T29 t943 t952).f2).length c953_2)) (fun _ hk => ⟨hk.1.1, hk.1.2⟩)⟩, ⟨by (with_reducible repeat (first | apply Kd.R_alloc | apply Kd.R_drewN | apply Kd.R_drew)); exact Kd.R_mono (Kd.R_far (p := ⟨gb954, 2, none⟩) (Kd.R_far (p := ⟨gb954, 1, none⟩) (Kd.R_far (p := ⟨gb954, 0, none⟩) (Kd.R_types HO_4.out BK954.out (by decide)) (fun _ hk => hk.2) (.int .i64 ((rd_T29 t943 t952).f0))) (fun _ hk => hk.2) (.int .i64 ((rd_T29 t943 t952).f1))) (fun _ hk => hk.2) (.slice A953_2 ((rd_T29 t943 t952).f2).length c953_2)) (fun _ hk => trivial)⟩, ⟨by (with_reducible repeat (first | refine blk_drewN ?_ _ | refine blk_drew ?_ | refine blk_alloc ?_ _)); refine blk_put (cs := #[.int .i64 ((rd_T29 t943 t952).f0), .int .i64 ((rd_T29 t943 t952).f1), .slice none 0 0]) ?_ 2 _ rfl; (with_reducible repeat (first | refine blk_drewN ?_ _ | refine blk_drew ?_ | refine blk_alloc ?_ _)); refine blk_put (cs := #[.int .i64 ((rd_T29 t943 t952).f0), .int .i64 0, .slice none 0 0]) ?_ 1 _ rfl; (with_reducible repeat (first | refine blk_drewN ?_ _ | refine blk_drew ?_ | refine blk_alloc ?_ _)); refine blk_put (cs := #[.int .i64 0, .int .i64 0, .slice none 0 0]) ?_ 0 _ rfl; (with_reducible repeat (first | refine blk_drewN ?_ _ | refine blk_drew ?_ | refine blk_alloc ?_ _)); exact BK954.out⟩, ⟨(Kd.V_reads' (by (with_reducible repeat (first | apply Kd.V_alloc | apply Kd.V_drewN | apply Kd.V_drew)); exact (Kd.V_mono (Kd.V_far (p := ⟨gb954, 2, none⟩) (Kd.V_far (p := ⟨gb954, 1, none⟩) (Kd.V_far (p := ⟨gb954, 0, none⟩) (Kd.V_mono HL953_2.out (fun k_ hk => (⟨hk, hk.2⟩ : _ ∧ k_ ≠ gb954))) (fun _ hk => hk.2) (.int .i64 ((rd_T29 t943 t952).f0))) (fun _ hk => hk.2) (.int .i64 ((rd_T29 t943 t952).f1))) (fun _ hk => hk.2) (.slice A953_2 ((rd_T29 t943 t952).f2).length c953_2)) (fun _ h_ => h_.1)))).2.2⟩, ⟨pG GE954⟩⟩
   case round =>
    clear H'
    try clear c1
    try clear c2
    try clear c2b0
    try clear c2b1
    try clear p2
    try clear c4
    try clear c9
    try clear p9
    try clear q9
    try clear hx9
    try clear c12
    try clear c12b0
    try clear c12b1
    try clear c13
    try clear c15
    try clear c15b0
    try clear c16
    try clear c16b0
    try clear hcz19_0
    try clear hcz19_1
    try clear hcz19_2
    try clear hfz19_0
    try clear hfz19_1
    try clear hfz19_2
    try clear hx953_0
    try clear hx953_1
    try clear hx953_2
    try clear p2
    try clear p953
    try clear q953
    obtain ⟨x9_2, x10_2, rfl, rfl, HA, HK2, HO_3, HO_4, BK954, HR953_2, HB⟩ := hrel
    cases gk with
    | zero => exact absurd HA.out (by simp [laws_FnDishKind.l0])
    | succ k2 =>
     have H := HA.out
     clear HA
     simp only [laws_FnDishKind.l0] at H
     rcases (Classical.em (x10_2 < (((rd_T29 t943 t952).f2).length : Int))).symm with c20 | c20
     ·rw [if_neg c20] at H
      have c20b0 : decide (x10_2 < (((rd_T29 t943 t952).f2).length : Int)) = false := decide_eq_false c20
      clear c20
      rcases (Classical.em (x9_2 = t950)).symm with c39 | c39
      ·rw [if_neg c39] at H
       have c39b0 : (x9_2 == t950) = false := beq_eq_false_iff_ne.mpr c39
       have c39b1 : (x9_2 != t950) = true := bne_iff_ne.mpr c39
       obtain rfl := Option.some.inj H
       have hcz41_0 : wr.cell? ⟨gb954, 0, none⟩ = some (.int .i64 ((rd_T29 t943 t952).f0)) := (blk_cell BK954.out 0).trans rfl
       have hcz41_1 : wr.cell? ⟨gb954, 1, none⟩ = some (.int .i64 ((rd_T29 t943 t952).f1)) := (blk_cell BK954.out 1).trans rfl
       have hcz41_2 : wr.cell? ⟨gb954, 2, none⟩ = some (.slice A953_2 ((rd_T29 t943 t952).f2).length c953_2) := (blk_cell BK954.out 2).trans rfl
       have hfz41_0 := blk_frozen BK954.out 0
       have hfz41_1 := blk_frozen BK954.out 1
       have hfz41_2 := blk_frozen BK954.out 2
       go_wp2
       go_ret
       exact ⟨pE, pG GE954⟩
      rw [if_pos c39] at H
      have c39b0 : (x9_2 == t950) = true := beq_iff_eq.mpr c39
      have c39b1 : (x9_2 != t950) = false := bne_eq_false_iff_eq.mpr c39
      clear c39
      obtain rfl := Option.some.inj H
      have hcz40_0 : wr.cell? ⟨gb954, 0, none⟩ = some (.int .i64 ((rd_T29 t943 t952).f0)) := (blk_cell BK954.out 0).trans rfl
      have hcz40_1 : wr.cell? ⟨gb954, 1, none⟩ = some (.int .i64 ((rd_T29 t943 t952).f1)) := (blk_cell BK954.out 1).trans rfl
      have hcz40_2 : wr.cell? ⟨gb954, 2, none⟩ = some (.slice A953_2 ((rd_T29 t943 t952).f2).length c953_2) := (blk_cell BK954.out 2).trans rfl
      have hfz40_0 := blk_frozen BK954.out 0
      have hfz40_1 := blk_frozen BK954.out 1
      have hfz40_2 := blk_frozen BK954.out 2
      go_wp2
      go_ret
      exact ⟨pE, pG GE954⟩
     rw [if_pos c20] at H
     have c20b0 : decide (x10_2 < (((rd_T29 t943 t952).f2).length : Int)) = true := decide_eq_true c20
     clear c20
     rcases (Classical.em (0 ≤ x10_2)).symm with c21 | c21
     ·rw [if_neg c21] at H
      exact absurd H (by simp)
     rw [if_pos c21] at H
     have c21b0 : decide (0 ≤ x10_2) = true := decide_eq_true c21
     clear c21
     by_cases c22 : ((rd_T55 ((rd_T29 t943 t952).f2) x10_2).f1) > 0
     ·rw [if_pos c22] at H
      have c22b0 : decide (0 < ((rd_T55 ((rd_T29 t943 t952).f2) x10_2).f1)) = true := decide_eq_true c22
      clear c22
      replace H := Option.bind_eq_some_iff.mp H
      obtain ⟨t957, A230, H⟩ := H
      replace H : (laws_FnDishKind.l0 k2 t943 t946 t950 (mx x9_2 t957) (wrap64 (x10_2 + 1)) ((rd_T29 t943 t952).f0) ((rd_T29 t943 t952).f1) ((rd_T29 t943 t952).f2)) = some r := H
      have A23 := Aside0.mk A230
      clear A230
      obtain ⟨ji24, hji24⟩ : ∃ j_ : Int, (mx x9_2 t957) = j_ := ⟨_, rfl⟩
      replace H : (laws_FnDishKind.l0 k2 t943 t946 t950 ji24 (wrap64 (x10_2 + 1)) ((rd_T29 t943 t952).f0) ((rd_T29 t943 t952).f1) ((rd_T29 t943 t952).f2)) = some r := by first | (rw [hji24] at H; exact H) | (simp only [hji24] at H ⊢; exact H)
      (try rw [hji24] at A23)
      have hji24_ : (if x9_2 < t957 then t957 else x9_2) = ji24 := hji24
      have H' := Aside0.mk H
      clear H
      have hcz25_0 : wr.cell? ⟨gb954, 0, none⟩ = some (.int .i64 ((rd_T29 t943 t952).f0)) := (blk_cell BK954.out 0).trans rfl
      have hcz25_1 : wr.cell? ⟨gb954, 1, none⟩ = some (.int .i64 ((rd_T29 t943 t952).f1)) := (blk_cell BK954.out 1).trans rfl
      have hcz25_2 : wr.cell? ⟨gb954, 2, none⟩ = some (.slice A953_2 ((rd_T29 t943 t952).f2).length c953_2) := (blk_cell BK954.out 2).trans rfl
      have hfz25_0 := blk_frozen BK954.out 0
      have hfz25_1 := blk_frozen BK954.out 1
      have hfz25_2 := blk_frozen BK954.out 2
      have p955 : 0 ≤ (x10_2 : Int) := of_decide_eq_true pA
      have q955 : x10_2 < (((rd_T29 t943 t952).f2).length : Int) := of_decide_eq_true pA
      obtain ⟨ad955, e955, hx955_0, hx955_1, hx955_2⟩ := at_T55 F15.q3 x10_2 p955 q955
      cases e955
      replace p955 := eq_true p955
      replace q955 := eq_true q955
      go_wp2_with (first | ((with_reducible refine gate_dst (N := 11) rfl ?_); refine box_event ?hg (N := 11) ?hd (cs := #[.int .i64 0, .int .i64 0, .int .i64 0]) (t := 55) ?hr ?_; (case hd => rfl); (case hg => rfl); (case hr => first | (go_simp; done) | (go_simp; rfl)); intro gb956 hg w26 hbox hb; have n0_ := Aside0.mk (Kd.N_below (Kd.N_elderB (by (with_reducible repeat (first | apply Kd.N_alloc | apply Kd.N_drewN | apply Kd.N_drew)); exact HO_3.out) gb956 (Nat.le_of_eq hg.symm)) hb); have n1_ := Aside0.mk (Kd.R_below (pR HO_4) hb); have n2_ := Aside0.mk (blk_below (g := gb954) (o := .cells #[.int .i64 ((rd_T29 t943 t952).f0), .int .i64 ((rd_T29 t943 t952).f1), .slice (some ad955) ((rd_T29 t943 t952).f2).length c953_2] 29 (0, 0)) (pC BK954) hb); have n3_ := Aside0.mk (Kd.C_below F15.q3 hb); have n4_ := Aside0.mk (below_step (pG GE954) hb); have n5_ := Aside0.mk (hbox); have n6_ := Aside0.mk ((by rw [hg]; exact (below_size (pG GE954)) : w.heap.size ≤ gb956)); have n7_ := Aside0.mk ((by rw [hg]; exact (below_size (pG GE954)) : w.heap.size ≤ gb956)); have n8_ := Aside0.mk ((fun ad_ he_ hp_ => by rw [hg]; exact Nat.ne_of_lt (laws_FnDishKind.cLt_ (show Kd.C k55 _ (some ad955) ((rd_T29 t943 t952).f2).length ((rd_T29 t943 t952).f2) from F15.q3) he_ hp_ (by decide)) : ∀ ad_ : Addr, (some ad955) = some ad_ → 0 < ((rd_T29 t943 t952).f2).length → ad_.block ≠ gb956)); have n9_ := Aside0.mk ((by rw [hg]; exact Nat.ne_of_lt (blk_lt (g := gb954) (o := .cells #[.int .i64 ((rd_T29 t943 t952).f0), .int .i64 ((rd_T29 t943 t952).f1), .slice (some ad955) ((rd_T29 t943 t952).f2).length c953_2] 29 (0, 0)) (pC BK954)) : gb954 ≠ gb956)); have n10_ := Aside0.mk ((by rw [hg]; exact Nat.ne_of_gt (blk_lt (g := gb954) (o := .cells #[.int .i64 ((rd_T29 t943 t952).f0), .int .i64 ((rd_T29 t943 t952).f1), .slice (some ad955) ((rd_T29 t943 t952).f2).length c953_2] 29 (0, 0)) (pC BK954)) : gb956 ≠ gb954)); clear HO_3; clear HO_4; clear BK954; clear HR953_2; clear HB; have HO_3 := n0_; have HO_4 := n1_; have BK954 := n2_; have HR953_2 := n3_; have HB := n4_; have BK956 := n5_; have GW956 := n6_; have GE956 := n7_; have NS956_HR953_2 := n8_; have NB954_956 := n9_; have NB956_954 := n10_; clear n0_ n1_ n2_ n3_ n4_ n5_ n6_ n7_ n8_ n9_ n10_; clear hb hbox hg; have hnb27 := NB956_954.out; have hnc27 := NB954_956.out; have hcz28_0 : w26.cell? ⟨gb956, 0, none⟩ = some (.int .i64 0) := (blk_cell BK956.out 0).trans rfl; have hcz28_1 : w26.cell? ⟨gb956, 1, none⟩ = some (.int .i64 0) := (blk_cell BK956.out 1).trans rfl; have hcz28_2 : w26.cell? ⟨gb956, 2, none⟩ = some (.int .i64 0) := (blk_cell BK956.out 2).trans rfl; have hfz28_0 := blk_frozen BK956.out 0; have hfz28_1 := blk_frozen BK956.out 1; have hfz28_2 := blk_frozen BK956.out 2) | ((with_reducible refine gate_callee (f := 47) rfl ?_); refine goesL_ (some 65) rfl rfl Try.func47 pL rfl #[.slice (some ad953) t943.length co8, .slice Ao9 t946.length co9, .int .i64 ((rd_T55 ((rd_T29 t943 t952).f2) x10_2).f1)] rfl pM ?_; (with_reducible refine (impl_DishKind.calls k2 _ _ t943 _ _ t946 ((rd_T55 ((rd_T29 t943 t952).f2) x10_2).f1) t957 _ ?side1 ?side2 ?side3 ?side4 A23.out).mono ?_); (case side1 => refine (Kd.N_reads' (e := 29) (base := w.heap.size) (ok := fun k_ => ((some k_ ≠ (.slice Ao9 t946.length co9 : Value).ownBlock ∧ k_ ≠ gb954) ∧ k_ ≠ gb956)) (n := t943.length) (c := co8) ?_).2.2; exact F15.q1); (case side2 => exact (Kd.N_reads' HO_3.out).2.1); (case side3 => refine (Kd.R_reads' (e := 63) (base := w.heap.size) (ok := fun k_ => True) (n := t946.length) (c := co9) ?_).2.2; exact F15.q0); (case side4 => exact (Kd.R_reads' HO_4.out).2.1); rintro e w29 ⟨rfl, hb⟩; refine ⟨_, rfl, ?_⟩; have n0_ := Aside0.mk (Kd.N_below F15.q1 hb); have n1_ := Aside0.mk (Kd.R_below F15.q0 hb); have n2_ := Aside0.mk (blk_below (g := gb954) (o := .cells #[.int .i64 ((rd_T29 t943 t952).f0), .int .i64 ((rd_T29 t943 t952).f1), .slice (some ad955) ((rd_T29 t943 t952).f2).length c953_2] 29 (0, 0)) F15.q4 hb); have n3_ := Aside0.mk (Kd.C_below (show Kd.C k55 _ _ ((rd_T29 t943 t952).f2).length ((rd_T29 t943 t952).f2) from by repeat (first | (with_reducible exact HR953_2.out) | (with_reducible refine Kd.C_alloc ?_ _) | (with_reducible refine Kd.C_drewN ?_ _) | (with_reducible refine Kd.C_drew ?_) | refine laws_FnDishKind.cSet_ (fun _ _ _ _ h_ => h_) NS956_HR953_2.out ?_ | exact HR953_2.out)) hb); have n4_ := Aside0.mk (blk_below (g := gb956) (o := .cells #[.int .i64 ((rd_T55 ((rd_T29 t943 t952).f2) x10_2).f0), .int .i64 ((rd_T55 ((rd_T29 t943 t952).f2) x10_2).f1), .int .i64 ((rd_T55 ((rd_T29 t943 t952).f2) x10_2).f2)] 55 (0, 0)) F15.q2 hb); have n5_ := Aside0.mk (below_step (by repeat (first | (with_reducible first | exact HB.out | apply below_alloc | apply pw_below_drewN | apply below_drew1 | refine below_set ?_ GE954.out | refine below_set ?_ GE956.out) | exact HB.out)) hb); clear HO_3; clear HO_4; clear BK954; clear HR953_2; clear BK956; clear HB; have HO_3 := n0_; have HO_4 := n1_; have BK954 := n2_; have HR953_2 := n3_; have BK956 := n4_; have HB := n5_; clear n0_ n1_ n2_ n3_ n4_ n5_; (try clear hb); (try clear hb2); (try clear hk); (try clear hi)))
      go_roundg k2
      case measure => have := HJ5.out; have := HK2.out; omega
      case rel => exact ⟨(ji24), (wrap64 (x10_2 + 1)), (by first | rfl | (simp; done) | (simp only [← hji24] <;> (first | rfl | simp)) | (simp [*]; done)), pF, H', ⟨by have := HJ5.out; have := HK2.out; omega⟩, ⟨by (with_reducible repeat (first | apply Kd.N_alloc | apply Kd.N_drewN | apply Kd.N_drew)); exact Kd.N_mono HO_3.out (fun _ hk => ⟨hk.1.1, hk.1.2⟩)⟩, ⟨pR HO_4⟩, ⟨pC BK954⟩, ⟨by repeat (first | (with_reducible exact HR953_2.out) | (with_reducible refine Kd.C_alloc ?_ _) | (with_reducible refine Kd.C_drewN ?_ _) | (with_reducible refine Kd.C_drew ?_) | exact HR953_2.out)⟩, ⟨by repeat (first | (with_reducible first | exact HB.out | apply below_alloc | apply pw_below_drewN | apply below_drew1 | refine below_set ?_ GE954.out | refine below_set ?_ GE956.out) | exact HB.out)⟩⟩
     rw [if_neg c22] at H
     have c22b0 : decide (0 < ((rd_T55 ((rd_T29 t943 t952).f2) x10_2).f1)) = false := decide_eq_false c22
     clear c22
     replace H := Option.bind_eq_some_iff.mp H
     obtain ⟨t958, A300, H⟩ := H
     replace H : (if 0 ≤ t958 then (if t958 < (t946.length : Int) then (laws_FnDishKind.l0 k2 t943 t946 t950 (mx x9_2 ((rd_T63 t946 t958).f3)) (wrap64 (x10_2 + 1)) ((rd_T29 t943 t952).f0) ((rd_T29 t943 t952).f1) ((rd_T29 t943 t952).f2)) else (none)) else (none)) = some r := H
     have A30 := Aside0.mk A300
     clear A300
     rcases (Classical.em (0 ≤ t958)).symm with c31 | c31
     ·rw [if_neg c31] at H
      exact absurd H (by simp)
     rw [if_pos c31] at H
     have c31b0 : decide (0 ≤ t958) = true := decide_eq_true c31
     clear c31
     rcases (Classical.em (t958 < (t946.length : Int))).symm with c32 | c32
     ·rw [if_neg c32] at H
      exact absurd H (by simp)
     rw [if_pos c32] at H
     have c32b0 : decide (t958 < (t946.length : Int)) = true := decide_eq_true c32
     clear c32
     obtain ⟨ji33, hji33⟩ : ∃ j_ : Int, (mx x9_2 ((rd_T63 t946 t958).f3)) = j_ := ⟨_, rfl⟩
     replace H : (laws_FnDishKind.l0 k2 t943 t946 t950 ji33 (wrap64 (x10_2 + 1)) ((rd_T29 t943 t952).f0) ((rd_T29 t943 t952).f1) ((rd_T29 t943 t952).f2)) = some r := by first | (rw [hji33] at H; exact H) | (simp only [hji33] at H ⊢; exact H)
     (try rw [hji33] at A30)
     have hji33_ : (if x9_2 < ((rd_T63 t946 t958).f3) then ((rd_T63 t946 t958).f3) else x9_2) = ji33 := hji33
     have H' := Aside0.mk H
     clear H
     have hcz34_0 : wr.cell? ⟨gb954, 0, none⟩ = some (.int .i64 ((rd_T29 t943 t952).f0)) := (blk_cell BK954.out 0).trans rfl
     have hcz34_1 : wr.cell? ⟨gb954, 1, none⟩ = some (.int .i64 ((rd_T29 t943 t952).f1)) := (blk_cell BK954.out 1).trans rfl
     have hcz34_2 : wr.cell? ⟨gb954, 2, none⟩ = some (.slice A953_2 ((rd_T29 t943 t952).f2).length c953_2) := (blk_cell BK954.out 2).trans rfl
     have hfz34_0 := blk_frozen BK954.out 0
     have hfz34_1 := blk_frozen BK954.out 1
     have hfz34_2 := blk_frozen BK954.out 2
     have p955 : 0 ≤ (x10_2 : Int) := of_decide_eq_true pA
     have q955 : x10_2 < (((rd_T29 t943 t952).f2).length : Int) := of_decide_eq_true pA
     obtain ⟨ad955, e955, hx955_0, hx955_1, hx955_2⟩ := at_T55 F15.q3 x10_2 p955 q955
     cases e955
     replace p955 := eq_true p955
     replace q955 := eq_true q955
     go_wp2_with (first | ((with_reducible refine gate_dst (N := 11) rfl ?_); refine box_event ?hg (N := 11) ?hd (cs := #[.int .i64 0, .int .i64 0, .int .i64 0]) (t := 55) ?hr ?_; (case hd => rfl); (case hg => rfl); (case hr => first | (go_simp; done) | (go_simp; rfl)); intro gb956 hg w35 hbox hb; have n0_ := Aside0.mk (Kd.N_below (Kd.N_elderB (by (with_reducible repeat (first | apply Kd.N_alloc | apply Kd.N_drewN | apply Kd.N_drew)); exact HO_3.out) gb956 (Nat.le_of_eq hg.symm)) hb); have n1_ := Aside0.mk (Kd.R_below (pR HO_4) hb); have n2_ := Aside0.mk (blk_below (g := gb954) (o := .cells #[.int .i64 ((rd_T29 t943 t952).f0), .int .i64 ((rd_T29 t943 t952).f1), .slice (some ad955) ((rd_T29 t943 t952).f2).length c953_2] 29 (0, 0)) (pC BK954) hb); have n3_ := Aside0.mk (Kd.C_below F15.q3 hb); have n4_ := Aside0.mk (below_step (pG GE954) hb); have n5_ := Aside0.mk (hbox); have n6_ := Aside0.mk ((by rw [hg]; exact (below_size (pG GE954)) : w.heap.size ≤ gb956)); have n7_ := Aside0.mk ((by rw [hg]; exact (below_size (pG GE954)) : w.heap.size ≤ gb956)); have n8_ := Aside0.mk ((fun ad_ he_ hp_ => by rw [hg]; exact Nat.ne_of_lt (laws_FnDishKind.cLt_ (show Kd.C k55 _ (some ad955) ((rd_T29 t943 t952).f2).length ((rd_T29 t943 t952).f2) from F15.q3) he_ hp_ (by decide)) : ∀ ad_ : Addr, (some ad955) = some ad_ → 0 < ((rd_T29 t943 t952).f2).length → ad_.block ≠ gb956)); have n9_ := Aside0.mk ((by rw [hg]; exact Nat.ne_of_lt (blk_lt (g := gb954) (o := .cells #[.int .i64 ((rd_T29 t943 t952).f0), .int .i64 ((rd_T29 t943 t952).f1), .slice (some ad955) ((rd_T29 t943 t952).f2).length c953_2] 29 (0, 0)) (pC BK954)) : gb954 ≠ gb956)); have n10_ := Aside0.mk ((by rw [hg]; exact Nat.ne_of_gt (blk_lt (g := gb954) (o := .cells #[.int .i64 ((rd_T29 t943 t952).f0), .int .i64 ((rd_T29 t943 t952).f1), .slice (some ad955) ((rd_T29 t943 t952).f2).length c953_2] 29 (0, 0)) (pC BK954)) : gb956 ≠ gb954)); clear HO_3; clear HO_4; clear BK954; clear HR953_2; clear HB; have HO_3 := n0_; have HO_4 := n1_; have BK954 := n2_; have HR953_2 := n3_; have HB := n4_; have BK956 := n5_; have GW956 := n6_; have GE956 := n7_; have NS956_HR953_2 := n8_; have NB954_956 := n9_; have NB956_954 := n10_; clear n0_ n1_ n2_ n3_ n4_ n5_ n6_ n7_ n8_ n9_ n10_; clear hb hbox hg; have hnb36 := NB956_954.out; have hnc36 := NB954_956.out; have hcz37_0 : w35.cell? ⟨gb956, 0, none⟩ = some (.int .i64 0) := (blk_cell BK956.out 0).trans rfl; have hcz37_1 : w35.cell? ⟨gb956, 1, none⟩ = some (.int .i64 0) := (blk_cell BK956.out 1).trans rfl; have hcz37_2 : w35.cell? ⟨gb956, 2, none⟩ = some (.int .i64 0) := (blk_cell BK956.out 2).trans rfl; have hfz37_0 := blk_frozen BK956.out 0; have hfz37_1 := blk_frozen BK956.out 1; have hfz37_2 := blk_frozen BK956.out 2) | ((with_reducible refine gate_callee (f := 49) rfl ?_); refine goesL_ (some 72) rfl rfl Try.func49 pL rfl #[.slice Ao9 t946.length co9, .int .i64 ((rd_T55 ((rd_T29 t943 t952).f2) x10_2).f0)] rfl pM ?_; (with_reducible refine (impl_FoodsFind.calls k2 _ _ t946 ((rd_T55 ((rd_T29 t943 t952).f2) x10_2).f0) t958 _ ?side1 ?side2 A30.out).mono ?_); (case side1 => refine (Kd.R_reads' (e := 63) (base := w.heap.size) (ok := fun k_ => True) (n := t946.length) (c := co9) ?_).2.2; exact F15.q0); (case side2 => exact (Kd.R_reads' HO_4.out).2.1); rintro e w38 ⟨rfl, hb⟩; refine ⟨_, rfl, ?_⟩; have n0_ := Aside0.mk (Kd.N_below F15.q1 hb); have n1_ := Aside0.mk (Kd.R_below F15.q0 hb); have n2_ := Aside0.mk (blk_below (g := gb954) (o := .cells #[.int .i64 ((rd_T29 t943 t952).f0), .int .i64 ((rd_T29 t943 t952).f1), .slice (some ad955) ((rd_T29 t943 t952).f2).length c953_2] 29 (0, 0)) F15.q4 hb); have n3_ := Aside0.mk (Kd.C_below (show Kd.C k55 _ _ ((rd_T29 t943 t952).f2).length ((rd_T29 t943 t952).f2) from by repeat (first | (with_reducible exact HR953_2.out) | (with_reducible refine Kd.C_alloc ?_ _) | (with_reducible refine Kd.C_drewN ?_ _) | (with_reducible refine Kd.C_drew ?_) | refine laws_FnDishKind.cSet_ (fun _ _ _ _ h_ => h_) NS956_HR953_2.out ?_ | exact HR953_2.out)) hb); have n4_ := Aside0.mk (blk_below (g := gb956) (o := .cells #[.int .i64 ((rd_T55 ((rd_T29 t943 t952).f2) x10_2).f0), .int .i64 ((rd_T55 ((rd_T29 t943 t952).f2) x10_2).f1), .int .i64 ((rd_T55 ((rd_T29 t943 t952).f2) x10_2).f2)] 55 (0, 0)) F15.q2 hb); have n5_ := Aside0.mk (below_step (by repeat (first | (with_reducible first | exact HB.out | apply below_alloc | apply pw_below_drewN | apply below_drew1 | refine below_set ?_ GE954.out | refine below_set ?_ GE956.out) | exact HB.out)) hb); clear HO_3; clear HO_4; clear BK954; clear HR953_2; clear BK956; clear HB; have HO_3 := n0_; have HO_4 := n1_; have BK954 := n2_; have HR953_2 := n3_; have BK956 := n4_; have HB := n5_; clear n0_ n1_ n2_ n3_ n4_ n5_; (try clear hb); (try clear hb2); (try clear hk); (try clear hi); have p959 : 0 ≤ (t958 : Int) := of_decide_eq_true pA; have q959 : t958 < (t946.length : Int) := of_decide_eq_true pA; obtain ⟨ad959, e959, hx959_0, hx959_1, hx959_2, hx959_3, hx959_4, hx959_5⟩ := at_T63 (Kd.R_reads' HO_4.out).2.2 t958 p959 q959; cases e959; replace p959 := eq_true p959; replace q959 := eq_true q959))
     go_roundg k2
     case measure => have := HJ5.out; have := HK2.out; omega
     case rel => exact ⟨(ji33), (wrap64 (x10_2 + 1)), (by first | rfl | (simp; done) | (simp only [← hji33] <;> (first | rfl | simp)) | (simp [*]; done)), pF, H', ⟨by have := HJ5.out; have := HK2.out; omega⟩, ⟨by (with_reducible repeat (first | apply Kd.N_alloc | apply Kd.N_drewN | apply Kd.N_drew)); exact Kd.N_mono HO_3.out (fun _ hk => ⟨hk.1.1, hk.1.2⟩)⟩, ⟨pR HO_4⟩, ⟨pC BK954⟩, ⟨by repeat (first | (with_reducible exact HR953_2.out) | (with_reducible refine Kd.C_alloc ?_ _) | (with_reducible refine Kd.C_drewN ?_ _) | (with_reducible refine Kd.C_drew ?_) | exact HR953_2.out)⟩, ⟨by repeat (first | (with_reducible first | exact HB.out | apply below_alloc | apply pw_below_drewN | apply below_drew1 | refine below_set ?_ GE954.out | refine below_set ?_ GE956.out) | exact HB.out)⟩⟩
/-- THE ONE PURE STATEMENT of laws_FnDishKind: yours. -/
def laws_FnDishKind.Pure : Prop := ∀ (l0 : List Int), l0.length ≤ maxLen → l0.length * 1 ≤ 140737488351232 → (∀ x ∈ l0, (Lit.int .u8 x).wf = true) → ∃ k, laws_FnDishKind.f k l0 = some true
theorem laws_FnDishKind.walk (P : laws_FnDishKind.Pure) (a0 : Option Addr) (len0 cap0 : Nat) (z0 : List Int) (w : World) (w0 : (a0 = none ∧ len0 = 0 ∧ cap0 = 0 ∧ z0 = []) ∨ ∃ x, a0 = some x ∧ len0 ≤ cap0 ∧ cap0 ≤ maxLen ∧ z0.length = cap0 ∧ (∀ i, i < z0.length → w.cell? (x.add i) = some (.int .u8 (z0.getD i 0))) ∧ ∀ n ∈ z0, (Lit.int .u8 n).wf = true) (y0 : len0 * 1 ≤ 140737488351232) :
  Calls Try.prog 15 #[.slice a0 len0 cap0] w fun e w' => e = .returned (.bool true) ∧ Below w.heap.size w w' := by
 obtain ⟨l0, rfl, hr0, hm0, hw0, hc0⟩ := ReadsInt.ofRowC w0
 obtain ⟨k, h⟩ := P l0 hm0 y0 hw0
 refine (laws_FnDishKind.calls k _ _ l0 true w (Kd.C_of_reads (d := (0 : Int)) (h1 := fun _ => rfl) hr0) hc0 h).mono ?_
 rintro e w' ⟨rfl, hd⟩
 exact ⟨rfl, hd⟩

end Go.Proofs.Ytclldijjbmnkeaa.Q
