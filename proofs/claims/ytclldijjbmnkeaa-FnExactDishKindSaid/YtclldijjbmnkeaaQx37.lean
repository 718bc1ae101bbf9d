-- Written by the kit's print.py for all laws of the seat at once (one namespace), by a program of this session.
import Derived.Test.YtclldijjbmnkeaaQx0
import Derived.Test.YtclldijjbmnkeaaQx5
import Derived.Test.YtclldijjbmnkeaaQx10
import Derived.Test.YtclldijjbmnkeaaQx14
import Derived.Test.YtclldijjbmnkeaaQx16
namespace Go.Proofs.Ytclldijjbmnkeaa.Q
open Go.RowKit Go.Proofs.YtclldijjbmnkeaaW.PrintWords Go.Proofs.YtclldijjbmnkeaaW.PrintLast Go.Proofs.YtclldijjbmnkeaaW.PrintMore
attribute [local go_sem] max2_int min2_int max_two min_two max_three min_three max_four min_four   -- for this text's walks alone
set_option linter.unusedVariables false
set_option linter.unusedSimpArgs false

/-! ### impl_DishKind: function 47 -/
def impl_DishKind.l0 : Nat → Int → List (S63) → Int → Int → Option (Int)
 | 0, _, _, _, _ => none
 | k + 1, x7, x18, x19, x20 => if x20 < x19 then (if 0 ≤ x20 then (if x20 < (x18.length : Int) then (impl_DishKind.l0 k (mx x7 ((rd_T63 x18 x20).f3)) x18 x19 (wrap64 (x20 + 1))) else (none)) else (none)) else (some x7)
def impl_DishKind.f (k : Nat) (l0 : List (S29)) (l1 : List (S63)) (a2 : Int) : Option (Int) := (impl_hasDish.f k l0 l1 a2).bind fun t924 => (if t924 = true then ((impl_foodsIn.f k l0 l1 a2).bind fun t925 => (impl_DishKind.l0 k 0 t925 (t925.length : Int) 0)) else (some (-1)))
theorem impl_DishKind.mono_l : ∀ k, (∀ y0 y1 y2 y3, LeO (impl_DishKind.l0 k y0 y1 y2 y3) (impl_DishKind.l0 (k + 1) y0 y1 y2 y3))
 | 0 => fun _ _ _ _ r h => by simp [impl_DishKind.l0] at h
 | k + 1 => by
  have ih0 := impl_DishKind.mono_l k
  ·intro y0 y1 y2 y3
   unfold impl_DishKind.l0
   repeat' first
   | (with_reducible exact ih0 _ _ _ _)
   | (with_reducible exact impl_foodsIn.mono _ _ _ _)
   | (with_reducible exact impl_hasDish.mono _ _ _ _)
   | (with_reducible exact LeO.refl _)
   | (with_reducible exact LeO.none _)
   | (with_reducible refine LeO.ite ?_ ?_)
   | (with_reducible refine LeO.bind ?_ (fun _ => ?_))
   | exact ih0 _ _ _ _
   | exact impl_foodsIn.mono _ _ _ _
   | exact impl_hasDish.mono _ _ _ _
   | exact LeO.none _
   | refine LeO.ite ?_ ?_
   | refine LeO.bind ?_ (fun _ => ?_)
theorem impl_DishKind.mono : ∀ a0 a1 a2 k, LeO (impl_DishKind.f k a0 a1 a2) (impl_DishKind.f (k + 1) a0 a1 a2) := by
 intro a0 a1 a2 k
 have ih0 := impl_DishKind.mono_l k
 unfold impl_DishKind.f
 repeat' first
   | (with_reducible exact ih0 _ _ _ _)
   | (with_reducible exact impl_foodsIn.mono _ _ _ _)
   | (with_reducible exact impl_hasDish.mono _ _ _ _)
   | (with_reducible exact LeO.refl _)
   | (with_reducible exact LeO.none _)
   | (with_reducible refine LeO.ite ?_ ?_)
   | (with_reducible refine LeO.bind ?_ (fun _ => ?_))
   | exact ih0 _ _ _ _
   | exact impl_foodsIn.mono _ _ _ _
   | exact impl_hasDish.mono _ _ _ _
   | exact LeO.none _
   | refine LeO.ite ?_ ?_
   | refine LeO.bind ?_ (fun _ => ?_)
set_option maxHeartbeats 8000000 in
set_option maxRecDepth 100000 in
theorem impl_DishKind.calls (k : Nat) (A0 : Option Addr) (c0 : Nat) (l0 : List (S29)) (A1 : Option Addr) (c1 : Nat) (l1 : List (S63)) (a2 : Int) (r : Int) (w : World) (hr0 : Kd.C k29 w A0 l0.length l0) (hc0 : l0.length ≤ c0) (hr1 : Kd.C k63 w A1 l1.length l1) (hc1 : l1.length ≤ c1) (h : impl_DishKind.f k l0 l1 a2 = some r) :
  Calls Try.prog 47 #[.slice A0 l0.length c0, .slice A1 l1.length c1, .int .i64 a2] w fun e w' => e = .returned (.int .i64 r) ∧ Below w.heap.size w w' := by
 have hu63 := Try.underlying63
 have HR0 := Aside0.mk hr0
 have HC0 := Aside0.mk hc0
 clear hr0 hc0
 have HR1 := Aside0.mk hr1
 have HC1 := Aside0.mk hc1
 clear hr1 hc1
 have HB := Aside0.mk (Below.refl w.heap.size w)
 have H : ((impl_hasDish.f k l0 l1 a2).bind fun t924 => (if t924 = true then ((impl_foodsIn.f k l0 l1 a2).bind fun t925 => (impl_DishKind.l0 k 0 t925 (t925.length : Int) 0)) else (some (-1)))) = some r := h
 clear h
 replace H := Option.bind_eq_some_iff.mp H
 obtain ⟨t924, A40, H⟩ := H
 replace H : (if t924 = true then ((impl_foodsIn.f k l0 l1 a2).bind fun t925 => (impl_DishKind.l0 k 0 t925 (t925.length : Int) 0)) else (some (-1))) = some r := H
 have A4 := Aside0.mk A40
 clear A40
 rcases (Classical.em (t924 = true)).symm with c5 | c5
 ·replace c5 := Bool.eq_false_iff.mpr c5
  subst c5
  have H1 : (some (-1)) = some r := by rw [if_neg (show ¬ (false = true) by decide)] at H; exact H
  clear H
  have H := H1
  clear H1
  obtain rfl := Option.some.inj H
  go_enter Try.func47, Try.ntmps47
  go_wp2_with (first | ((with_reducible refine gate_callee (f := 66) rfl ?_); refine goesL_ (some 13) rfl rfl Try.func66 pL rfl #[.slice A0 l0.length c0, .slice A1 l1.length c1, .int .i64 a2] rfl pM ?_; (with_reducible refine (impl_hasDish.calls k _ _ l0 _ _ l1 a2 false _ ?side1 ?side2 ?side3 ?side4 A4.out).mono ?_); (case side1 => exact pS (HR0.out)); (case side2 => exact HC0.out); (case side3 => exact pS (HR1.out)); (case side4 => exact HC1.out); rintro e w16 ⟨rfl, hb⟩; refine ⟨_, rfl, ?_⟩; have n0_ := Aside0.mk (below_step pB hb); clear HB; have HB := n0_; clear n0_; (try clear hb); (try clear hb2); (try clear hk); (try clear hi)))
  go_ret
  exact ⟨pE, pB⟩

 subst c5
 have H1 : ((impl_foodsIn.f k l0 l1 a2).bind fun t925 => (impl_DishKind.l0 k 0 t925 (t925.length : Int) 0)) = some r := by rw [if_pos rfl] at H; exact H
 clear H
 have H := H1
 clear H1
 replace H := Option.bind_eq_some_iff.mp H
 obtain ⟨t925, A60, H⟩ := H
 replace H : (impl_DishKind.l0 k 0 t925 (t925.length : Int) 0) = some r := H
 have A6 := Aside0.mk A60
 clear A60
 have H' := Aside0.mk H
 clear H
 go_enter Try.func47, Try.ntmps47
 go_wp2_with (first | ((with_reducible refine gate_callee (f := 66) rfl ?_); refine goesL_ (some 13) rfl rfl Try.func66 pL rfl #[.slice A0 l0.length c0, .slice A1 l1.length c1, .int .i64 a2] rfl pM ?_; (with_reducible refine (impl_hasDish.calls k _ _ l0 _ _ l1 a2 true _ ?side1 ?side2 ?side3 ?side4 A4.out).mono ?_); (case side1 => exact pS (HR0.out)); (case side2 => exact HC0.out); (case side3 => exact pS (HR1.out)); (case side4 => exact HC1.out); rintro e w7 ⟨rfl, hb⟩; refine ⟨_, rfl, ?_⟩; have n0_ := Aside0.mk (below_step pB hb); clear HB; have HB := n0_; clear n0_; (try clear hb); (try clear hb2); (try clear hk); (try clear hi)) | ((with_reducible refine gate_callee (f := 67) rfl ?_); refine goesL_ (some 18) rfl rfl Try.func67 pL rfl #[.slice A0 l0.length c0, .slice A1 l1.length c1, .int .i64 a2] rfl pM ?_; (with_reducible refine (impl_foodsIn.calls k _ _ l0 _ _ l1 a2 t925 _ ?side1 ?side2 ?side3 ?side4 A6.out).mono ?_); (case side1 => exact pS ((Kd.C_below HR0.out HB.out))); (case side2 => exact HC0.out); (case side3 => exact pS ((Kd.C_below HR1.out HB.out))); (case side4 => exact HC1.out); rintro e w8 ⟨v926, rfl, ho0, hb⟩; refine ⟨_, rfl, ?_⟩; have n0_ := Aside0.mk (Kd.R_lower ho0 (below_size pB)); have n1_ := Aside0.mk (below_step pB hb); clear HB; have HO927 := n0_; have HB := n1_; clear n0_ n1_; (try clear hb); (try clear hb2); (try clear hk); (try clear hi); (try clear ho0); obtain ⟨Ao9, co9, eo9⟩ := Kd.R_slice HO927.out; subst eo9))
 go_loopg [7, 20] k (fun kq v7 v20 w' => ∃ (x7_1 : Int) (x20_1 : Int), v7 = .int .i64 x7_1 ∧ v20 = .int .i64 x20_1 ∧ Aside0 (impl_DishKind.l0 kq x7_1 t925 (t925.length : Int) x20_1 = some r) ∧ Aside0 (kq ≤ k) ∧ Aside0 (Kd.R k63 63 w' w.heap.size (fun _ => True) (.slice Ao9 t925.length co9) t925) ∧ Aside0 (Below w.heap.size w w'))
 case atStart => exact ⟨(0), (0), pF, pF, H', ⟨Nat.le_refl _⟩, ⟨pR HO927⟩, ⟨pB⟩⟩
 case round =>
  clear H'
  try clear c1
  try clear p2
  try clear c4
  try clear c5
  try clear c6
  obtain ⟨x7_1, x20_1, rfl, rfl, HA, HK1, HO_18, HB⟩ := hrel
  cases gk with
  | zero => exact absurd HA.out (by simp [impl_DishKind.l0])
  | succ k1 =>
   have H := HA.out
   clear HA
   simp only [impl_DishKind.l0] at H
   rcases (Classical.em (x20_1 < (t925.length : Int))).symm with c10 | c10
   ·rw [if_neg c10] at H
    have c10b0 : decide (x20_1 < (t925.length : Int)) = false := decide_eq_false c10
    clear c10
    obtain rfl := Option.some.inj H
    go_wp2
    go_ret
    exact ⟨pE, pB⟩
   rw [if_pos c10] at H
   have c10b0 : decide (x20_1 < (t925.length : Int)) = true := decide_eq_true c10
   clear c10
   rcases (Classical.em (0 ≤ x20_1)).symm with c11 | c11
   ·rw [if_neg c11] at H
    exact absurd H (by simp)
   rw [if_pos c11] at H
   have c11b0 : decide (0 ≤ x20_1) = true := decide_eq_true c11
   clear c11
   rcases (Classical.em (x20_1 < (t925.length : Int))).symm with c12 | c12
   ·rw [if_neg c12] at H
    exact absurd H (by simp)
   rw [if_pos c12] at H
   have c12b0 : decide (x20_1 < (t925.length : Int)) = true := decide_eq_true c12
   clear c12
   obtain ⟨ji13, hji13⟩ : ∃ j_ : Int, (mx x7_1 ((rd_T63 t925 x20_1).f3)) = j_ := ⟨_, rfl⟩
   replace H : (impl_DishKind.l0 k1 ji13 t925 (t925.length : Int) (wrap64 (x20_1 + 1))) = some r := by first | (rw [hji13] at H; exact H) | (simp only [hji13] at H ⊢; exact H)
   have hji13_ : (if x7_1 < ((rd_T63 t925 x20_1).f3) then ((rd_T63 t925 x20_1).f3) else x7_1) = ji13 := hji13
   have H' := Aside0.mk H
   clear H
   have p928 : 0 ≤ (x20_1 : Int) := of_decide_eq_true pA
   have q928 : x20_1 < (t925.length : Int) := of_decide_eq_true pA
   obtain ⟨ad928, e928, hx928_0, hx928_1, hx928_2, hx928_3, hx928_4, hx928_5⟩ := at_T63 (Kd.R_reads' HO_18.out).2.2 x20_1 p928 q928
   cases e928
   replace p928 := eq_true p928
   replace q928 := eq_true q928
   go_wp2_with (first | ((with_reducible refine gate_dst (N := 9) rfl ?_); refine box_event ?hg (N := 9) ?hd (cs := #[.int .i64 0, .int .i64 0, .int .i64 0, .int .i64 0, .int .i64 0, .int .i64 0]) (t := 63) ?hr ?_; (case hd => rfl); (case hg => rfl); (case hr => first | (go_simp; done) | (go_simp; rfl)); intro gb929 hg w14 hbox hb; have n0_ := Aside0.mk (Kd.R_below (Kd.R_elderB (pR HO_18) gb929 (Nat.le_of_eq hg.symm)) hb); have n1_ := Aside0.mk (below_step pB hb); have n2_ := Aside0.mk (hbox); have n3_ := Aside0.mk ((by rw [hg]; exact (below_size pB) : w.heap.size ≤ gb929)); have n4_ := Aside0.mk ((by rw [hg]; exact (below_size pB) : w.heap.size ≤ gb929)); clear HO_18; clear HB; have HO_18 := n0_; have HB := n1_; have BK929 := n2_; have GW929 := n3_; have GE929 := n4_; clear n0_ n1_ n2_ n3_ n4_; clear hb hbox hg; have hcz15_0 : w14.cell? ⟨gb929, 0, none⟩ = some (.int .i64 0) := (blk_cell BK929.out 0).trans rfl; have hcz15_1 : w14.cell? ⟨gb929, 1, none⟩ = some (.int .i64 0) := (blk_cell BK929.out 1).trans rfl; have hcz15_2 : w14.cell? ⟨gb929, 2, none⟩ = some (.int .i64 0) := (blk_cell BK929.out 2).trans rfl; have hcz15_3 : w14.cell? ⟨gb929, 3, none⟩ = some (.int .i64 0) := (blk_cell BK929.out 3).trans rfl; have hcz15_4 : w14.cell? ⟨gb929, 4, none⟩ = some (.int .i64 0) := (blk_cell BK929.out 4).trans rfl; have hcz15_5 : w14.cell? ⟨gb929, 5, none⟩ = some (.int .i64 0) := (blk_cell BK929.out 5).trans rfl; have hfz15_0 := blk_frozen BK929.out 0; have hfz15_1 := blk_frozen BK929.out 1; have hfz15_2 := blk_frozen BK929.out 2; have hfz15_3 := blk_frozen BK929.out 3; have hfz15_4 := blk_frozen BK929.out 4; have hfz15_5 := blk_frozen BK929.out 5))
   go_roundg k1
   case measure => have := HK1.out; omega
   case rel => exact ⟨(ji13), (wrap64 (x20_1 + 1)), (by first | rfl | (simp; done) | (simp only [← hji13] <;> (first | rfl | simp)) | (simp [*]; done)), pF, H', ⟨by have := HK1.out; omega⟩, ⟨by (with_reducible repeat (first | apply Kd.R_alloc | apply Kd.R_drewN | apply Kd.R_drew)); exact Kd.R_mono (Kd.R_far (p := ⟨gb929, 5, none⟩) (Kd.R_far (p := ⟨gb929, 4, none⟩) (Kd.R_far (p := ⟨gb929, 3, none⟩) (Kd.R_far (p := ⟨gb929, 2, none⟩) (Kd.R_far (p := ⟨gb929, 1, none⟩) (Kd.R_far (p := ⟨gb929, 0, none⟩) (Kd.R_mono HO_18.out (fun k_ hk => (⟨hk, hk.2⟩ : _ ∧ k_ ≠ gb929))) (fun _ hk => hk.2) (.int .i64 ((rd_T63 t925 x20_1).f0))) (fun _ hk => hk.2) (.int .i64 ((rd_T63 t925 x20_1).f1))) (fun _ hk => hk.2) (.int .i64 ((rd_T63 t925 x20_1).f2))) (fun _ hk => hk.2) (.int .i64 ((rd_T63 t925 x20_1).f3))) (fun _ hk => hk.2) (.int .i64 ((rd_T63 t925 x20_1).f4))) (fun _ hk => hk.2) (.int .i64 ((rd_T63 t925 x20_1).f5))) (fun _ hk => trivial)⟩, ⟨pG GE929⟩⟩
/-! ### spec_FoodsWorst: function 85 -/
def spec_FoodsWorst.l0 : Nat → List (S63) → List Int → Int → Int → Option (Int)
 | 0, _, _, _, _ => none
 | k + 1, x0, x1, x5, x6 => if x6 < (x1.length : Int) then (if 0 ≤ x6 then ((spec_l5Find.f k x0 (rd x1 x6)).bind fun t932 => (if t932 < 0 then (some (-1)) else (if 0 ≤ t932 then (if t932 < (x0.length : Int) then (spec_FoodsWorst.l0 k x0 x1 (mx x5 ((rd_T63 x0 t932).f3)) (wrap64 (x6 + 1))) else (none)) else (none)))) else (none)) else (some x5)
def spec_FoodsWorst.f (k : Nat) (l0 : List (S63)) (l1 : List Int) : Option (Int) := (spec_FoodsValid.f k l0).bind fun t930 => (if t930 = true then (spec_FoodsWorst.l0 k l0 l1 0 0) else (some (-1)))
theorem spec_FoodsWorst.mono_l : ∀ k, (∀ y0 y1 y2 y3, LeO (spec_FoodsWorst.l0 k y0 y1 y2 y3) (spec_FoodsWorst.l0 (k + 1) y0 y1 y2 y3))
 | 0 => fun _ _ _ _ r h => by simp [spec_FoodsWorst.l0] at h
 | k + 1 => by
  have ih0 := spec_FoodsWorst.mono_l k
  ·intro y0 y1 y2 y3
   unfold spec_FoodsWorst.l0
   repeat' first
   | (with_reducible exact ih0 _ _ _ _)
   | (with_reducible exact spec_FoodsValid.mono _ _)
   | (with_reducible exact spec_l5Find.mono _ _ _)
   | (with_reducible exact LeO.refl _)
   | (with_reducible exact LeO.none _)
   | (with_reducible refine LeO.ite ?_ ?_)
   | (with_reducible refine LeO.bind ?_ (fun _ => ?_))
   | exact ih0 _ _ _ _
   | exact spec_FoodsValid.mono _ _
   | exact spec_l5Find.mono _ _ _
   | exact LeO.none _
   | refine LeO.ite ?_ ?_
   | refine LeO.bind ?_ (fun _ => ?_)
theorem spec_FoodsWorst.mono : ∀ a0 a1 k, LeO (spec_FoodsWorst.f k a0 a1) (spec_FoodsWorst.f (k + 1) a0 a1) := by
 intro a0 a1 k
 have ih0 := spec_FoodsWorst.mono_l k
 unfold spec_FoodsWorst.f
 repeat' first
   | (with_reducible exact ih0 _ _ _ _)
   | (with_reducible exact spec_FoodsValid.mono _ _)
   | (with_reducible exact spec_l5Find.mono _ _ _)
   | (with_reducible exact LeO.refl _)
   | (with_reducible exact LeO.none _)
   | (with_reducible refine LeO.ite ?_ ?_)
   | (with_reducible refine LeO.bind ?_ (fun _ => ?_))
   | exact ih0 _ _ _ _
   | exact spec_FoodsValid.mono _ _
   | exact spec_l5Find.mono _ _ _
   | exact LeO.none _
   | refine LeO.ite ?_ ?_
   | refine LeO.bind ?_ (fun _ => ?_)
set_option maxHeartbeats 8000000 in
set_option maxRecDepth 100000 in
theorem spec_FoodsWorst.calls (k : Nat) (A0 : Option Addr) (c0 : Nat) (l0 : List (S63)) (A1 : Option Addr) (c1 : Nat) (l1 : List Int) (r : Int) (w : World) (hr0 : Kd.C k63 w A0 l0.length l0) (hc0 : l0.length ≤ c0) (hr1 : Kd.C (Kd.int .i64) w A1 l1.length l1) (hc1 : l1.length ≤ c1) (h : spec_FoodsWorst.f k l0 l1 = some r) :
  Calls Try.prog 85 #[.slice A0 l0.length c0, .slice A1 l1.length c1] w fun e w' => e = .returned (.int .i64 r) ∧ Below w.heap.size w w' := by
 have HR0 := Aside0.mk hr0
 have HC0 := Aside0.mk hc0
 clear hr0 hc0
 have HR1 := Aside0.mk hr1
 have HC1 := Aside0.mk hc1
 clear hr1 hc1
 have HB := Aside0.mk (Below.refl w.heap.size w)
 have H : ((spec_FoodsValid.f k l0).bind fun t930 => (if t930 = true then (spec_FoodsWorst.l0 k l0 l1 0 0) else (some (-1)))) = some r := h
 clear h
 replace H := Option.bind_eq_some_iff.mp H
 obtain ⟨t930, A30, H⟩ := H
 replace H : (if t930 = true then (spec_FoodsWorst.l0 k l0 l1 0 0) else (some (-1))) = some r := H
 have A3 := Aside0.mk A30
 clear A30
 rcases (Classical.em (t930 = true)).symm with c4 | c4
 ·replace c4 := Bool.eq_false_iff.mpr c4
  subst c4
  have H1 : (some (-1)) = some r := by rw [if_neg (show ¬ (false = true) by decide)] at H; exact H
  clear H
  have H := H1
  clear H1
  obtain rfl := Option.some.inj H
  go_enter Try.func85, Try.ntmps85
  go_wp2_with (first | ((with_reducible refine gate_callee (f := 82) rfl ?_); refine goesL_ (some 9) rfl rfl Try.func82 pL rfl #[.slice A0 l0.length c0] rfl pM ?_; (with_reducible refine (spec_FoodsValid.calls k _ _ l0 false _ ?side1 ?side2 A3.out).mono ?_); (case side1 => exact pS (HR0.out)); (case side2 => exact HC0.out); rintro e w13 ⟨rfl, hb⟩; refine ⟨_, rfl, ?_⟩; have n0_ := Aside0.mk (below_step pB hb); clear HB; have HB := n0_; clear n0_; (try clear hb); (try clear hb2); (try clear hk); (try clear hi)))
  go_ret
  exact ⟨pE, pB⟩

 subst c4
 have H1 : (spec_FoodsWorst.l0 k l0 l1 0 0) = some r := by rw [if_pos rfl] at H; exact H
 clear H
 have H := H1
 clear H1
 have H' := Aside0.mk H
 clear H
 go_enter Try.func85, Try.ntmps85
 go_wp2_with (first | ((with_reducible refine gate_callee (f := 82) rfl ?_); refine goesL_ (some 9) rfl rfl Try.func82 pL rfl #[.slice A0 l0.length c0] rfl pM ?_; (with_reducible refine (spec_FoodsValid.calls k _ _ l0 true _ ?side1 ?side2 A3.out).mono ?_); (case side1 => exact pS (HR0.out)); (case side2 => exact HC0.out); rintro e w5 ⟨rfl, hb⟩; refine ⟨_, rfl, ?_⟩; have n0_ := Aside0.mk (below_step pB hb); clear HB; have HB := n0_; clear n0_; (try clear hb); (try clear hb2); (try clear hk); (try clear hi)))
 go_loopg [5, 6] k (fun kq v5 v6 w' => ∃ (x5_1 : Int) (x6_1 : Int), v5 = .int .i64 x5_1 ∧ v6 = .int .i64 x6_1 ∧ Aside0 (spec_FoodsWorst.l0 kq l0 l1 x5_1 x6_1 = some r) ∧ Aside0 (kq ≤ k) ∧ Aside0 (Below w.heap.size w w'))
 case atStart => exact ⟨(0), (0), pF, pF, H', ⟨Nat.le_refl _⟩, ⟨pB⟩⟩
 case round =>
  clear H'
  try clear c1
  try clear p2
  try clear c4
  obtain ⟨x5_1, x6_1, rfl, rfl, HA, HK1, HB⟩ := hrel
  cases gk with
  | zero => exact absurd HA.out (by simp [spec_FoodsWorst.l0])
  | succ k1 =>
   have H := HA.out
   clear HA
   simp only [spec_FoodsWorst.l0] at H
   rcases (Classical.em (x6_1 < (l1.length : Int))).symm with c6 | c6
   ·rw [if_neg c6] at H
    have c6b0 : decide (x6_1 < (l1.length : Int)) = false := decide_eq_false c6
    clear c6
    obtain rfl := Option.some.inj H
    go_wp2
    go_ret
    exact ⟨pE, pB⟩
   rw [if_pos c6] at H
   have c6b0 : decide (x6_1 < (l1.length : Int)) = true := decide_eq_true c6
   clear c6
   rcases (Classical.em (0 ≤ x6_1)).symm with c7 | c7
   ·rw [if_neg c7] at H
    exact absurd H (by simp)
   rw [if_pos c7] at H
   have c7b0 : decide (0 ≤ x6_1) = true := decide_eq_true c7
   clear c7
   replace H := Option.bind_eq_some_iff.mp H
   obtain ⟨t932, A80, H⟩ := H
   replace H : (if t932 < 0 then (some (-1)) else (if 0 ≤ t932 then (if t932 < (l0.length : Int) then (spec_FoodsWorst.l0 k1 l0 l1 (mx x5_1 ((rd_T63 l0 t932).f3)) (wrap64 (x6_1 + 1))) else (none)) else (none))) = some r := H
   have A8 := Aside0.mk A80
   clear A80
   by_cases c9 : t932 < 0
   ·rw [if_pos c9] at H
    have c9b0 : decide (t932 < 0) = true := decide_eq_true c9
    clear c9
    obtain rfl := Option.some.inj H
    have p931 : 0 ≤ (x6_1 : Int) := of_decide_eq_true pA
    have q931 : x6_1 < (l1.length : Int) := of_decide_eq_true pA
    obtain ⟨ad931, e931, hx931_0⟩ := Kd.at_int HR1.out x6_1 p931 q931
    cases e931
    replace hx931_0 := (HB.out.cell (World.block_lt_of_cell? w _ hx931_0)).trans hx931_0
    replace p931 := eq_true p931
    replace q931 := eq_true q931
    go_wp2_with (first | ((with_reducible refine gate_callee (f := 64) rfl ?_); refine goesL_ (some 22) rfl rfl Try.func64 pL rfl #[.slice A0 l0.length c0, .int .i64 (rd l1 x6_1)] rfl pM ?_; (with_reducible refine (spec_l5Find.calls k1 _ _ l0 (rd l1 x6_1) t932 _ ?side1 ?side2 A8.out).mono ?_); (case side1 => exact pS ((Kd.C_below HR0.out HB.out))); (case side2 => exact HC0.out); rintro e w' ⟨rfl, ⟨nd, rfl⟩⟩; refine ⟨_, rfl, ?_⟩))
    go_ret
    exact ⟨pE, pB⟩
   rw [if_neg c9] at H
   have c9b0 : decide (t932 < 0) = false := decide_eq_false c9
   clear c9
   rcases (Classical.em (0 ≤ t932)).symm with c10 | c10
   ·rw [if_neg c10] at H
    exact absurd H (by simp)
   rw [if_pos c10] at H
   have c10b0 : decide (0 ≤ t932) = true := decide_eq_true c10
   clear c10
   rcases (Classical.em (t932 < (l0.length : Int))).symm with c11 | c11
   ·rw [if_neg c11] at H
    exact absurd H (by simp)
   rw [if_pos c11] at H
   have c11b0 : decide (t932 < (l0.length : Int)) = true := decide_eq_true c11
   clear c11
   obtain ⟨ji12, hji12⟩ : ∃ j_ : Int, (mx x5_1 ((rd_T63 l0 t932).f3)) = j_ := ⟨_, rfl⟩
   replace H : (spec_FoodsWorst.l0 k1 l0 l1 ji12 (wrap64 (x6_1 + 1))) = some r := by first | (rw [hji12] at H; exact H) | (simp only [hji12] at H ⊢; exact H)
   (try rw [hji12] at A8)
   have hji12_ : (if x5_1 < ((rd_T63 l0 t932).f3) then ((rd_T63 l0 t932).f3) else x5_1) = ji12 := hji12
   have H' := Aside0.mk H
   clear H
   have p931 : 0 ≤ (x6_1 : Int) := of_decide_eq_true pA
   have q931 : x6_1 < (l1.length : Int) := of_decide_eq_true pA
   obtain ⟨ad931, e931, hx931_0⟩ := Kd.at_int HR1.out x6_1 p931 q931
   cases e931
   replace hx931_0 := (HB.out.cell (World.block_lt_of_cell? w _ hx931_0)).trans hx931_0
   replace p931 := eq_true p931
   replace q931 := eq_true q931
   go_wp2_with (first | ((with_reducible refine gate_callee (f := 64) rfl ?_); refine goesL_ (some 22) rfl rfl Try.func64 pL rfl #[.slice A0 l0.length c0, .int .i64 (rd l1 x6_1)] rfl pM ?_; (with_reducible refine (spec_l5Find.calls k1 _ _ l0 (rd l1 x6_1) t932 _ ?side1 ?side2 A8.out).mono ?_); (case side1 => exact pS ((Kd.C_below HR0.out HB.out))); (case side2 => exact HC0.out); rintro e w' ⟨rfl, ⟨nd, rfl⟩⟩; refine ⟨_, rfl, ?_⟩; have p933 : 0 ≤ (t932 : Int) := of_decide_eq_true pA; have q933 : t932 < (l0.length : Int) := of_decide_eq_true pA; obtain ⟨ad933, e933, hx933_0, hx933_1, hx933_2, hx933_3, hx933_4, hx933_5⟩ := at_T63 HR0.out t932 p933 q933; cases e933; replace hx933_0 := (HB.out.cell (World.block_lt_of_cell? w _ hx933_0)).trans hx933_0; replace hx933_1 := (HB.out.cell (World.block_lt_of_cell? w _ hx933_1)).trans hx933_1; replace hx933_2 := (HB.out.cell (World.block_lt_of_cell? w _ hx933_2)).trans hx933_2; replace hx933_3 := (HB.out.cell (World.block_lt_of_cell? w _ hx933_3)).trans hx933_3; replace hx933_4 := (HB.out.cell (World.block_lt_of_cell? w _ hx933_4)).trans hx933_4; replace hx933_5 := (HB.out.cell (World.block_lt_of_cell? w _ hx933_5)).trans hx933_5; replace p933 := eq_true p933; replace q933 := eq_true q933))
   go_roundg k1
   case measure => have := HK1.out; omega
   case rel => exact ⟨(ji12), (wrap64 (x6_1 + 1)), (by first | rfl | (simp; done) | (simp only [← hji12] <;> (first | rfl | simp)) | (simp [*]; done)), pF, H', ⟨by have := HK1.out; omega⟩, ⟨pB⟩⟩
/-! ### spec_DishKind: function 48 -/
def spec_DishKind.j0 : Nat → List (S29) → List (S63) → Int → Bool → Option (Int)
 | 0, _, _, _, _ => none
 | k + 1, x0, x1, x2, x16 => if x16 = true then (some (-1)) else ((spec_l11Find.f k x0 x2).bind fun t936 => ((spec_l11Foods.f k x0 t936).bind fun t937 => ((spec_FoodsWorst.f k x1 t937).bind fun t940 => (some t940))))
def spec_DishKind.f (k : Nat) (l0 : List (S29)) (l1 : List (S63)) (a2 : Int) : Option (Int) := (spec_DishesValid.f k l0 l1).bind fun t934 => (if t934 = true then ((spec_l11Find.f k l0 a2).bind fun t935 => (spec_DishKind.j0 k l0 l1 a2 (decide (t935 < 0)))) else (spec_DishKind.j0 k l0 l1 a2 true))
theorem spec_DishKind.mono_l : ∀ k, (∀ y0 y1 y2 y3, LeO (spec_DishKind.j0 k y0 y1 y2 y3) (spec_DishKind.j0 (k + 1) y0 y1 y2 y3))
 | 0 => fun _ _ _ _ r h => by simp [spec_DishKind.j0] at h
 | k + 1 => by
  have ih0 := spec_DishKind.mono_l k
  ·intro y0 y1 y2 y3
   unfold spec_DishKind.j0
   repeat' first
   | (with_reducible exact ih0 _ _ _ _)
   | (with_reducible exact spec_DishesValid.mono _ _ _)
   | (with_reducible exact spec_FoodsWorst.mono _ _ _)
   | (with_reducible exact spec_l11Find.mono _ _ _)
   | (with_reducible exact spec_l11Foods.mono _ _ _)
   | (with_reducible exact LeO.refl _)
   | (with_reducible exact LeO.none _)
   | (with_reducible refine LeO.ite ?_ ?_)
   | (with_reducible refine LeO.bind ?_ (fun _ => ?_))
   | exact ih0 _ _ _ _
   | exact spec_DishesValid.mono _ _ _
   | exact spec_FoodsWorst.mono _ _ _
   | exact spec_l11Find.mono _ _ _
   | exact spec_l11Foods.mono _ _ _
   | exact LeO.none _
   | refine LeO.ite ?_ ?_
   | refine LeO.bind ?_ (fun _ => ?_)
theorem spec_DishKind.mono : ∀ a0 a1 a2 k, LeO (spec_DishKind.f k a0 a1 a2) (spec_DishKind.f (k + 1) a0 a1 a2) := by
 intro a0 a1 a2 k
 have ih0 := spec_DishKind.mono_l k
 unfold spec_DishKind.f
 repeat' first
   | (with_reducible exact ih0 _ _ _ _)
   | (with_reducible exact spec_DishesValid.mono _ _ _)
   | (with_reducible exact spec_FoodsWorst.mono _ _ _)
   | (with_reducible exact spec_l11Find.mono _ _ _)
   | (with_reducible exact spec_l11Foods.mono _ _ _)
   | (with_reducible exact LeO.refl _)
   | (with_reducible exact LeO.none _)
   | (with_reducible refine LeO.ite ?_ ?_)
   | (with_reducible refine LeO.bind ?_ (fun _ => ?_))
   | exact ih0 _ _ _ _
   | exact spec_DishesValid.mono _ _ _
   | exact spec_FoodsWorst.mono _ _ _
   | exact spec_l11Find.mono _ _ _
   | exact spec_l11Foods.mono _ _ _
   | exact LeO.none _
   | refine LeO.ite ?_ ?_
   | refine LeO.bind ?_ (fun _ => ?_)
set_option maxHeartbeats 8000000 in
set_option maxRecDepth 100000 in
theorem spec_DishKind.calls (k : Nat) (A0 : Option Addr) (c0 : Nat) (l0 : List (S29)) (A1 : Option Addr) (c1 : Nat) (l1 : List (S63)) (a2 : Int) (r : Int) (w : World) (hr0 : Kd.C k29 w A0 l0.length l0) (hc0 : l0.length ≤ c0) (hr1 : Kd.C k63 w A1 l1.length l1) (hc1 : l1.length ≤ c1) (h : spec_DishKind.f k l0 l1 a2 = some r) :
  Calls Try.prog 48 #[.slice A0 l0.length c0, .slice A1 l1.length c1, .int .i64 a2] w fun e w' => e = .returned (.int .i64 r) ∧ Below w.heap.size w w' := by
 have HR0 := Aside0.mk hr0
 have HC0 := Aside0.mk hc0
 clear hr0 hc0
 have HR1 := Aside0.mk hr1
 have HC1 := Aside0.mk hc1
 clear hr1 hc1
 have HB := Aside0.mk (Below.refl w.heap.size w)
 have H : ((spec_DishesValid.f k l0 l1).bind fun t934 => (if t934 = true then ((spec_l11Find.f k l0 a2).bind fun t935 => (spec_DishKind.j0 k l0 l1 a2 (decide (t935 < 0)))) else (spec_DishKind.j0 k l0 l1 a2 true))) = some r := h
 clear h
 have HC4 := Aside0.mk H
 clear H
 go_enter Try.func48, Try.ntmps48
 go_upto_region 1 with (fail)
 go_cut [16] (fun v16 wc => ∃ (kq : Nat) (x16_3 : Bool), v16 = .bool x16_3 ∧ Aside0 (spec_DishKind.j0 kq l0 l1 a2 x16_3 = some r) ∧ Aside0 (kq ≤ k) ∧ Aside0 (Below w.heap.size w wc))
 case first =>
  have H := HC4.out
  clear HC4
  replace H := Option.bind_eq_some_iff.mp H
  obtain ⟨t934, A50, H⟩ := H
  replace H : (if t934 = true then ((spec_l11Find.f k l0 a2).bind fun t935 => (spec_DishKind.j0 k l0 l1 a2 (decide (t935 < 0)))) else (spec_DishKind.j0 k l0 l1 a2 true)) = some r := H
  have A5 := Aside0.mk A50
  clear A50
  rcases (Classical.em (t934 = true)).symm with c6 | c6
  ·replace c6 := Bool.eq_false_iff.mpr c6
   subst c6
   have H1 : (spec_DishKind.j0 k l0 l1 a2 true) = some r := by rw [if_neg (show ¬ (false = true) by decide)] at H; exact H
   clear H
   have H := H1
   clear H1
   have H' := Aside0.mk H
   clear H
   go_wp2_with (first | ((with_reducible refine gate_callee (f := 41) rfl ?_); refine goesL_ (some 9) rfl rfl Try.func41 pL rfl #[.slice A0 l0.length c0, .slice A1 l1.length c1] rfl pM ?_; (with_reducible refine (spec_DishesValid.calls k _ _ l0 _ _ l1 false _ ?side1 ?side2 ?side3 ?side4 A5.out).mono ?_); (case side1 => exact pS ((Kd.C_below HR0.out HB.out))); (case side2 => exact HC0.out); (case side3 => exact pS ((Kd.C_below HR1.out HB.out))); (case side4 => exact HC1.out); rintro e w9 ⟨rfl, hb⟩; refine ⟨_, rfl, ?_⟩; have n0_ := Aside0.mk (below_step pB hb); clear HB; have HB := n0_; clear n0_; (try clear hb); (try clear hb2); (try clear hk); (try clear hi)))
   go_meet
   case rel => exact ⟨_, (true), pF, H', ⟨by first | omega | exact Nat.le_refl _⟩, ⟨pB⟩⟩
  subst c6
  have H1 : ((spec_l11Find.f k l0 a2).bind fun t935 => (spec_DishKind.j0 k l0 l1 a2 (decide (t935 < 0)))) = some r := by rw [if_pos rfl] at H; exact H
  clear H
  have H := H1
  clear H1
  replace H := Option.bind_eq_some_iff.mp H
  obtain ⟨t935, A70, H⟩ := H
  replace H : (spec_DishKind.j0 k l0 l1 a2 (decide (t935 < 0))) = some r := H
  have A7 := Aside0.mk A70
  clear A70
  have H' := Aside0.mk H
  clear H
  go_wp2_with (first | ((with_reducible refine gate_callee (f := 41) rfl ?_); refine goesL_ (some 9) rfl rfl Try.func41 pL rfl #[.slice A0 l0.length c0, .slice A1 l1.length c1] rfl pM ?_; (with_reducible refine (spec_DishesValid.calls k _ _ l0 _ _ l1 true _ ?side1 ?side2 ?side3 ?side4 A5.out).mono ?_); (case side1 => exact pS ((Kd.C_below HR0.out HB.out))); (case side2 => exact HC0.out); (case side3 => exact pS ((Kd.C_below HR1.out HB.out))); (case side4 => exact HC1.out); rintro e w8 ⟨rfl, hb⟩; refine ⟨_, rfl, ?_⟩; have n0_ := Aside0.mk (below_step pB hb); clear HB; have HB := n0_; clear n0_; (try clear hb); (try clear hb2); (try clear hk); (try clear hi)) | (go_at_call 58; (with_reducible refine (spec_l11Find.calls k _ _ l0 a2 t935 _ ?side1 ?side2 A7.out).mono ?_); (case side1 => exact pS ((Kd.C_below HR0.out HB.out))); (case side2 => exact HC0.out); rintro e w' ⟨rfl, ⟨nd, rfl⟩⟩))
  go_meet
  case rel => exact ⟨_, (decide (t935 < 0)), pF, H', ⟨by first | omega | exact Nat.le_refl _⟩, ⟨pB⟩⟩
 case rest =>
  clear HC4
  try clear c1
  try clear p2
  try clear c4
  try clear c6
  obtain ⟨kq, x16_3, rfl, HA, HJ3, HB⟩ := hcut
  cases kq with
  | zero => exact absurd HA.out (by simp [spec_DishKind.j0])
  | succ kj3 =>
   have H := HA.out
   clear HA
   simp only [spec_DishKind.j0] at H
   by_cases c10 : x16_3 = true
   ·subst c10
    have H1 : (some (-1)) = some r := by rw [if_pos rfl] at H; exact H
    clear H
    have H := H1
    clear H1
    obtain rfl := Option.some.inj H
    go_wp2
    go_ret
    exact ⟨pE, pB⟩
   replace c10 := Bool.eq_false_iff.mpr c10
   subst c10
   have H1 : ((spec_l11Find.f kj3 l0 a2).bind fun t936 => ((spec_l11Foods.f kj3 l0 t936).bind fun t937 => ((spec_FoodsWorst.f kj3 l1 t937).bind fun t940 => (some t940)))) = some r := by rw [if_neg (show ¬ (false = true) by decide)] at H; exact H
   clear H
   have H := H1
   clear H1
   replace H := Option.bind_eq_some_iff.mp H
   obtain ⟨t936, A110, H⟩ := H
   replace H : ((spec_l11Foods.f kj3 l0 t936).bind fun t937 => ((spec_FoodsWorst.f kj3 l1 t937).bind fun t940 => (some t940))) = some r := H
   have A11 := Aside0.mk A110
   clear A110
   replace H := Option.bind_eq_some_iff.mp H
   obtain ⟨t937, A120, H⟩ := H
   replace H : ((spec_FoodsWorst.f kj3 l1 t937).bind fun t940 => (some t940)) = some r := H
   have A12 := Aside0.mk A120
   clear A120
   replace H := Option.bind_eq_some_iff.mp H
   obtain ⟨t940, A130, H⟩ := H
   replace H : (some t940) = some r := H
   have A13 := Aside0.mk A130
   clear A130
   obtain rfl := Option.some.inj H
   go_wp2_with (first | ((with_reducible refine gate_callee (f := 58) rfl ?_); refine goesL_ (some 21) rfl rfl Try.func58 pL rfl #[.slice A0 l0.length c0, .int .i64 a2] rfl pM ?_; (with_reducible refine (spec_l11Find.calls kj3 _ _ l0 a2 t936 _ ?side1 ?side2 A11.out).mono ?_); (case side1 => exact pS ((Kd.C_below HR0.out HB.out))); (case side2 => exact HC0.out); rintro e w' ⟨rfl, ⟨nd, rfl⟩⟩; refine ⟨_, rfl, ?_⟩) | ((with_reducible refine gate_callee (f := 62) rfl ?_); refine goesL_ (some 22) rfl rfl Try.func62 pL rfl #[.slice A0 l0.length c0, .int .i64 t936] rfl pM ?_; (with_reducible refine (spec_l11Foods.calls kj3 _ _ l0 t936 t937 _ ?side1 ?side2 A12.out).mono ?_); (case side1 => exact pS ((Kd.C_below HR0.out pB))); (case side2 => exact HC0.out); rintro e w14 ⟨v938, rfl, ho0, hb⟩; refine ⟨_, rfl, ?_⟩; have n0_ := Aside0.mk (Kd.R_lower ho0 (below_size pB)); have n1_ := Aside0.mk (below_step pB hb); clear HB; have HO939 := n0_; have HB := n1_; clear n0_ n1_; (try clear hb); (try clear hb2); (try clear hk); (try clear hi); (try clear ho0); obtain ⟨Ao15, co15, eo15⟩ := Kd.R_slice HO939.out; subst eo15) | ((with_reducible refine gate_callee (f := 85) rfl ?_); refine goesL_ (some 23) rfl rfl Try.func85 pL rfl #[.slice A1 l1.length c1, .slice Ao15 t937.length co15] rfl pM ?_; (with_reducible refine (spec_FoodsWorst.calls kj3 _ _ l1 _ _ t937 t940 _ ?side1 ?side2 ?side3 ?side4 A13.out).mono ?_); (case side1 => exact pS ((Kd.C_below HR1.out HB.out))); (case side2 => exact HC1.out); (case side3 => exact pS ((Kd.R_reads' HO939.out).2.2)); (case side4 => exact (Kd.R_reads' HO939.out).2.1); rintro e w16 ⟨rfl, hb⟩; refine ⟨_, rfl, ?_⟩; have n0_ := Aside0.mk (Kd.R_below (pR HO939) hb); have n1_ := Aside0.mk (below_step pB hb); clear HO939; clear HB; have HO939 := n0_; have HB := n1_; clear n0_ n1_; (try clear hb); (try clear hb2); (try clear hk); (try clear hi)))
   go_ret
   exact ⟨pE, pB⟩

end Go.Proofs.Ytclldijjbmnkeaa.Q
