-- Written by the kit's print.py for all laws of the seat at once (one namespace), by a program of this session.
import Derived.Test.YtclldijjbmnkeaaQx0
import Derived.Test.YtclldijjbmnkeaaQx5
namespace Go.Proofs.Ytclldijjbmnkeaa.Q
open Go.RowKit Go.Proofs.YtclldijjbmnkeaaW.PrintWords Go.Proofs.YtclldijjbmnkeaaW.PrintLast Go.Proofs.YtclldijjbmnkeaaW.PrintMore
attribute [local go_sem] max2_int min2_int max_two min_two max_three min_three max_four min_four   -- for this text's walks alone
set_option linter.unusedVariables false
set_option linter.unusedSimpArgs false

/-! ### spec_l6In: function 72 -/
def spec_l6In.f (a0 : Int) (a1 : Int) (a2 : Int) : Option (Bool) := if a0 ≥ a1 then (some (decide (a0 ≤ a2))) else (some false)
set_option maxHeartbeats 8000000 in
set_option maxRecDepth 100000 in
theorem spec_l6In.calls (a0 : Int) (a1 : Int) (a2 : Int) (r : Bool) (w : World) (h : spec_l6In.f a0 a1 a2 = some r) :
  Calls Try.prog 72 #[.int .i64 a0, .int .i64 a1, .int .i64 a2] w fun e w' => e = .returned (.bool r) ∧ Drawn0 w w' := by
 have H : (if a0 ≥ a1 then (some (decide (a0 ≤ a2))) else (some false)) = some r := h
 clear h
 by_cases c4 : a0 ≥ a1
 ·rw [if_pos c4] at H
  have c4b0 : decide (a1 ≤ a0) = true := decide_eq_true c4
  clear c4
  obtain rfl := Option.some.inj H
  go_enter Try.func72, Try.ntmps72
  go_wp2
  go_ret
  exact ⟨pF, by repeat (first | exact Drawn0.refl _ | apply Drawn0.step)⟩
 rw [if_neg c4] at H
 have c4b0 : decide (a1 ≤ a0) = false := decide_eq_false c4
 clear c4
 obtain rfl := Option.some.inj H
 go_enter Try.func72, Try.ntmps72
 go_wp2
 go_ret
 exact ⟨pF, by repeat (first | exact Drawn0.refl _ | apply Drawn0.step)⟩

/-! ### spec_l3Set: function 97 -/
def spec_l3Set.f (a0 : Int) : Option (Bool) := (spec_l6In.f a0 0 255).bind fun t297 => (some t297)
set_option maxHeartbeats 8000000 in
set_option maxRecDepth 100000 in
theorem spec_l3Set.calls (a0 : Int) (r : Bool) (w : World) (h : spec_l3Set.f a0 = some r) :
  Calls Try.prog 97 #[.int .i64 a0] w fun e w' => e = .returned (.bool r) ∧ Drawn0 w w' := by
 have H : ((spec_l6In.f a0 0 255).bind fun t297 => (some t297)) = some r := h
 clear h
 replace H := Option.bind_eq_some_iff.mp H
 obtain ⟨t297, A20, H⟩ := H
 replace H : (some t297) = some r := H
 have A2 := Aside0.mk A20
 clear A20
 obtain rfl := Option.some.inj H
 go_enter Try.func97, Try.ntmps97
 go_wp2_with (first | ((with_reducible refine gate_callee (f := 72) rfl ?_); refine goesL_ (some 4) rfl rfl Try.func72 pL rfl #[.int .i64 a0, .int .i64 0, .int .i64 255] rfl pM ?_; (with_reducible refine (spec_l6In.calls a0 0 255 t297 _ A2.out).mono ?_); rintro e w' ⟨rfl, ⟨nd, rfl⟩⟩; refine ⟨_, rfl, ?_⟩))
 go_ret
 exact ⟨pF, by repeat (first | exact Drawn0.refl _ | apply Drawn0.step)⟩

/-! ### spec_FoodsValid: function 82 -/
mutual
def spec_FoodsValid.l0 : Nat → List (S63) → Int → Option (Bool)
 | 0, _, _ => none
 | k + 1, x0, x3 => if x3 < (x0.length : Int) then (if 0 ≤ x3 then ((spec_l6In.f ((rd_T63 x0 x3).f0) 1 20).bind fun t300 => (if t300 = true then ((spec_l6In.f ((rd_T63 x0 x3).f1) 1 3).bind fun t301 => (if t301 = true then ((spec_l3Set.f ((rd_T63 x0 x3).f2)).bind fun t302 => (if t302 = true then ((spec_l6In.f ((rd_T63 x0 x3).f3) 1 5).bind fun t303 => (if t303 = true then ((spec_l6In.f ((rd_T63 x0 x3).f4) 0 999).bind fun t304 => (if t304 = true then ((spec_l6In.f ((rd_T63 x0 x3).f5) 0 999).bind fun t305 => (spec_FoodsValid.j1 k x0 x3 (!t305) ((rd_T63 x0 x3).f0) ((rd_T63 x0 x3).f1) ((rd_T63 x0 x3).f2) ((rd_T63 x0 x3).f3) ((rd_T63 x0 x3).f4) ((rd_T63 x0 x3).f5))) else (spec_FoodsValid.j1 k x0 x3 true ((rd_T63 x0 x3).f0) ((rd_T63 x0 x3).f1) ((rd_T63 x0 x3).f2) ((rd_T63 x0 x3).f3) ((rd_T63 x0 x3).f4) ((rd_T63 x0 x3).f5)))) else (spec_FoodsValid.j1 k x0 x3 true ((rd_T63 x0 x3).f0) ((rd_T63 x0 x3).f1) ((rd_T63 x0 x3).f2) ((rd_T63 x0 x3).f3) ((rd_T63 x0 x3).f4) ((rd_T63 x0 x3).f5)))) else (spec_FoodsValid.j1 k x0 x3 true ((rd_T63 x0 x3).f0) ((rd_T63 x0 x3).f1) ((rd_T63 x0 x3).f2) ((rd_T63 x0 x3).f3) ((rd_T63 x0 x3).f4) ((rd_T63 x0 x3).f5)))) else (spec_FoodsValid.j1 k x0 x3 true ((rd_T63 x0 x3).f0) ((rd_T63 x0 x3).f1) ((rd_T63 x0 x3).f2) ((rd_T63 x0 x3).f3) ((rd_T63 x0 x3).f4) ((rd_T63 x0 x3).f5)))) else (spec_FoodsValid.j1 k x0 x3 true ((rd_T63 x0 x3).f0) ((rd_T63 x0 x3).f1) ((rd_T63 x0 x3).f2) ((rd_T63 x0 x3).f3) ((rd_T63 x0 x3).f4) ((rd_T63 x0 x3).f5)))) else (none)) else (some (decide ((x0.length : Int) ≤ 6)))
def spec_FoodsValid.j1 : Nat → List (S63) → Int → Bool → Int → Int → Int → Int → Int → Int → Option (Bool)
 | 0, _, _, _, _, _, _, _, _, _ => none
 | k + 1, x0, x3, x48, x300000, x300001, x300002, x300003, x300004, x300005 => if x48 = true then (some false) else (if x3 > 0 then (if 0 ≤ (wrap64 (x3 - 1)) then (if (wrap64 (x3 - 1)) < (x0.length : Int) then (if ((rd_T63 x0 (wrap64 (x3 - 1))).f0) ≥ x300000 then (some false) else (spec_FoodsValid.l0 k x0 (wrap64 (x3 + 1)))) else (none)) else (none)) else (spec_FoodsValid.l0 k x0 (wrap64 (x3 + 1))))
end
def spec_FoodsValid.f (k : Nat) (l0 : List (S63)) : Option (Bool) := spec_FoodsValid.l0 k l0 0
theorem spec_FoodsValid.mono_l : ∀ k, (∀ y0 y1, LeO (spec_FoodsValid.l0 k y0 y1) (spec_FoodsValid.l0 (k + 1) y0 y1)) ∧ (∀ y0 y1 y2 y3 y4 y5 y6 y7 y8, LeO (spec_FoodsValid.j1 k y0 y1 y2 y3 y4 y5 y6 y7 y8) (spec_FoodsValid.j1 (k + 1) y0 y1 y2 y3 y4 y5 y6 y7 y8))
 | 0 => ⟨fun _ _ r h => by simp [spec_FoodsValid.l0] at h, fun _ _ _ _ _ _ _ _ _ r h => by simp [spec_FoodsValid.j1] at h⟩
 | k + 1 => by
  obtain ⟨ih0, ih1⟩ := spec_FoodsValid.mono_l k
  refine ⟨?_, ?_⟩
  ·intro y0 y1
   unfold spec_FoodsValid.l0
   repeat' first
   | (with_reducible exact ih0 _ _)
   | (with_reducible exact ih1 _ _ _ _ _ _ _ _ _)
   | (with_reducible exact LeO.refl _)
   | (with_reducible exact LeO.none _)
   | (with_reducible refine LeO.ite ?_ ?_)
   | (with_reducible refine LeO.bind ?_ (fun _ => ?_))
   | exact ih0 _ _
   | exact ih1 _ _ _ _ _ _ _ _ _
   | exact LeO.none _
   | refine LeO.ite ?_ ?_
   | refine LeO.bind ?_ (fun _ => ?_)
  ·intro y0 y1 y2 y3 y4 y5 y6 y7 y8
   unfold spec_FoodsValid.j1
   repeat' first
   | (with_reducible exact ih0 _ _)
   | (with_reducible exact ih1 _ _ _ _ _ _ _ _ _)
   | (with_reducible exact LeO.refl _)
   | (with_reducible exact LeO.none _)
   | (with_reducible refine LeO.ite ?_ ?_)
   | (with_reducible refine LeO.bind ?_ (fun _ => ?_))
   | exact ih0 _ _
   | exact ih1 _ _ _ _ _ _ _ _ _
   | exact LeO.none _
   | refine LeO.ite ?_ ?_
   | refine LeO.bind ?_ (fun _ => ?_)
theorem spec_FoodsValid.mono : ∀ a0 k, LeO (spec_FoodsValid.f k a0) (spec_FoodsValid.f (k + 1) a0) := by
 intro a0 k
 obtain ⟨ih0, ih1⟩ := spec_FoodsValid.mono_l k
 unfold spec_FoodsValid.f
 repeat' first
   | (with_reducible exact ih0 _ _)
   | (with_reducible exact ih1 _ _ _ _ _ _ _ _ _)
   | (with_reducible exact LeO.refl _)
   | (with_reducible exact LeO.none _)
   | (with_reducible refine LeO.ite ?_ ?_)
   | (with_reducible refine LeO.bind ?_ (fun _ => ?_))
   | exact ih0 _ _
   | exact ih1 _ _ _ _ _ _ _ _ _
   | exact LeO.none _
   | refine LeO.ite ?_ ?_
   | refine LeO.bind ?_ (fun _ => ?_)
set_option maxHeartbeats 8000000 in
set_option maxRecDepth 100000 in
theorem spec_FoodsValid.calls (k : Nat) (A0 : Option Addr) (c0 : Nat) (l0 : List (S63)) (r : Bool) (w : World) (hr0 : Kd.C k63 w A0 l0.length l0) (hc0 : l0.length ≤ c0) (h : spec_FoodsValid.f k l0 = some r) :
  Calls Try.prog 82 #[.slice A0 l0.length c0] w fun e w' => e = .returned (.bool r) ∧ Below w.heap.size w w' := by
 have hu63 := Try.underlying63
 have HR0 := Aside0.mk hr0
 have HC0 := Aside0.mk hc0
 clear hr0 hc0
 have HB := Aside0.mk (Below.refl w.heap.size w)
 have H : (spec_FoodsValid.l0 k l0 0) = some r := h
 clear h
 have H' := Aside0.mk H
 clear H
 go_enter Try.func82, Try.ntmps82
 go_wp2
 repeat (go_quiet (fail); try go_wp2)
 go_loopg [3] k (fun kq v3 w' => ∃ (x3_1 : Int), v3 = .int .i64 x3_1 ∧ Aside0 (spec_FoodsValid.l0 kq l0 x3_1 = some r) ∧ Aside0 (kq ≤ k) ∧ Aside0 (Below w.heap.size w w'))
 case atStart => exact ⟨(0), pF, H', ⟨Nat.le_refl _⟩, ⟨pB⟩⟩
 case round =>
  clear H'
  obtain ⟨x3_1, rfl, HA, HK1, HB⟩ := hrel
  cases gk with
  | zero => exact absurd HA.out (by simp [spec_FoodsValid.l0])
  | succ k1 =>
   have H := HA.out
   clear HA
   simp only [spec_FoodsValid.l0] at H
   rcases (Classical.em (x3_1 < (l0.length : Int))).symm with c2 | c2
   ·rw [if_neg c2] at H
    have c2b0 : decide (x3_1 < (l0.length : Int)) = false := decide_eq_false c2
    clear c2
    obtain rfl := Option.some.inj H
    go_wp2
    repeat (go_quiet (fail); try go_wp2)
    go_ret
    exact ⟨pE, pB⟩

   rw [if_pos c2] at H
   have c2b0 : decide (x3_1 < (l0.length : Int)) = true := decide_eq_true c2
   clear c2
   rcases (Classical.em (0 ≤ x3_1)).symm with c3 | c3
   ·rw [if_neg c3] at H
    exact absurd H (by simp)
   rw [if_pos c3] at H
   have c3b0 : decide (0 ≤ x3_1) = true := decide_eq_true c3
   clear c3
   have HC4 := Aside0.mk H
   clear H
   have p298 : 0 ≤ (x3_1 : Int) := of_decide_eq_true pA
   have q298 : x3_1 < (l0.length : Int) := of_decide_eq_true pA
   obtain ⟨ad298, e298, hx298_0, hx298_1, hx298_2, hx298_3, hx298_4, hx298_5⟩ := at_T63 HR0.out x3_1 p298 q298
   cases e298
   replace hx298_0 := (HB.out.cell (World.block_lt_of_cell? w _ hx298_0)).trans hx298_0
   replace hx298_1 := (HB.out.cell (World.block_lt_of_cell? w _ hx298_1)).trans hx298_1
   replace hx298_2 := (HB.out.cell (World.block_lt_of_cell? w _ hx298_2)).trans hx298_2
   replace hx298_3 := (HB.out.cell (World.block_lt_of_cell? w _ hx298_3)).trans hx298_3
   replace hx298_4 := (HB.out.cell (World.block_lt_of_cell? w _ hx298_4)).trans hx298_4
   replace hx298_5 := (HB.out.cell (World.block_lt_of_cell? w _ hx298_5)).trans hx298_5
   replace p298 := eq_true p298
   replace q298 := eq_true q298
   go_upto_region 5 with (first | ((with_reducible refine gate_dst (N := 4) rfl ?_); refine box_event ?hg (N := 4) ?hd (cs := #[.int .i64 0, .int .i64 0, .int .i64 0, .int .i64 0, .int .i64 0, .int .i64 0]) (t := 63) ?hr ?_; (case hd => rfl); (case hg => rfl); (case hr => first | (go_simp; done) | (go_simp; rfl)); intro gb299 hg w5 hbox hb; have n0_ := Aside0.mk (below_step pB hb); have n1_ := Aside0.mk (hbox); have n2_ := Aside0.mk ((by rw [hg]; exact (below_size pB) : w.heap.size ≤ gb299)); have n3_ := Aside0.mk ((by rw [hg]; exact (below_size pB) : w.heap.size ≤ gb299)); clear HB; have HB := n0_; have BK299 := n1_; have GW299 := n2_; have GE299 := n3_; clear n0_ n1_ n2_ n3_; clear hb hbox hg; have hcz6_0 : w5.cell? ⟨gb299, 0, none⟩ = some (.int .i64 0) := (blk_cell BK299.out 0).trans rfl; have hcz6_1 : w5.cell? ⟨gb299, 1, none⟩ = some (.int .i64 0) := (blk_cell BK299.out 1).trans rfl; have hcz6_2 : w5.cell? ⟨gb299, 2, none⟩ = some (.int .i64 0) := (blk_cell BK299.out 2).trans rfl; have hcz6_3 : w5.cell? ⟨gb299, 3, none⟩ = some (.int .i64 0) := (blk_cell BK299.out 3).trans rfl; have hcz6_4 : w5.cell? ⟨gb299, 4, none⟩ = some (.int .i64 0) := (blk_cell BK299.out 4).trans rfl; have hcz6_5 : w5.cell? ⟨gb299, 5, none⟩ = some (.int .i64 0) := (blk_cell BK299.out 5).trans rfl; have hfz6_0 := blk_frozen BK299.out 0; have hfz6_1 := blk_frozen BK299.out 1; have hfz6_2 := blk_frozen BK299.out 2; have hfz6_3 := blk_frozen BK299.out 3; have hfz6_4 := blk_frozen BK299.out 4; have hfz6_5 := blk_frozen BK299.out 5))
   repeat (go_quiet (first | ((with_reducible refine gate_dst (N := 4) rfl ?_); refine box_event ?hg (N := 4) ?hd (cs := #[.int .i64 0, .int .i64 0, .int .i64 0, .int .i64 0, .int .i64 0, .int .i64 0]) (t := 63) ?hr ?_; (case hd => rfl); (case hg => rfl); (case hr => first | (go_simp; done) | (go_simp; rfl)); intro gb299 hg w5 hbox hb; have n0_ := Aside0.mk (below_step pB hb); have n1_ := Aside0.mk (hbox); have n2_ := Aside0.mk ((by rw [hg]; exact (below_size pB) : w.heap.size ≤ gb299)); have n3_ := Aside0.mk ((by rw [hg]; exact (below_size pB) : w.heap.size ≤ gb299)); clear HB; have HB := n0_; have BK299 := n1_; have GW299 := n2_; have GE299 := n3_; clear n0_ n1_ n2_ n3_; clear hb hbox hg; have hcz6_0 : w5.cell? ⟨gb299, 0, none⟩ = some (.int .i64 0) := (blk_cell BK299.out 0).trans rfl; have hcz6_1 : w5.cell? ⟨gb299, 1, none⟩ = some (.int .i64 0) := (blk_cell BK299.out 1).trans rfl; have hcz6_2 : w5.cell? ⟨gb299, 2, none⟩ = some (.int .i64 0) := (blk_cell BK299.out 2).trans rfl; have hcz6_3 : w5.cell? ⟨gb299, 3, none⟩ = some (.int .i64 0) := (blk_cell BK299.out 3).trans rfl; have hcz6_4 : w5.cell? ⟨gb299, 4, none⟩ = some (.int .i64 0) := (blk_cell BK299.out 4).trans rfl; have hcz6_5 : w5.cell? ⟨gb299, 5, none⟩ = some (.int .i64 0) := (blk_cell BK299.out 5).trans rfl; have hfz6_0 := blk_frozen BK299.out 0; have hfz6_1 := blk_frozen BK299.out 1; have hfz6_2 := blk_frozen BK299.out 2; have hfz6_3 := blk_frozen BK299.out 3; have hfz6_4 := blk_frozen BK299.out 4; have hfz6_5 := blk_frozen BK299.out 5)); go_upto_region 5 with (first | ((with_reducible refine gate_dst (N := 4) rfl ?_); refine box_event ?hg (N := 4) ?hd (cs := #[.int .i64 0, .int .i64 0, .int .i64 0, .int .i64 0, .int .i64 0, .int .i64 0]) (t := 63) ?hr ?_; (case hd => rfl); (case hg => rfl); (case hr => first | (go_simp; done) | (go_simp; rfl)); intro gb299 hg w5 hbox hb; have n0_ := Aside0.mk (below_step pB hb); have n1_ := Aside0.mk (hbox); have n2_ := Aside0.mk ((by rw [hg]; exact (below_size pB) : w.heap.size ≤ gb299)); have n3_ := Aside0.mk ((by rw [hg]; exact (below_size pB) : w.heap.size ≤ gb299)); clear HB; have HB := n0_; have BK299 := n1_; have GW299 := n2_; have GE299 := n3_; clear n0_ n1_ n2_ n3_; clear hb hbox hg; have hcz6_0 : w5.cell? ⟨gb299, 0, none⟩ = some (.int .i64 0) := (blk_cell BK299.out 0).trans rfl; have hcz6_1 : w5.cell? ⟨gb299, 1, none⟩ = some (.int .i64 0) := (blk_cell BK299.out 1).trans rfl; have hcz6_2 : w5.cell? ⟨gb299, 2, none⟩ = some (.int .i64 0) := (blk_cell BK299.out 2).trans rfl; have hcz6_3 : w5.cell? ⟨gb299, 3, none⟩ = some (.int .i64 0) := (blk_cell BK299.out 3).trans rfl; have hcz6_4 : w5.cell? ⟨gb299, 4, none⟩ = some (.int .i64 0) := (blk_cell BK299.out 4).trans rfl; have hcz6_5 : w5.cell? ⟨gb299, 5, none⟩ = some (.int .i64 0) := (blk_cell BK299.out 5).trans rfl; have hfz6_0 := blk_frozen BK299.out 0; have hfz6_1 := blk_frozen BK299.out 1; have hfz6_2 := blk_frozen BK299.out 2; have hfz6_3 := blk_frozen BK299.out 3; have hfz6_4 := blk_frozen BK299.out 4; have hfz6_5 := blk_frozen BK299.out 5)))
   (try simp only [Act.put, List.setIfInBounds_toArray, List.set_cons_zero, List.set_cons_succ])
   go_cut [48] (fun v48 wc => ∃ (kq : Nat) (x48_3 : Bool), v48 = .bool x48_3 ∧ Aside0 (spec_FoodsValid.j1 kq l0 x3_1 x48_3 ((rd_T63 l0 x3_1).f0) ((rd_T63 l0 x3_1).f1) ((rd_T63 l0 x3_1).f2) ((rd_T63 l0 x3_1).f3) ((rd_T63 l0 x3_1).f4) ((rd_T63 l0 x3_1).f5) = some r) ∧ Aside0 (kq ≤ k1) ∧ Aside0 (wc.heap[gb299]? = some (.cells #[.int .i64 ((rd_T63 l0 x3_1).f0), .int .i64 ((rd_T63 l0 x3_1).f1), .int .i64 ((rd_T63 l0 x3_1).f2), .int .i64 ((rd_T63 l0 x3_1).f3), .int .i64 ((rd_T63 l0 x3_1).f4), .int .i64 ((rd_T63 l0 x3_1).f5)] 63 (0, 0))) ∧ Aside0 (Below w.heap.size w wc))
   case first =>
    have H := HC4.out
    clear HC4
    replace H := Option.bind_eq_some_iff.mp H
    obtain ⟨t300, A70, H⟩ := H
    replace H : (if t300 = true then ((spec_l6In.f ((rd_T63 l0 x3_1).f1) 1 3).bind fun t301 => (if t301 = true then ((spec_l3Set.f ((rd_T63 l0 x3_1).f2)).bind fun t302 => (if t302 = true then ((spec_l6In.f ((rd_T63 l0 x3_1).f3) 1 5).bind fun t303 => (if t303 = true then ((spec_l6In.f ((rd_T63 l0 x3_1).f4) 0 999).bind fun t304 => (if t304 = true then ((spec_l6In.f ((rd_T63 l0 x3_1).f5) 0 999).bind fun t305 => (spec_FoodsValid.j1 k1 l0 x3_1 (!t305) ((rd_T63 l0 x3_1).f0) ((rd_T63 l0 x3_1).f1) ((rd_T63 l0 x3_1).f2) ((rd_T63 l0 x3_1).f3) ((rd_T63 l0 x3_1).f4) ((rd_T63 l0 x3_1).f5))) else (spec_FoodsValid.j1 k1 l0 x3_1 true ((rd_T63 l0 x3_1).f0) ((rd_T63 l0 x3_1).f1) ((rd_T63 l0 x3_1).f2) ((rd_T63 l0 x3_1).f3) ((rd_T63 l0 x3_1).f4) ((rd_T63 l0 x3_1).f5)))) else (spec_FoodsValid.j1 k1 l0 x3_1 true ((rd_T63 l0 x3_1).f0) ((rd_T63 l0 x3_1).f1) ((rd_T63 l0 x3_1).f2) ((rd_T63 l0 x3_1).f3) ((rd_T63 l0 x3_1).f4) ((rd_T63 l0 x3_1).f5)))) else (spec_FoodsValid.j1 k1 l0 x3_1 true ((rd_T63 l0 x3_1).f0) ((rd_T63 l0 x3_1).f1) ((rd_T63 l0 x3_1).f2) ((rd_T63 l0 x3_1).f3) ((rd_T63 l0 x3_1).f4) ((rd_T63 l0 x3_1).f5)))) else (spec_FoodsValid.j1 k1 l0 x3_1 true ((rd_T63 l0 x3_1).f0) ((rd_T63 l0 x3_1).f1) ((rd_T63 l0 x3_1).f2) ((rd_T63 l0 x3_1).f3) ((rd_T63 l0 x3_1).f4) ((rd_T63 l0 x3_1).f5)))) else (spec_FoodsValid.j1 k1 l0 x3_1 true ((rd_T63 l0 x3_1).f0) ((rd_T63 l0 x3_1).f1) ((rd_T63 l0 x3_1).f2) ((rd_T63 l0 x3_1).f3) ((rd_T63 l0 x3_1).f4) ((rd_T63 l0 x3_1).f5))) = some r := H
    have A7 := Aside0.mk A70
    clear A70
    rcases (Classical.em (t300 = true)).symm with c8 | c8
    ·replace c8 := Bool.eq_false_iff.mpr c8
     subst c8
     have H1 : (spec_FoodsValid.j1 k1 l0 x3_1 true ((rd_T63 l0 x3_1).f0) ((rd_T63 l0 x3_1).f1) ((rd_T63 l0 x3_1).f2) ((rd_T63 l0 x3_1).f3) ((rd_T63 l0 x3_1).f4) ((rd_T63 l0 x3_1).f5)) = some r := by rw [if_neg (show ¬ (false = true) by decide)] at H; exact H
     clear H
     have H := H1
     clear H1
     have H' := Aside0.mk H
     clear H
     have hcz23_0 : w5.cell? ⟨gb299, 0, none⟩ = some (.int .i64 0) := (blk_cell BK299.out 0).trans rfl
     have hcz23_1 : w5.cell? ⟨gb299, 1, none⟩ = some (.int .i64 0) := (blk_cell BK299.out 1).trans rfl
     have hcz23_2 : w5.cell? ⟨gb299, 2, none⟩ = some (.int .i64 0) := (blk_cell BK299.out 2).trans rfl
     have hcz23_3 : w5.cell? ⟨gb299, 3, none⟩ = some (.int .i64 0) := (blk_cell BK299.out 3).trans rfl
     have hcz23_4 : w5.cell? ⟨gb299, 4, none⟩ = some (.int .i64 0) := (blk_cell BK299.out 4).trans rfl
     have hcz23_5 : w5.cell? ⟨gb299, 5, none⟩ = some (.int .i64 0) := (blk_cell BK299.out 5).trans rfl
     have hfz23_0 := blk_frozen BK299.out 0
     have hfz23_1 := blk_frozen BK299.out 1
     have hfz23_2 := blk_frozen BK299.out 2
     have hfz23_3 := blk_frozen BK299.out 3
     have hfz23_4 := blk_frozen BK299.out 4
     have hfz23_5 := blk_frozen BK299.out 5
     go_wp2_with (first | (go_at_call 72; (with_reducible refine (spec_l6In.calls ((rd_T63 l0 x3_1).f0) 1 20 false _ A7.out).mono ?_); rintro e w' ⟨rfl, ⟨nd, rfl⟩⟩; (try exact pD)))
     repeat (go_quiet (first | (go_at_call 72; (with_reducible refine (spec_l6In.calls ((rd_T63 l0 x3_1).f0) 1 20 false _ A7.out).mono ?_); rintro e w' ⟨rfl, ⟨nd, rfl⟩⟩; (try exact pD))); try go_wp2_with (first | (go_at_call 72; (with_reducible refine (spec_l6In.calls ((rd_T63 l0 x3_1).f0) 1 20 false _ A7.out).mono ?_); rintro e w' ⟨rfl, ⟨nd, rfl⟩⟩; (try exact pD))))
     go_meet
     case rel => exact ⟨_, (true), pF, H', ⟨by have := HK1.out; first | omega | exact Nat.le_refl _⟩, ⟨by (with_reducible repeat (first | refine blk_drewN ?_ _ | refine blk_drew ?_ | refine blk_alloc ?_ _)); refine blk_put (cs := #[.int .i64 ((rd_T63 l0 x3_1).f0), .int .i64 ((rd_T63 l0 x3_1).f1), .int .i64 ((rd_T63 l0 x3_1).f2), .int .i64 ((rd_T63 l0 x3_1).f3), .int .i64 ((rd_T63 l0 x3_1).f4), .int .i64 0]) ?_ 5 _ rfl; (with_reducible repeat (first | refine blk_drewN ?_ _ | refine blk_drew ?_ | refine blk_alloc ?_ _)); refine blk_put (cs := #[.int .i64 ((rd_T63 l0 x3_1).f0), .int .i64 ((rd_T63 l0 x3_1).f1), .int .i64 ((rd_T63 l0 x3_1).f2), .int .i64 ((rd_T63 l0 x3_1).f3), .int .i64 0, .int .i64 0]) ?_ 4 _ rfl; (with_reducible repeat (first | refine blk_drewN ?_ _ | refine blk_drew ?_ | refine blk_alloc ?_ _)); refine blk_put (cs := #[.int .i64 ((rd_T63 l0 x3_1).f0), .int .i64 ((rd_T63 l0 x3_1).f1), .int .i64 ((rd_T63 l0 x3_1).f2), .int .i64 0, .int .i64 0, .int .i64 0]) ?_ 3 _ rfl; (with_reducible repeat (first | refine blk_drewN ?_ _ | refine blk_drew ?_ | refine blk_alloc ?_ _)); refine blk_put (cs := #[.int .i64 ((rd_T63 l0 x3_1).f0), .int .i64 ((rd_T63 l0 x3_1).f1), .int .i64 0, .int .i64 0, .int .i64 0, .int .i64 0]) ?_ 2 _ rfl; (with_reducible repeat (first | refine blk_drewN ?_ _ | refine blk_drew ?_ | refine blk_alloc ?_ _)); refine blk_put (cs := #[.int .i64 ((rd_T63 l0 x3_1).f0), .int .i64 0, .int .i64 0, .int .i64 0, .int .i64 0, .int .i64 0]) ?_ 1 _ rfl; (with_reducible repeat (first | refine blk_drewN ?_ _ | refine blk_drew ?_ | refine blk_alloc ?_ _)); refine blk_put (cs := #[.int .i64 0, .int .i64 0, .int .i64 0, .int .i64 0, .int .i64 0, .int .i64 0]) ?_ 0 _ rfl; (with_reducible repeat (first | refine blk_drewN ?_ _ | refine blk_drew ?_ | refine blk_alloc ?_ _)); exact BK299.out⟩, ⟨pG GE299⟩⟩
    subst c8
    have H1 : ((spec_l6In.f ((rd_T63 l0 x3_1).f1) 1 3).bind fun t301 => (if t301 = true then ((spec_l3Set.f ((rd_T63 l0 x3_1).f2)).bind fun t302 => (if t302 = true then ((spec_l6In.f ((rd_T63 l0 x3_1).f3) 1 5).bind fun t303 => (if t303 = true then ((spec_l6In.f ((rd_T63 l0 x3_1).f4) 0 999).bind fun t304 => (if t304 = true then ((spec_l6In.f ((rd_T63 l0 x3_1).f5) 0 999).bind fun t305 => (spec_FoodsValid.j1 k1 l0 x3_1 (!t305) ((rd_T63 l0 x3_1).f0) ((rd_T63 l0 x3_1).f1) ((rd_T63 l0 x3_1).f2) ((rd_T63 l0 x3_1).f3) ((rd_T63 l0 x3_1).f4) ((rd_T63 l0 x3_1).f5))) else (spec_FoodsValid.j1 k1 l0 x3_1 true ((rd_T63 l0 x3_1).f0) ((rd_T63 l0 x3_1).f1) ((rd_T63 l0 x3_1).f2) ((rd_T63 l0 x3_1).f3) ((rd_T63 l0 x3_1).f4) ((rd_T63 l0 x3_1).f5)))) else (spec_FoodsValid.j1 k1 l0 x3_1 true ((rd_T63 l0 x3_1).f0) ((rd_T63 l0 x3_1).f1) ((rd_T63 l0 x3_1).f2) ((rd_T63 l0 x3_1).f3) ((rd_T63 l0 x3_1).f4) ((rd_T63 l0 x3_1).f5)))) else (spec_FoodsValid.j1 k1 l0 x3_1 true ((rd_T63 l0 x3_1).f0) ((rd_T63 l0 x3_1).f1) ((rd_T63 l0 x3_1).f2) ((rd_T63 l0 x3_1).f3) ((rd_T63 l0 x3_1).f4) ((rd_T63 l0 x3_1).f5)))) else (spec_FoodsValid.j1 k1 l0 x3_1 true ((rd_T63 l0 x3_1).f0) ((rd_T63 l0 x3_1).f1) ((rd_T63 l0 x3_1).f2) ((rd_T63 l0 x3_1).f3) ((rd_T63 l0 x3_1).f4) ((rd_T63 l0 x3_1).f5)))) = some r := by rw [if_pos rfl] at H; exact H
    clear H
    have H := H1
    clear H1
    replace H := Option.bind_eq_some_iff.mp H
    obtain ⟨t301, A90, H⟩ := H
    replace H : (if t301 = true then ((spec_l3Set.f ((rd_T63 l0 x3_1).f2)).bind fun t302 => (if t302 = true then ((spec_l6In.f ((rd_T63 l0 x3_1).f3) 1 5).bind fun t303 => (if t303 = true then ((spec_l6In.f ((rd_T63 l0 x3_1).f4) 0 999).bind fun t304 => (if t304 = true then ((spec_l6In.f ((rd_T63 l0 x3_1).f5) 0 999).bind fun t305 => (spec_FoodsValid.j1 k1 l0 x3_1 (!t305) ((rd_T63 l0 x3_1).f0) ((rd_T63 l0 x3_1).f1) ((rd_T63 l0 x3_1).f2) ((rd_T63 l0 x3_1).f3) ((rd_T63 l0 x3_1).f4) ((rd_T63 l0 x3_1).f5))) else (spec_FoodsValid.j1 k1 l0 x3_1 true ((rd_T63 l0 x3_1).f0) ((rd_T63 l0 x3_1).f1) ((rd_T63 l0 x3_1).f2) ((rd_T63 l0 x3_1).f3) ((rd_T63 l0 x3_1).f4) ((rd_T63 l0 x3_1).f5)))) else (spec_FoodsValid.j1 k1 l0 x3_1 true ((rd_T63 l0 x3_1).f0) ((rd_T63 l0 x3_1).f1) ((rd_T63 l0 x3_1).f2) ((rd_T63 l0 x3_1).f3) ((rd_T63 l0 x3_1).f4) ((rd_T63 l0 x3_1).f5)))) else (spec_FoodsValid.j1 k1 l0 x3_1 true ((rd_T63 l0 x3_1).f0) ((rd_T63 l0 x3_1).f1) ((rd_T63 l0 x3_1).f2) ((rd_T63 l0 x3_1).f3) ((rd_T63 l0 x3_1).f4) ((rd_T63 l0 x3_1).f5)))) else (spec_FoodsValid.j1 k1 l0 x3_1 true ((rd_T63 l0 x3_1).f0) ((rd_T63 l0 x3_1).f1) ((rd_T63 l0 x3_1).f2) ((rd_T63 l0 x3_1).f3) ((rd_T63 l0 x3_1).f4) ((rd_T63 l0 x3_1).f5))) = some r := H
    have A9 := Aside0.mk A90
    clear A90
    rcases (Classical.em (t301 = true)).symm with c10 | c10
    ·replace c10 := Bool.eq_false_iff.mpr c10
     subst c10
     have H1 : (spec_FoodsValid.j1 k1 l0 x3_1 true ((rd_T63 l0 x3_1).f0) ((rd_T63 l0 x3_1).f1) ((rd_T63 l0 x3_1).f2) ((rd_T63 l0 x3_1).f3) ((rd_T63 l0 x3_1).f4) ((rd_T63 l0 x3_1).f5)) = some r := by rw [if_neg (show ¬ (false = true) by decide)] at H; exact H
     clear H
     have H := H1
     clear H1
     have H' := Aside0.mk H
     clear H
     have hcz22_0 : w5.cell? ⟨gb299, 0, none⟩ = some (.int .i64 0) := (blk_cell BK299.out 0).trans rfl
     have hcz22_1 : w5.cell? ⟨gb299, 1, none⟩ = some (.int .i64 0) := (blk_cell BK299.out 1).trans rfl
     have hcz22_2 : w5.cell? ⟨gb299, 2, none⟩ = some (.int .i64 0) := (blk_cell BK299.out 2).trans rfl
     have hcz22_3 : w5.cell? ⟨gb299, 3, none⟩ = some (.int .i64 0) := (blk_cell BK299.out 3).trans rfl
     have hcz22_4 : w5.cell? ⟨gb299, 4, none⟩ = some (.int .i64 0) := (blk_cell BK299.out 4).trans rfl
     have hcz22_5 : w5.cell? ⟨gb299, 5, none⟩ = some (.int .i64 0) := (blk_cell BK299.out 5).trans rfl
     have hfz22_0 := blk_frozen BK299.out 0
     have hfz22_1 := blk_frozen BK299.out 1
     have hfz22_2 := blk_frozen BK299.out 2
     have hfz22_3 := blk_frozen BK299.out 3
     have hfz22_4 := blk_frozen BK299.out 4
     have hfz22_5 := blk_frozen BK299.out 5
     go_wp2_with (first | (go_at_call 72; (with_reducible refine (spec_l6In.calls ((rd_T63 l0 x3_1).f0) 1 20 true _ A7.out).mono ?_); rintro e w' ⟨rfl, ⟨nd, rfl⟩⟩; (try exact pD)) | (go_at_call 72; (with_reducible refine (spec_l6In.calls ((rd_T63 l0 x3_1).f1) 1 3 false _ A9.out).mono ?_); rintro e w' ⟨rfl, ⟨nd, rfl⟩⟩; (try exact pD)))
     repeat (go_quiet (first | (go_at_call 72; (with_reducible refine (spec_l6In.calls ((rd_T63 l0 x3_1).f0) 1 20 true _ A7.out).mono ?_); rintro e w' ⟨rfl, ⟨nd, rfl⟩⟩; (try exact pD)) | (go_at_call 72; (with_reducible refine (spec_l6In.calls ((rd_T63 l0 x3_1).f1) 1 3 false _ A9.out).mono ?_); rintro e w' ⟨rfl, ⟨nd, rfl⟩⟩; (try exact pD))); try go_wp2_with (first | (go_at_call 72; (with_reducible refine (spec_l6In.calls ((rd_T63 l0 x3_1).f0) 1 20 true _ A7.out).mono ?_); rintro e w' ⟨rfl, ⟨nd, rfl⟩⟩; (try exact pD)) | (go_at_call 72; (with_reducible refine (spec_l6In.calls ((rd_T63 l0 x3_1).f1) 1 3 false _ A9.out).mono ?_); rintro e w' ⟨rfl, ⟨nd, rfl⟩⟩; (try exact pD))))
     go_meet
     case rel => exact ⟨_, (true), pF, H', ⟨by have := HK1.out; first | omega | exact Nat.le_refl _⟩, ⟨by (with_reducible repeat (first | refine blk_drewN ?_ _ | refine blk_drew ?_ | refine blk_alloc ?_ _)); refine blk_put (cs := #[.int .i64 ((rd_T63 l0 x3_1).f0), .int .i64 ((rd_T63 l0 x3_1).f1), .int .i64 ((rd_T63 l0 x3_1).f2), .int .i64 ((rd_T63 l0 x3_1).f3), .int .i64 ((rd_T63 l0 x3_1).f4), .int .i64 0]) ?_ 5 _ rfl; (with_reducible repeat (first | refine blk_drewN ?_ _ | refine blk_drew ?_ | refine blk_alloc ?_ _)); refine blk_put (cs := #[.int .i64 ((rd_T63 l0 x3_1).f0), .int .i64 ((rd_T63 l0 x3_1).f1), .int .i64 ((rd_T63 l0 x3_1).f2), .int .i64 ((rd_T63 l0 x3_1).f3), .int .i64 0, .int .i64 0]) ?_ 4 _ rfl; (with_reducible repeat (first | refine blk_drewN ?_ _ | refine blk_drew ?_ | refine blk_alloc ?_ _)); refine blk_put (cs := #[.int .i64 ((rd_T63 l0 x3_1).f0), .int .i64 ((rd_T63 l0 x3_1).f1), .int .i64 ((rd_T63 l0 x3_1).f2), .int .i64 0, .int .i64 0, .int .i64 0]) ?_ 3 _ rfl; (with_reducible repeat (first | refine blk_drewN ?_ _ | refine blk_drew ?_ | refine blk_alloc ?_ _)); refine blk_put (cs := #[.int .i64 ((rd_T63 l0 x3_1).f0), .int .i64 ((rd_T63 l0 x3_1).f1), .int .i64 0, .int .i64 0, .int .i64 0, .int .i64 0]) ?_ 2 _ rfl; (with_reducible repeat (first | refine blk_drewN ?_ _ | refine blk_drew ?_ | refine blk_alloc ?_ _)); refine blk_put (cs := #[.int .i64 ((rd_T63 l0 x3_1).f0), .int .i64 0, .int .i64 0, .int .i64 0, .int .i64 0, .int .i64 0]) ?_ 1 _ rfl; (with_reducible repeat (first | refine blk_drewN ?_ _ | refine blk_drew ?_ | refine blk_alloc ?_ _)); refine blk_put (cs := #[.int .i64 0, .int .i64 0, .int .i64 0, .int .i64 0, .int .i64 0, .int .i64 0]) ?_ 0 _ rfl; (with_reducible repeat (first | refine blk_drewN ?_ _ | refine blk_drew ?_ | refine blk_alloc ?_ _)); exact BK299.out⟩, ⟨pG GE299⟩⟩
    subst c10
    have H1 : ((spec_l3Set.f ((rd_T63 l0 x3_1).f2)).bind fun t302 => (if t302 = true then ((spec_l6In.f ((rd_T63 l0 x3_1).f3) 1 5).bind fun t303 => (if t303 = true then ((spec_l6In.f ((rd_T63 l0 x3_1).f4) 0 999).bind fun t304 => (if t304 = true then ((spec_l6In.f ((rd_T63 l0 x3_1).f5) 0 999).bind fun t305 => (spec_FoodsValid.j1 k1 l0 x3_1 (!t305) ((rd_T63 l0 x3_1).f0) ((rd_T63 l0 x3_1).f1) ((rd_T63 l0 x3_1).f2) ((rd_T63 l0 x3_1).f3) ((rd_T63 l0 x3_1).f4) ((rd_T63 l0 x3_1).f5))) else (spec_FoodsValid.j1 k1 l0 x3_1 true ((rd_T63 l0 x3_1).f0) ((rd_T63 l0 x3_1).f1) ((rd_T63 l0 x3_1).f2) ((rd_T63 l0 x3_1).f3) ((rd_T63 l0 x3_1).f4) ((rd_T63 l0 x3_1).f5)))) else (spec_FoodsValid.j1 k1 l0 x3_1 true ((rd_T63 l0 x3_1).f0) ((rd_T63 l0 x3_1).f1) ((rd_T63 l0 x3_1).f2) ((rd_T63 l0 x3_1).f3) ((rd_T63 l0 x3_1).f4) ((rd_T63 l0 x3_1).f5)))) else (spec_FoodsValid.j1 k1 l0 x3_1 true ((rd_T63 l0 x3_1).f0) ((rd_T63 l0 x3_1).f1) ((rd_T63 l0 x3_1).f2) ((rd_T63 l0 x3_1).f3) ((rd_T63 l0 x3_1).f4) ((rd_T63 l0 x3_1).f5)))) = some r := by rw [if_pos rfl] at H; exact H
    clear H
    have H := H1
    clear H1
    replace H := Option.bind_eq_some_iff.mp H
    obtain ⟨t302, A110, H⟩ := H
    replace H : (if t302 = true then ((spec_l6In.f ((rd_T63 l0 x3_1).f3) 1 5).bind fun t303 => (if t303 = true then ((spec_l6In.f ((rd_T63 l0 x3_1).f4) 0 999).bind fun t304 => (if t304 = true then ((spec_l6In.f ((rd_T63 l0 x3_1).f5) 0 999).bind fun t305 => (spec_FoodsValid.j1 k1 l0 x3_1 (!t305) ((rd_T63 l0 x3_1).f0) ((rd_T63 l0 x3_1).f1) ((rd_T63 l0 x3_1).f2) ((rd_T63 l0 x3_1).f3) ((rd_T63 l0 x3_1).f4) ((rd_T63 l0 x3_1).f5))) else (spec_FoodsValid.j1 k1 l0 x3_1 true ((rd_T63 l0 x3_1).f0) ((rd_T63 l0 x3_1).f1) ((rd_T63 l0 x3_1).f2) ((rd_T63 l0 x3_1).f3) ((rd_T63 l0 x3_1).f4) ((rd_T63 l0 x3_1).f5)))) else (spec_FoodsValid.j1 k1 l0 x3_1 true ((rd_T63 l0 x3_1).f0) ((rd_T63 l0 x3_1).f1) ((rd_T63 l0 x3_1).f2) ((rd_T63 l0 x3_1).f3) ((rd_T63 l0 x3_1).f4) ((rd_T63 l0 x3_1).f5)))) else (spec_FoodsValid.j1 k1 l0 x3_1 true ((rd_T63 l0 x3_1).f0) ((rd_T63 l0 x3_1).f1) ((rd_T63 l0 x3_1).f2) ((rd_T63 l0 x3_1).f3) ((rd_T63 l0 x3_1).f4) ((rd_T63 l0 x3_1).f5))) = some r := H
    have A11 := Aside0.mk A110
    clear A110
    rcases (Classical.em (t302 = true)).symm with c12 | c12
    ·replace c12 := Bool.eq_false_iff.mpr c12
     subst c12
     have H1 : (spec_FoodsValid.j1 k1 l0 x3_1 true ((rd_T63 l0 x3_1).f0) ((rd_T63 l0 x3_1).f1) ((rd_T63 l0 x3_1).f2) ((rd_T63 l0 x3_1).f3) ((rd_T63 l0 x3_1).f4) ((rd_T63 l0 x3_1).f5)) = some r := by rw [if_neg (show ¬ (false = true) by decide)] at H; exact H
     clear H
     have H := H1
     clear H1
     have H' := Aside0.mk H
     clear H
     have hcz21_0 : w5.cell? ⟨gb299, 0, none⟩ = some (.int .i64 0) := (blk_cell BK299.out 0).trans rfl
     have hcz21_1 : w5.cell? ⟨gb299, 1, none⟩ = some (.int .i64 0) := (blk_cell BK299.out 1).trans rfl
     have hcz21_2 : w5.cell? ⟨gb299, 2, none⟩ = some (.int .i64 0) := (blk_cell BK299.out 2).trans rfl
     have hcz21_3 : w5.cell? ⟨gb299, 3, none⟩ = some (.int .i64 0) := (blk_cell BK299.out 3).trans rfl
     have hcz21_4 : w5.cell? ⟨gb299, 4, none⟩ = some (.int .i64 0) := (blk_cell BK299.out 4).trans rfl
     have hcz21_5 : w5.cell? ⟨gb299, 5, none⟩ = some (.int .i64 0) := (blk_cell BK299.out 5).trans rfl
     have hfz21_0 := blk_frozen BK299.out 0
     have hfz21_1 := blk_frozen BK299.out 1
     have hfz21_2 := blk_frozen BK299.out 2
     have hfz21_3 := blk_frozen BK299.out 3
     have hfz21_4 := blk_frozen BK299.out 4
     have hfz21_5 := blk_frozen BK299.out 5
     go_wp2_with (first | (go_at_call 72; (with_reducible refine (spec_l6In.calls ((rd_T63 l0 x3_1).f0) 1 20 true _ A7.out).mono ?_); rintro e w' ⟨rfl, ⟨nd, rfl⟩⟩; (try exact pD)) | (go_at_call 72; (with_reducible refine (spec_l6In.calls ((rd_T63 l0 x3_1).f1) 1 3 true _ A9.out).mono ?_); rintro e w' ⟨rfl, ⟨nd, rfl⟩⟩; (try exact pD)) | (go_at_call 97; (with_reducible refine (spec_l3Set.calls ((rd_T63 l0 x3_1).f2) false _ A11.out).mono ?_); rintro e w' ⟨rfl, ⟨nd, rfl⟩⟩; (try exact pD)))
     repeat (go_quiet (first | (go_at_call 72; (with_reducible refine (spec_l6In.calls ((rd_T63 l0 x3_1).f0) 1 20 true _ A7.out).mono ?_); rintro e w' ⟨rfl, ⟨nd, rfl⟩⟩; (try exact pD)) | (go_at_call 72; (with_reducible refine (spec_l6In.calls ((rd_T63 l0 x3_1).f1) 1 3 true _ A9.out).mono ?_); rintro e w' ⟨rfl, ⟨nd, rfl⟩⟩; (try exact pD)) | (go_at_call 97; (with_reducible refine (spec_l3Set.calls ((rd_T63 l0 x3_1).f2) false _ A11.out).mono ?_); rintro e w' ⟨rfl, ⟨nd, rfl⟩⟩; (try exact pD))); try go_wp2_with (first | (go_at_call 72; (with_reducible refine (spec_l6In.calls ((rd_T63 l0 x3_1).f0) 1 20 true _ A7.out).mono ?_); rintro e w' ⟨rfl, ⟨nd, rfl⟩⟩; (try exact pD)) | (go_at_call 72; (with_reducible refine (spec_l6In.calls ((rd_T63 l0 x3_1).f1) 1 3 true _ A9.out).mono ?_); rintro e w' ⟨rfl, ⟨nd, rfl⟩⟩; (try exact pD)) | (go_at_call 97; (with_reducible refine (spec_l3Set.calls ((rd_T63 l0 x3_1).f2) false _ A11.out).mono ?_); rintro e w' ⟨rfl, ⟨nd, rfl⟩⟩; (try exact pD))))
     go_meet
     case rel => exact ⟨_, (true), pF, H', ⟨by have := HK1.out; first | omega | exact Nat.le_refl _⟩, ⟨by (with_reducible repeat (first | refine blk_drewN ?_ _ | refine blk_drew ?_ | refine blk_alloc ?_ _)); refine blk_put (cs := #[.int .i64 ((rd_T63 l0 x3_1).f0), .int .i64 ((rd_T63 l0 x3_1).f1), .int .i64 ((rd_T63 l0 x3_1).f2), .int .i64 ((rd_T63 l0 x3_1).f3), .int .i64 ((rd_T63 l0 x3_1).f4), .int .i64 0]) ?_ 5 _ rfl; (with_reducible repeat (first | refine blk_drewN ?_ _ | refine blk_drew ?_ | refine blk_alloc ?_ _)); refine blk_put (cs := #[.int .i64 ((rd_T63 l0 x3_1).f0), .int .i64 ((rd_T63 l0 x3_1).f1), .int .i64 ((rd_T63 l0 x3_1).f2), .int .i64 ((rd_T63 l0 x3_1).f3), .int .i64 0, .int .i64 0]) ?_ 4 _ rfl; (with_reducible repeat (first | refine blk_drewN ?_ _ | refine blk_drew ?_ | refine blk_alloc ?_ _)); refine blk_put (cs := #[.int .i64 ((rd_T63 l0 x3_1).f0), .int .i64 ((rd_T63 l0 x3_1).f1), .int .i64 ((rd_T63 l0 x3_1).f2), .int .i64 0, .int .i64 0, .int .i64 0]) ?_ 3 _ rfl; (with_reducible repeat (first | refine blk_drewN ?_ _ | refine blk_drew ?_ | refine blk_alloc ?_ _)); refine blk_put (cs := #[.int .i64 ((rd_T63 l0 x3_1).f0), .int .i64 ((rd_T63 l0 x3_1).f1), .int .i64 0, .int .i64 0, .int .i64 0, .int .i64 0]) ?_ 2 _ rfl; (with_reducible repeat (first | refine blk_drewN ?_ _ | refine blk_drew ?_ | refine blk_alloc ?_ _)); refine blk_put (cs := #[.int .i64 ((rd_T63 l0 x3_1).f0), .int .i64 0, .int .i64 0, .int .i64 0, .int .i64 0, .int .i64 0]) ?_ 1 _ rfl; (with_reducible repeat (first | refine blk_drewN ?_ _ | refine blk_drew ?_ | refine blk_alloc ?_ _)); refine blk_put (cs := #[.int .i64 0, .int .i64 0, .int .i64 0, .int .i64 0, .int .i64 0, .int .i64 0]) ?_ 0 _ rfl; (with_reducible repeat (first | refine blk_drewN ?_ _ | refine blk_drew ?_ | refine blk_alloc ?_ _)); exact BK299.out⟩, ⟨pG GE299⟩⟩
    subst c12
    have H1 : ((spec_l6In.f ((rd_T63 l0 x3_1).f3) 1 5).bind fun t303 => (if t303 = true then ((spec_l6In.f ((rd_T63 l0 x3_1).f4) 0 999).bind fun t304 => (if t304 = true then ((spec_l6In.f ((rd_T63 l0 x3_1).f5) 0 999).bind fun t305 => (spec_FoodsValid.j1 k1 l0 x3_1 (!t305) ((rd_T63 l0 x3_1).f0) ((rd_T63 l0 x3_1).f1) ((rd_T63 l0 x3_1).f2) ((rd_T63 l0 x3_1).f3) ((rd_T63 l0 x3_1).f4) ((rd_T63 l0 x3_1).f5))) else (spec_FoodsValid.j1 k1 l0 x3_1 true ((rd_T63 l0 x3_1).f0) ((rd_T63 l0 x3_1).f1) ((rd_T63 l0 x3_1).f2) ((rd_T63 l0 x3_1).f3) ((rd_T63 l0 x3_1).f4) ((rd_T63 l0 x3_1).f5)))) else (spec_FoodsValid.j1 k1 l0 x3_1 true ((rd_T63 l0 x3_1).f0) ((rd_T63 l0 x3_1).f1) ((rd_T63 l0 x3_1).f2) ((rd_T63 l0 x3_1).f3) ((rd_T63 l0 x3_1).f4) ((rd_T63 l0 x3_1).f5)))) = some r := by rw [if_pos rfl] at H; exact H
    clear H
    have H := H1
    clear H1
    replace H := Option.bind_eq_some_iff.mp H
    obtain ⟨t303, A130, H⟩ := H
    replace H : (if t303 = true then ((spec_l6In.f ((rd_T63 l0 x3_1).f4) 0 999).bind fun t304 => (if t304 = true then ((spec_l6In.f ((rd_T63 l0 x3_1).f5) 0 999).bind fun t305 => (spec_FoodsValid.j1 k1 l0 x3_1 (!t305) ((rd_T63 l0 x3_1).f0) ((rd_T63 l0 x3_1).f1) ((rd_T63 l0 x3_1).f2) ((rd_T63 l0 x3_1).f3) ((rd_T63 l0 x3_1).f4) ((rd_T63 l0 x3_1).f5))) else (spec_FoodsValid.j1 k1 l0 x3_1 true ((rd_T63 l0 x3_1).f0) ((rd_T63 l0 x3_1).f1) ((rd_T63 l0 x3_1).f2) ((rd_T63 l0 x3_1).f3) ((rd_T63 l0 x3_1).f4) ((rd_T63 l0 x3_1).f5)))) else (spec_FoodsValid.j1 k1 l0 x3_1 true ((rd_T63 l0 x3_1).f0) ((rd_T63 l0 x3_1).f1) ((rd_T63 l0 x3_1).f2) ((rd_T63 l0 x3_1).f3) ((rd_T63 l0 x3_1).f4) ((rd_T63 l0 x3_1).f5))) = some r := H
    have A13 := Aside0.mk A130
    clear A130
    rcases (Classical.em (t303 = true)).symm with c14 | c14
    ·replace c14 := Bool.eq_false_iff.mpr c14
     subst c14
     have H1 : (spec_FoodsValid.j1 k1 l0 x3_1 true ((rd_T63 l0 x3_1).f0) ((rd_T63 l0 x3_1).f1) ((rd_T63 l0 x3_1).f2) ((rd_T63 l0 x3_1).f3) ((rd_T63 l0 x3_1).f4) ((rd_T63 l0 x3_1).f5)) = some r := by rw [if_neg (show ¬ (false = true) by decide)] at H; exact H
     clear H
     have H := H1
     clear H1
     have H' := Aside0.mk H
     clear H
     have hcz20_0 : w5.cell? ⟨gb299, 0, none⟩ = some (.int .i64 0) := (blk_cell BK299.out 0).trans rfl
     have hcz20_1 : w5.cell? ⟨gb299, 1, none⟩ = some (.int .i64 0) := (blk_cell BK299.out 1).trans rfl
     have hcz20_2 : w5.cell? ⟨gb299, 2, none⟩ = some (.int .i64 0) := (blk_cell BK299.out 2).trans rfl
     have hcz20_3 : w5.cell? ⟨gb299, 3, none⟩ = some (.int .i64 0) := (blk_cell BK299.out 3).trans rfl
     have hcz20_4 : w5.cell? ⟨gb299, 4, none⟩ = some (.int .i64 0) := (blk_cell BK299.out 4).trans rfl
     have hcz20_5 : w5.cell? ⟨gb299, 5, none⟩ = some (.int .i64 0) := (blk_cell BK299.out 5).trans rfl
     have hfz20_0 := blk_frozen BK299.out 0
     have hfz20_1 := blk_frozen BK299.out 1
     have hfz20_2 := blk_frozen BK299.out 2
     have hfz20_3 := blk_frozen BK299.out 3
     have hfz20_4 := blk_frozen BK299.out 4
     have hfz20_5 := blk_frozen BK299.out 5
     go_wp2_with (first | (go_at_call 72; (with_reducible refine (spec_l6In.calls ((rd_T63 l0 x3_1).f0) 1 20 true _ A7.out).mono ?_); rintro e w' ⟨rfl, ⟨nd, rfl⟩⟩; (try exact pD)) | (go_at_call 72; (with_reducible refine (spec_l6In.calls ((rd_T63 l0 x3_1).f1) 1 3 true _ A9.out).mono ?_); rintro e w' ⟨rfl, ⟨nd, rfl⟩⟩; (try exact pD)) | (go_at_call 97; (with_reducible refine (spec_l3Set.calls ((rd_T63 l0 x3_1).f2) true _ A11.out).mono ?_); rintro e w' ⟨rfl, ⟨nd, rfl⟩⟩; (try exact pD)) | (go_at_call 72; (with_reducible refine (spec_l6In.calls ((rd_T63 l0 x3_1).f3) 1 5 false _ A13.out).mono ?_); rintro e w' ⟨rfl, ⟨nd, rfl⟩⟩; (try exact pD)))
     repeat (go_quiet (first | (go_at_call 72; (with_reducible refine (spec_l6In.calls ((rd_T63 l0 x3_1).f0) 1 20 true _ A7.out).mono ?_); rintro e w' ⟨rfl, ⟨nd, rfl⟩⟩; (try exact pD)) | (go_at_call 72; (with_reducible refine (spec_l6In.calls ((rd_T63 l0 x3_1).f1) 1 3 true _ A9.out).mono ?_); rintro e w' ⟨rfl, ⟨nd, rfl⟩⟩; (try exact pD)) | (go_at_call 97; (with_reducible refine (spec_l3Set.calls ((rd_T63 l0 x3_1).f2) true _ A11.out).mono ?_); rintro e w' ⟨rfl, ⟨nd, rfl⟩⟩; (try exact pD)) | (go_at_call 72; (with_reducible refine (spec_l6In.calls ((rd_T63 l0 x3_1).f3) 1 5 false _ A13.out).mono ?_); rintro e w' ⟨rfl, ⟨nd, rfl⟩⟩; (try exact pD))); try go_wp2_with (first | (go_at_call 72; (with_reducible refine (spec_l6In.calls ((rd_T63 l0 x3_1).f0) 1 20 true _ A7.out).mono ?_); rintro e w' ⟨rfl, ⟨nd, rfl⟩⟩; (try exact pD)) | (go_at_call 72; (with_reducible refine (spec_l6In.calls ((rd_T63 l0 x3_1).f1) 1 3 true _ A9.out).mono ?_); rintro e w' ⟨rfl, ⟨nd, rfl⟩⟩; (try exact pD)) | (go_at_call 97; (with_reducible refine (spec_l3Set.calls ((rd_T63 l0 x3_1).f2) true _ A11.out).mono ?_); rintro e w' ⟨rfl, ⟨nd, rfl⟩⟩; (try exact pD)) | (go_at_call 72; (with_reducible refine (spec_l6In.calls ((rd_T63 l0 x3_1).f3) 1 5 false _ A13.out).mono ?_); rintro e w' ⟨rfl, ⟨nd, rfl⟩⟩; (try exact pD))))
     go_meet
     case rel => exact ⟨_, (true), pF, H', ⟨by have := HK1.out; first | omega | exact Nat.le_refl _⟩, ⟨by (with_reducible repeat (first | refine blk_drewN ?_ _ | refine blk_drew ?_ | refine blk_alloc ?_ _)); refine blk_put (cs := #[.int .i64 ((rd_T63 l0 x3_1).f0), .int .i64 ((rd_T63 l0 x3_1).f1), .int .i64 ((rd_T63 l0 x3_1).f2), .int .i64 ((rd_T63 l0 x3_1).f3), .int .i64 ((rd_T63 l0 x3_1).f4), .int .i64 0]) ?_ 5 _ rfl; (with_reducible repeat (first | refine blk_drewN ?_ _ | refine blk_drew ?_ | refine blk_alloc ?_ _)); refine blk_put (cs := #[.int .i64 ((rd_T63 l0 x3_1).f0), .int .i64 ((rd_T63 l0 x3_1).f1), .int .i64 ((rd_T63 l0 x3_1).f2), .int .i64 ((rd_T63 l0 x3_1).f3), .int .i64 0, .int .i64 0]) ?_ 4 _ rfl; (with_reducible repeat (first | refine blk_drewN ?_ _ | refine blk_drew ?_ | refine blk_alloc ?_ _)); refine blk_put (cs := #[.int .i64 ((rd_T63 l0 x3_1).f0), .int .i64 ((rd_T63 l0 x3_1).f1), .int .i64 ((rd_T63 l0 x3_1).f2), .int .i64 0, .int .i64 0, .int .i64 0]) ?_ 3 _ rfl; (with_reducible repeat (first | refine blk_drewN ?_ _ | refine blk_drew ?_ | refine blk_alloc ?_ _)); refine blk_put (cs := #[.int .i64 ((rd_T63 l0 x3_1).f0), .int .i64 ((rd_T63 l0 x3_1).f1), .int .i64 0, .int .i64 0, .int .i64 0, .int .i64 0]) ?_ 2 _ rfl; (with_reducible repeat (first | refine blk_drewN ?_ _ | refine blk_drew ?_ | refine blk_alloc ?_ _)); refine blk_put (cs := #[.int .i64 ((rd_T63 l0 x3_1).f0), .int .i64 0, .int .i64 0, .int .i64 0, .int .i64 0, .int .i64 0]) ?_ 1 _ rfl; (with_reducible repeat (first | refine blk_drewN ?_ _ | refine blk_drew ?_ | refine blk_alloc ?_ _)); refine blk_put (cs := #[.int .i64 0, .int .i64 0, .int .i64 0, .int .i64 0, .int .i64 0, .int .i64 0]) ?_ 0 _ rfl; (with_reducible repeat (first | refine blk_drewN ?_ _ | refine blk_drew ?_ | refine blk_alloc ?_ _)); exact BK299.out⟩, ⟨pG GE299⟩⟩
    subst c14
    have H1 : ((spec_l6In.f ((rd_T63 l0 x3_1).f4) 0 999).bind fun t304 => (if t304 = true then ((spec_l6In.f ((rd_T63 l0 x3_1).f5) 0 999).bind fun t305 => (spec_FoodsValid.j1 k1 l0 x3_1 (!t305) ((rd_T63 l0 x3_1).f0) ((rd_T63 l0 x3_1).f1) ((rd_T63 l0 x3_1).f2) ((rd_T63 l0 x3_1).f3) ((rd_T63 l0 x3_1).f4) ((rd_T63 l0 x3_1).f5))) else (spec_FoodsValid.j1 k1 l0 x3_1 true ((rd_T63 l0 x3_1).f0) ((rd_T63 l0 x3_1).f1) ((rd_T63 l0 x3_1).f2) ((rd_T63 l0 x3_1).f3) ((rd_T63 l0 x3_1).f4) ((rd_T63 l0 x3_1).f5)))) = some r := by rw [if_pos rfl] at H; exact H
    clear H
    have H := H1
    clear H1
    replace H := Option.bind_eq_some_iff.mp H
    obtain ⟨t304, A150, H⟩ := H
    replace H : (if t304 = true then ((spec_l6In.f ((rd_T63 l0 x3_1).f5) 0 999).bind fun t305 => (spec_FoodsValid.j1 k1 l0 x3_1 (!t305) ((rd_T63 l0 x3_1).f0) ((rd_T63 l0 x3_1).f1) ((rd_T63 l0 x3_1).f2) ((rd_T63 l0 x3_1).f3) ((rd_T63 l0 x3_1).f4) ((rd_T63 l0 x3_1).f5))) else (spec_FoodsValid.j1 k1 l0 x3_1 true ((rd_T63 l0 x3_1).f0) ((rd_T63 l0 x3_1).f1) ((rd_T63 l0 x3_1).f2) ((rd_T63 l0 x3_1).f3) ((rd_T63 l0 x3_1).f4) ((rd_T63 l0 x3_1).f5))) = some r := H
    have A15 := Aside0.mk A150
    clear A150
    rcases (Classical.em (t304 = true)).symm with c16 | c16
    ·replace c16 := Bool.eq_false_iff.mpr c16
     subst c16
     have H1 : (spec_FoodsValid.j1 k1 l0 x3_1 true ((rd_T63 l0 x3_1).f0) ((rd_T63 l0 x3_1).f1) ((rd_T63 l0 x3_1).f2) ((rd_T63 l0 x3_1).f3) ((rd_T63 l0 x3_1).f4) ((rd_T63 l0 x3_1).f5)) = some r := by rw [if_neg (show ¬ (false = true) by decide)] at H; exact H
     clear H
     have H := H1
     clear H1
     have H' := Aside0.mk H
     clear H
     have hcz19_0 : w5.cell? ⟨gb299, 0, none⟩ = some (.int .i64 0) := (blk_cell BK299.out 0).trans rfl
     have hcz19_1 : w5.cell? ⟨gb299, 1, none⟩ = some (.int .i64 0) := (blk_cell BK299.out 1).trans rfl
     have hcz19_2 : w5.cell? ⟨gb299, 2, none⟩ = some (.int .i64 0) := (blk_cell BK299.out 2).trans rfl
     have hcz19_3 : w5.cell? ⟨gb299, 3, none⟩ = some (.int .i64 0) := (blk_cell BK299.out 3).trans rfl
     have hcz19_4 : w5.cell? ⟨gb299, 4, none⟩ = some (.int .i64 0) := (blk_cell BK299.out 4).trans rfl
     have hcz19_5 : w5.cell? ⟨gb299, 5, none⟩ = some (.int .i64 0) := (blk_cell BK299.out 5).trans rfl
     have hfz19_0 := blk_frozen BK299.out 0
     have hfz19_1 := blk_frozen BK299.out 1
     have hfz19_2 := blk_frozen BK299.out 2
     have hfz19_3 := blk_frozen BK299.out 3
     have hfz19_4 := blk_frozen BK299.out 4
     have hfz19_5 := blk_frozen BK299.out 5
     go_wp2_with (first | (go_at_call 72; (with_reducible refine (spec_l6In.calls ((rd_T63 l0 x3_1).f0) 1 20 true _ A7.out).mono ?_); rintro e w' ⟨rfl, ⟨nd, rfl⟩⟩; (try exact pD)) | (go_at_call 72; (with_reducible refine (spec_l6In.calls ((rd_T63 l0 x3_1).f1) 1 3 true _ A9.out).mono ?_); rintro e w' ⟨rfl, ⟨nd, rfl⟩⟩; (try exact pD)) | (go_at_call 97; (with_reducible refine (spec_l3Set.calls ((rd_T63 l0 x3_1).f2) true _ A11.out).mono ?_); rintro e w' ⟨rfl, ⟨nd, rfl⟩⟩; (try exact pD)) | (go_at_call 72; (with_reducible refine (spec_l6In.calls ((rd_T63 l0 x3_1).f3) 1 5 true _ A13.out).mono ?_); rintro e w' ⟨rfl, ⟨nd, rfl⟩⟩; (try exact pD)) | (go_at_call 72; (with_reducible refine (spec_l6In.calls ((rd_T63 l0 x3_1).f4) 0 999 false _ A15.out).mono ?_); rintro e w' ⟨rfl, ⟨nd, rfl⟩⟩; (try exact pD)))
     repeat (go_quiet (first | (go_at_call 72; (with_reducible refine (spec_l6In.calls ((rd_T63 l0 x3_1).f0) 1 20 true _ A7.out).mono ?_); rintro e w' ⟨rfl, ⟨nd, rfl⟩⟩; (try exact pD)) | (go_at_call 72; (with_reducible refine (spec_l6In.calls ((rd_T63 l0 x3_1).f1) 1 3 true _ A9.out).mono ?_); rintro e w' ⟨rfl, ⟨nd, rfl⟩⟩; (try exact pD)) | (go_at_call 97; (with_reducible refine (spec_l3Set.calls ((rd_T63 l0 x3_1).f2) true _ A11.out).mono ?_); rintro e w' ⟨rfl, ⟨nd, rfl⟩⟩; (try exact pD)) | (go_at_call 72; (with_reducible refine (spec_l6In.calls ((rd_T63 l0 x3_1).f3) 1 5 true _ A13.out).mono ?_); rintro e w' ⟨rfl, ⟨nd, rfl⟩⟩; (try exact pD)) | (go_at_call 72; (with_reducible refine (spec_l6In.calls ((rd_T63 l0 x3_1).f4) 0 999 false _ A15.out).mono ?_); rintro e w' ⟨rfl, ⟨nd, rfl⟩⟩; (try exact pD))); try go_wp2_with (first | (go_at_call 72; (with_reducible refine (spec_l6In.calls ((rd_T63 l0 x3_1).f0) 1 20 true _ A7.out).mono ?_); rintro e w' ⟨rfl, ⟨nd, rfl⟩⟩; (try exact pD)) | (go_at_call 72; (with_reducible refine (spec_l6In.calls ((rd_T63 l0 x3_1).f1) 1 3 true _ A9.out).mono ?_); rintro e w' ⟨rfl, ⟨nd, rfl⟩⟩; (try exact pD)) | (go_at_call 97; (with_reducible refine (spec_l3Set.calls ((rd_T63 l0 x3_1).f2) true _ A11.out).mono ?_); rintro e w' ⟨rfl, ⟨nd, rfl⟩⟩; (try exact pD)) | (go_at_call 72; (with_reducible refine (spec_l6In.calls ((rd_T63 l0 x3_1).f3) 1 5 true _ A13.out).mono ?_); rintro e w' ⟨rfl, ⟨nd, rfl⟩⟩; (try exact pD)) | (go_at_call 72; (with_reducible refine (spec_l6In.calls ((rd_T63 l0 x3_1).f4) 0 999 false _ A15.out).mono ?_); rintro e w' ⟨rfl, ⟨nd, rfl⟩⟩; (try exact pD))))
     go_meet
     case rel => exact ⟨_, (true), pF, H', ⟨by have := HK1.out; first | omega | exact Nat.le_refl _⟩, ⟨by (with_reducible repeat (first | refine blk_drewN ?_ _ | refine blk_drew ?_ | refine blk_alloc ?_ _)); refine blk_put (cs := #[.int .i64 ((rd_T63 l0 x3_1).f0), .int .i64 ((rd_T63 l0 x3_1).f1), .int .i64 ((rd_T63 l0 x3_1).f2), .int .i64 ((rd_T63 l0 x3_1).f3), .int .i64 ((rd_T63 l0 x3_1).f4), .int .i64 0]) ?_ 5 _ rfl; (with_reducible repeat (first | refine blk_drewN ?_ _ | refine blk_drew ?_ | refine blk_alloc ?_ _)); refine blk_put (cs := #[.int .i64 ((rd_T63 l0 x3_1).f0), .int .i64 ((rd_T63 l0 x3_1).f1), .int .i64 ((rd_T63 l0 x3_1).f2), .int .i64 ((rd_T63 l0 x3_1).f3), .int .i64 0, .int .i64 0]) ?_ 4 _ rfl; (with_reducible repeat (first | refine blk_drewN ?_ _ | refine blk_drew ?_ | refine blk_alloc ?_ _)); refine blk_put (cs := #[.int .i64 ((rd_T63 l0 x3_1).f0), .int .i64 ((rd_T63 l0 x3_1).f1), .int .i64 ((rd_T63 l0 x3_1).f2), .int .i64 0, .int .i64 0, .int .i64 0]) ?_ 3 _ rfl; (with_reducible repeat (first | refine blk_drewN ?_ _ | refine blk_drew ?_ | refine blk_alloc ?_ _)); refine blk_put (cs := #[.int .i64 ((rd_T63 l0 x3_1).f0), .int .i64 ((rd_T63 l0 x3_1).f1), .int .i64 0, .int .i64 0, .int .i64 0, .int .i64 0]) ?_ 2 _ rfl; (with_reducible repeat (first | refine blk_drewN ?_ _ | refine blk_drew ?_ | refine blk_alloc ?_ _)); refine blk_put (cs := #[.int .i64 ((rd_T63 l0 x3_1).f0), .int .i64 0, .int .i64 0, .int .i64 0, .int .i64 0, .int .i64 0]) ?_ 1 _ rfl; (with_reducible repeat (first | refine blk_drewN ?_ _ | refine blk_drew ?_ | refine blk_alloc ?_ _)); refine blk_put (cs := #[.int .i64 0, .int .i64 0, .int .i64 0, .int .i64 0, .int .i64 0, .int .i64 0]) ?_ 0 _ rfl; (with_reducible repeat (first | refine blk_drewN ?_ _ | refine blk_drew ?_ | refine blk_alloc ?_ _)); exact BK299.out⟩, ⟨pG GE299⟩⟩
    subst c16
    have H1 : ((spec_l6In.f ((rd_T63 l0 x3_1).f5) 0 999).bind fun t305 => (spec_FoodsValid.j1 k1 l0 x3_1 (!t305) ((rd_T63 l0 x3_1).f0) ((rd_T63 l0 x3_1).f1) ((rd_T63 l0 x3_1).f2) ((rd_T63 l0 x3_1).f3) ((rd_T63 l0 x3_1).f4) ((rd_T63 l0 x3_1).f5))) = some r := by rw [if_pos rfl] at H; exact H
    clear H
    have H := H1
    clear H1
    replace H := Option.bind_eq_some_iff.mp H
    obtain ⟨t305, A170, H⟩ := H
    replace H : (spec_FoodsValid.j1 k1 l0 x3_1 (!t305) ((rd_T63 l0 x3_1).f0) ((rd_T63 l0 x3_1).f1) ((rd_T63 l0 x3_1).f2) ((rd_T63 l0 x3_1).f3) ((rd_T63 l0 x3_1).f4) ((rd_T63 l0 x3_1).f5)) = some r := H
    have A17 := Aside0.mk A170
    clear A170
    have H' := Aside0.mk H
    clear H
    have hcz18_0 : w5.cell? ⟨gb299, 0, none⟩ = some (.int .i64 0) := (blk_cell BK299.out 0).trans rfl
    have hcz18_1 : w5.cell? ⟨gb299, 1, none⟩ = some (.int .i64 0) := (blk_cell BK299.out 1).trans rfl
    have hcz18_2 : w5.cell? ⟨gb299, 2, none⟩ = some (.int .i64 0) := (blk_cell BK299.out 2).trans rfl
    have hcz18_3 : w5.cell? ⟨gb299, 3, none⟩ = some (.int .i64 0) := (blk_cell BK299.out 3).trans rfl
    have hcz18_4 : w5.cell? ⟨gb299, 4, none⟩ = some (.int .i64 0) := (blk_cell BK299.out 4).trans rfl
    have hcz18_5 : w5.cell? ⟨gb299, 5, none⟩ = some (.int .i64 0) := (blk_cell BK299.out 5).trans rfl
    have hfz18_0 := blk_frozen BK299.out 0
    have hfz18_1 := blk_frozen BK299.out 1
    have hfz18_2 := blk_frozen BK299.out 2
    have hfz18_3 := blk_frozen BK299.out 3
    have hfz18_4 := blk_frozen BK299.out 4
    have hfz18_5 := blk_frozen BK299.out 5
    go_wp2_with (first | (go_at_call 72; (with_reducible refine (spec_l6In.calls ((rd_T63 l0 x3_1).f0) 1 20 true _ A7.out).mono ?_); rintro e w' ⟨rfl, ⟨nd, rfl⟩⟩; (try exact pD)) | (go_at_call 72; (with_reducible refine (spec_l6In.calls ((rd_T63 l0 x3_1).f1) 1 3 true _ A9.out).mono ?_); rintro e w' ⟨rfl, ⟨nd, rfl⟩⟩; (try exact pD)) | (go_at_call 97; (with_reducible refine (spec_l3Set.calls ((rd_T63 l0 x3_1).f2) true _ A11.out).mono ?_); rintro e w' ⟨rfl, ⟨nd, rfl⟩⟩; (try exact pD)) | (go_at_call 72; (with_reducible refine (spec_l6In.calls ((rd_T63 l0 x3_1).f3) 1 5 true _ A13.out).mono ?_); rintro e w' ⟨rfl, ⟨nd, rfl⟩⟩; (try exact pD)) | (go_at_call 72; (with_reducible refine (spec_l6In.calls ((rd_T63 l0 x3_1).f4) 0 999 true _ A15.out).mono ?_); rintro e w' ⟨rfl, ⟨nd, rfl⟩⟩; (try exact pD)) | (go_at_call 72; (with_reducible refine (spec_l6In.calls ((rd_T63 l0 x3_1).f5) 0 999 t305 _ A17.out).mono ?_); rintro e w' ⟨rfl, ⟨nd, rfl⟩⟩; (try exact pD)))
    repeat (go_quiet (first | (go_at_call 72; (with_reducible refine (spec_l6In.calls ((rd_T63 l0 x3_1).f0) 1 20 true _ A7.out).mono ?_); rintro e w' ⟨rfl, ⟨nd, rfl⟩⟩; (try exact pD)) | (go_at_call 72; (with_reducible refine (spec_l6In.calls ((rd_T63 l0 x3_1).f1) 1 3 true _ A9.out).mono ?_); rintro e w' ⟨rfl, ⟨nd, rfl⟩⟩; (try exact pD)) | (go_at_call 97; (with_reducible refine (spec_l3Set.calls ((rd_T63 l0 x3_1).f2) true _ A11.out).mono ?_); rintro e w' ⟨rfl, ⟨nd, rfl⟩⟩; (try exact pD)) | (go_at_call 72; (with_reducible refine (spec_l6In.calls ((rd_T63 l0 x3_1).f3) 1 5 true _ A13.out).mono ?_); rintro e w' ⟨rfl, ⟨nd, rfl⟩⟩; (try exact pD)) | (go_at_call 72; (with_reducible refine (spec_l6In.calls ((rd_T63 l0 x3_1).f4) 0 999 true _ A15.out).mono ?_); rintro e w' ⟨rfl, ⟨nd, rfl⟩⟩; (try exact pD)) | (go_at_call 72; (with_reducible refine (spec_l6In.calls ((rd_T63 l0 x3_1).f5) 0 999 t305 _ A17.out).mono ?_); rintro e w' ⟨rfl, ⟨nd, rfl⟩⟩; (try exact pD))); try go_wp2_with (first | (go_at_call 72; (with_reducible refine (spec_l6In.calls ((rd_T63 l0 x3_1).f0) 1 20 true _ A7.out).mono ?_); rintro e w' ⟨rfl, ⟨nd, rfl⟩⟩; (try exact pD)) | (go_at_call 72; (with_reducible refine (spec_l6In.calls ((rd_T63 l0 x3_1).f1) 1 3 true _ A9.out).mono ?_); rintro e w' ⟨rfl, ⟨nd, rfl⟩⟩; (try exact pD)) | (go_at_call 97; (with_reducible refine (spec_l3Set.calls ((rd_T63 l0 x3_1).f2) true _ A11.out).mono ?_); rintro e w' ⟨rfl, ⟨nd, rfl⟩⟩; (try exact pD)) | (go_at_call 72; (with_reducible refine (spec_l6In.calls ((rd_T63 l0 x3_1).f3) 1 5 true _ A13.out).mono ?_); rintro e w' ⟨rfl, ⟨nd, rfl⟩⟩; (try exact pD)) | (go_at_call 72; (with_reducible refine (spec_l6In.calls ((rd_T63 l0 x3_1).f4) 0 999 true _ A15.out).mono ?_); rintro e w' ⟨rfl, ⟨nd, rfl⟩⟩; (try exact pD)) | (go_at_call 72; (with_reducible refine (spec_l6In.calls ((rd_T63 l0 x3_1).f5) 0 999 t305 _ A17.out).mono ?_); rintro e w' ⟨rfl, ⟨nd, rfl⟩⟩; (try exact pD))))
    go_meet
    case rel => exact ⟨_, (!t305), pF, H', ⟨by have := HK1.out; first | omega | exact Nat.le_refl _⟩, ⟨by (with_reducible repeat (first | refine blk_drewN ?_ _ | refine blk_drew ?_ | refine blk_alloc ?_ _)); refine blk_put (cs := #[.int .i64 ((rd_T63 l0 x3_1).f0), .int .i64 ((rd_T63 l0 x3_1).f1), .int .i64 ((rd_T63 l0 x3_1).f2), .int .i64 ((rd_T63 l0 x3_1).f3), .int .i64 ((rd_T63 l0 x3_1).f4), .int .i64 0]) ?_ 5 _ rfl; (with_reducible repeat (first | refine blk_drewN ?_ _ | refine blk_drew ?_ | refine blk_alloc ?_ _)); refine blk_put (cs := #[.int .i64 ((rd_T63 l0 x3_1).f0), .int .i64 ((rd_T63 l0 x3_1).f1), .int .i64 ((rd_T63 l0 x3_1).f2), .int .i64 ((rd_T63 l0 x3_1).f3), .int .i64 0, .int .i64 0]) ?_ 4 _ rfl; (with_reducible repeat (first | refine blk_drewN ?_ _ | refine blk_drew ?_ | refine blk_alloc ?_ _)); refine blk_put (cs := #[.int .i64 ((rd_T63 l0 x3_1).f0), .int .i64 ((rd_T63 l0 x3_1).f1), .int .i64 ((rd_T63 l0 x3_1).f2), .int .i64 0, .int .i64 0, .int .i64 0]) ?_ 3 _ rfl; (with_reducible repeat (first | refine blk_drewN ?_ _ | refine blk_drew ?_ | refine blk_alloc ?_ _)); refine blk_put (cs := #[.int .i64 ((rd_T63 l0 x3_1).f0), .int .i64 ((rd_T63 l0 x3_1).f1), .int .i64 0, .int .i64 0, .int .i64 0, .int .i64 0]) ?_ 2 _ rfl; (with_reducible repeat (first | refine blk_drewN ?_ _ | refine blk_drew ?_ | refine blk_alloc ?_ _)); refine blk_put (cs := #[.int .i64 ((rd_T63 l0 x3_1).f0), .int .i64 0, .int .i64 0, .int .i64 0, .int .i64 0, .int .i64 0]) ?_ 1 _ rfl; (with_reducible repeat (first | refine blk_drewN ?_ _ | refine blk_drew ?_ | refine blk_alloc ?_ _)); refine blk_put (cs := #[.int .i64 0, .int .i64 0, .int .i64 0, .int .i64 0, .int .i64 0, .int .i64 0]) ?_ 0 _ rfl; (with_reducible repeat (first | refine blk_drewN ?_ _ | refine blk_drew ?_ | refine blk_alloc ?_ _)); exact BK299.out⟩, ⟨pG GE299⟩⟩
   case rest =>
    clear HC4
    try clear c1
    try clear c2
    try clear c2b0
    try clear p2
    try clear q2
    try clear hx2
    try clear c3
    try clear c3b0
    try clear c8
    try clear c10
    try clear c12
    try clear c14
    try clear c16
    try clear hcz18_0
    try clear hcz18_1
    try clear hcz18_2
    try clear hcz18_3
    try clear hcz18_4
    try clear hcz18_5
    try clear hcz19_0
    try clear hcz19_1
    try clear hcz19_2
    try clear hcz19_3
    try clear hcz19_4
    try clear hcz19_5
    try clear hcz20_0
    try clear hcz20_1
    try clear hcz20_2
    try clear hcz20_3
    try clear hcz20_4
    try clear hcz20_5
    try clear hcz21_0
    try clear hcz21_1
    try clear hcz21_2
    try clear hcz21_3
    try clear hcz21_4
    try clear hcz21_5
    try clear hcz22_0
    try clear hcz22_1
    try clear hcz22_2
    try clear hcz22_3
    try clear hcz22_4
    try clear hcz22_5
    try clear hcz23_0
    try clear hcz23_1
    try clear hcz23_2
    try clear hcz23_3
    try clear hcz23_4
    try clear hcz23_5
    try clear hcz6_0
    try clear hcz6_1
    try clear hcz6_2
    try clear hcz6_3
    try clear hcz6_4
    try clear hcz6_5
    try clear hfz18_0
    try clear hfz18_1
    try clear hfz18_2
    try clear hfz18_3
    try clear hfz18_4
    try clear hfz18_5
    try clear hfz19_0
    try clear hfz19_1
    try clear hfz19_2
    try clear hfz19_3
    try clear hfz19_4
    try clear hfz19_5
    try clear hfz20_0
    try clear hfz20_1
    try clear hfz20_2
    try clear hfz20_3
    try clear hfz20_4
    try clear hfz20_5
    try clear hfz21_0
    try clear hfz21_1
    try clear hfz21_2
    try clear hfz21_3
    try clear hfz21_4
    try clear hfz21_5
    try clear hfz22_0
    try clear hfz22_1
    try clear hfz22_2
    try clear hfz22_3
    try clear hfz22_4
    try clear hfz22_5
    try clear hfz23_0
    try clear hfz23_1
    try clear hfz23_2
    try clear hfz23_3
    try clear hfz23_4
    try clear hfz23_5
    try clear hfz6_0
    try clear hfz6_1
    try clear hfz6_2
    try clear hfz6_3
    try clear hfz6_4
    try clear hfz6_5
    try clear hx298_0
    try clear hx298_1
    try clear hx298_2
    try clear hx298_3
    try clear hx298_4
    try clear hx298_5
    try clear p298
    try clear q298
    obtain ⟨kq, x48_3, rfl, HA, HJ3, BK299, HB⟩ := hcut
    cases kq with
    | zero => exact absurd HA.out (by simp [spec_FoodsValid.j1])
    | succ kj3 =>
     have H := HA.out
     clear HA
     simp only [spec_FoodsValid.j1] at H
     by_cases c24 : x48_3 = true
     ·subst c24
      have H1 : (some false) = some r := by rw [if_pos rfl] at H; exact H
      clear H
      have H := H1
      clear H1
      obtain rfl := Option.some.inj H
      go_wp2
      repeat (go_quiet (fail); try go_wp2)
      go_ret
      exact ⟨pE, pG GE299⟩
     replace c24 := Bool.eq_false_iff.mpr c24
     subst c24
     have H1 : (if x3_1 > 0 then (if 0 ≤ (wrap64 (x3_1 - 1)) then (if (wrap64 (x3_1 - 1)) < (l0.length : Int) then (if ((rd_T63 l0 (wrap64 (x3_1 - 1))).f0) ≥ ((rd_T63 l0 x3_1).f0) then (some false) else (spec_FoodsValid.l0 kj3 l0 (wrap64 (x3_1 + 1)))) else (none)) else (none)) else (spec_FoodsValid.l0 kj3 l0 (wrap64 (x3_1 + 1)))) = some r := by rw [if_neg (show ¬ (false = true) by decide)] at H; exact H
     clear H
     have H := H1
     clear H1
     rcases (Classical.em (x3_1 > 0)).symm with c25 | c25
     ·rw [if_neg c25] at H
      have c25b0 : decide (0 < x3_1) = false := decide_eq_false c25
      clear c25
      have H' := Aside0.mk H
      clear H
      go_wp2
      repeat (go_quiet (fail); try go_wp2)
      go_roundg kj3
      case measure => have := HK1.out; have := HJ3.out; omega
      case rel => exact ⟨(wrap64 (x3_1 + 1)), pF, H', ⟨by have := HK1.out; have := HJ3.out; omega⟩, ⟨pG GE299⟩⟩
     rw [if_pos c25] at H
     have c25b0 : decide (0 < x3_1) = true := decide_eq_true c25
     clear c25
     obtain ⟨ji26, hji26⟩ : ∃ j_ : Int, (wrap64 (x3_1 - 1)) = j_ := ⟨_, rfl⟩
     replace H : (if 0 ≤ (ji26) then (if (ji26) < (l0.length : Int) then (if ((rd_T63 l0 (ji26)).f0) ≥ ((rd_T63 l0 x3_1).f0) then (some false) else (spec_FoodsValid.l0 kj3 l0 (wrap64 (x3_1 + 1)))) else (none)) else (none)) = some r := by first | (rw [hji26] at H; exact H) | (simp only [hji26] at H ⊢; exact H)
     have hji26w : (IntKind.i64.wrap (x3_1 - 1)) = ji26 := (i64_w _).trans hji26
     rcases (Classical.em (0 ≤ (ji26))).symm with c27 | c27
     ·rw [if_neg c27] at H
      exact absurd H (by simp)
     rw [if_pos c27] at H
     have c27b0 : decide (0 ≤ (ji26)) = true := decide_eq_true c27
     clear c27
     rcases (Classical.em ((ji26) < (l0.length : Int))).symm with c28 | c28
     ·rw [if_neg c28] at H
      exact absurd H (by simp)
     rw [if_pos c28] at H
     have c28b0 : decide ((ji26) < (l0.length : Int)) = true := decide_eq_true c28
     clear c28
     by_cases c29 : ((rd_T63 l0 (ji26)).f0) ≥ ((rd_T63 l0 x3_1).f0)
     ·rw [if_pos c29] at H
      have c29b0 : decide (((rd_T63 l0 x3_1).f0) ≤ ((rd_T63 l0 (ji26)).f0)) = true := decide_eq_true c29
      clear c29
      obtain rfl := Option.some.inj H
      have p306 : 0 ≤ ((ji26) : Int) := of_decide_eq_true pA
      have q306 : (ji26) < (l0.length : Int) := of_decide_eq_true pA
      obtain ⟨ad306, e306, hx306_0, hx306_1, hx306_2, hx306_3, hx306_4, hx306_5⟩ := at_T63 HR0.out (ji26) p306 q306
      obtain rfl : ad298 = ad306 := (by injection e306)
      replace hx306_0 := (HB.out.cell (World.block_lt_of_cell? w _ hx306_0)).trans hx306_0
      replace hx306_1 := (HB.out.cell (World.block_lt_of_cell? w _ hx306_1)).trans hx306_1
      replace hx306_2 := (HB.out.cell (World.block_lt_of_cell? w _ hx306_2)).trans hx306_2
      replace hx306_3 := (HB.out.cell (World.block_lt_of_cell? w _ hx306_3)).trans hx306_3
      replace hx306_4 := (HB.out.cell (World.block_lt_of_cell? w _ hx306_4)).trans hx306_4
      replace hx306_5 := (HB.out.cell (World.block_lt_of_cell? w _ hx306_5)).trans hx306_5
      replace p306 := eq_true p306
      replace q306 := eq_true q306
      have hcz30_0 : wc.cell? ⟨gb299, 0, none⟩ = some (.int .i64 ((rd_T63 l0 x3_1).f0)) := (blk_cell BK299.out 0).trans rfl
      have hcz30_1 : wc.cell? ⟨gb299, 1, none⟩ = some (.int .i64 ((rd_T63 l0 x3_1).f1)) := (blk_cell BK299.out 1).trans rfl
      have hcz30_2 : wc.cell? ⟨gb299, 2, none⟩ = some (.int .i64 ((rd_T63 l0 x3_1).f2)) := (blk_cell BK299.out 2).trans rfl
      have hcz30_3 : wc.cell? ⟨gb299, 3, none⟩ = some (.int .i64 ((rd_T63 l0 x3_1).f3)) := (blk_cell BK299.out 3).trans rfl
      have hcz30_4 : wc.cell? ⟨gb299, 4, none⟩ = some (.int .i64 ((rd_T63 l0 x3_1).f4)) := (blk_cell BK299.out 4).trans rfl
      have hcz30_5 : wc.cell? ⟨gb299, 5, none⟩ = some (.int .i64 ((rd_T63 l0 x3_1).f5)) := (blk_cell BK299.out 5).trans rfl
      have hfz30_0 := blk_frozen BK299.out 0
      have hfz30_1 := blk_frozen BK299.out 1
      have hfz30_2 := blk_frozen BK299.out 2
      have hfz30_3 := blk_frozen BK299.out 3
      have hfz30_4 := blk_frozen BK299.out 4
      have hfz30_5 := blk_frozen BK299.out 5
      go_wp2
      repeat (go_quiet (fail); try go_wp2)
      go_ret
      exact ⟨by first | rfl | (simp [errW_none, errW_some] <;> rfl) | (simp only [← hji26]; first | rfl | (simp [errW_none, errW_some] <;> rfl)) | (simp [*, errW_none, errW_some] <;> rfl), pG GE299⟩
     rw [if_neg c29] at H
     have c29b0 : decide (((rd_T63 l0 x3_1).f0) ≤ ((rd_T63 l0 (ji26)).f0)) = false := decide_eq_false c29
     clear c29
     have H' := Aside0.mk H
     clear H
     have p306 : 0 ≤ ((ji26) : Int) := of_decide_eq_true pA
     have q306 : (ji26) < (l0.length : Int) := of_decide_eq_true pA
     obtain ⟨ad306, e306, hx306_0, hx306_1, hx306_2, hx306_3, hx306_4, hx306_5⟩ := at_T63 HR0.out (ji26) p306 q306
     obtain rfl : ad298 = ad306 := (by injection e306)
     replace hx306_0 := (HB.out.cell (World.block_lt_of_cell? w _ hx306_0)).trans hx306_0
     replace hx306_1 := (HB.out.cell (World.block_lt_of_cell? w _ hx306_1)).trans hx306_1
     replace hx306_2 := (HB.out.cell (World.block_lt_of_cell? w _ hx306_2)).trans hx306_2
     replace hx306_3 := (HB.out.cell (World.block_lt_of_cell? w _ hx306_3)).trans hx306_3
     replace hx306_4 := (HB.out.cell (World.block_lt_of_cell? w _ hx306_4)).trans hx306_4
     replace hx306_5 := (HB.out.cell (World.block_lt_of_cell? w _ hx306_5)).trans hx306_5
     replace p306 := eq_true p306
     replace q306 := eq_true q306
     have hcz31_0 : wc.cell? ⟨gb299, 0, none⟩ = some (.int .i64 ((rd_T63 l0 x3_1).f0)) := (blk_cell BK299.out 0).trans rfl
     have hcz31_1 : wc.cell? ⟨gb299, 1, none⟩ = some (.int .i64 ((rd_T63 l0 x3_1).f1)) := (blk_cell BK299.out 1).trans rfl
     have hcz31_2 : wc.cell? ⟨gb299, 2, none⟩ = some (.int .i64 ((rd_T63 l0 x3_1).f2)) := (blk_cell BK299.out 2).trans rfl
     have hcz31_3 : wc.cell? ⟨gb299, 3, none⟩ = some (.int .i64 ((rd_T63 l0 x3_1).f3)) := (blk_cell BK299.out 3).trans rfl
     have hcz31_4 : wc.cell? ⟨gb299, 4, none⟩ = some (.int .i64 ((rd_T63 l0 x3_1).f4)) := (blk_cell BK299.out 4).trans rfl
     have hcz31_5 : wc.cell? ⟨gb299, 5, none⟩ = some (.int .i64 ((rd_T63 l0 x3_1).f5)) := (blk_cell BK299.out 5).trans rfl
     have hfz31_0 := blk_frozen BK299.out 0
     have hfz31_1 := blk_frozen BK299.out 1
     have hfz31_2 := blk_frozen BK299.out 2
     have hfz31_3 := blk_frozen BK299.out 3
     have hfz31_4 := blk_frozen BK299.out 4
     have hfz31_5 := blk_frozen BK299.out 5
     go_wp2
     repeat (go_quiet (fail); try go_wp2)
     go_roundg kj3
     case measure => have := HK1.out; have := HJ3.out; omega
     case rel => exact ⟨(wrap64 (x3_1 + 1)), pF, H', ⟨by have := HK1.out; have := HJ3.out; omega⟩, ⟨pG GE299⟩⟩
/-! ### spec_l5Find: function 64 -/
def spec_l5Find.l0 : Nat → List (S63) → Int → Int → Option (Int)
 | 0, _, _, _ => none
 | k + 1, x0, x1, x5 => if x5 < (x0.length : Int) then (if 0 ≤ x5 then (if ((rd_T63 x0 x5).f0) = x1 then (some x5) else (spec_l5Find.l0 k x0 x1 (wrap64 (x5 + 1)))) else (none)) else (some (-1))
def spec_l5Find.f (k : Nat) (l0 : List (S63)) (a1 : Int) : Option (Int) := spec_l5Find.l0 k l0 a1 0
theorem spec_l5Find.mono_l : ∀ k, (∀ y0 y1 y2, LeO (spec_l5Find.l0 k y0 y1 y2) (spec_l5Find.l0 (k + 1) y0 y1 y2))
 | 0 => fun _ _ _ r h => by simp [spec_l5Find.l0] at h
 | k + 1 => by
  have ih0 := spec_l5Find.mono_l k
  ·intro y0 y1 y2
   unfold spec_l5Find.l0
   repeat' first
   | (with_reducible exact ih0 _ _ _)
   | (with_reducible exact LeO.refl _)
   | (with_reducible exact LeO.none _)
   | (with_reducible refine LeO.ite ?_ ?_)
   | (with_reducible refine LeO.bind ?_ (fun _ => ?_))
   | exact ih0 _ _ _
   | exact LeO.none _
   | refine LeO.ite ?_ ?_
   | refine LeO.bind ?_ (fun _ => ?_)
theorem spec_l5Find.mono : ∀ a0 a1 k, LeO (spec_l5Find.f k a0 a1) (spec_l5Find.f (k + 1) a0 a1) := by
 intro a0 a1 k
 have ih0 := spec_l5Find.mono_l k
 unfold spec_l5Find.f
 repeat' first
   | (with_reducible exact ih0 _ _ _)
   | (with_reducible exact LeO.refl _)
   | (with_reducible exact LeO.none _)
   | (with_reducible refine LeO.ite ?_ ?_)
   | (with_reducible refine LeO.bind ?_ (fun _ => ?_))
   | exact ih0 _ _ _
   | exact LeO.none _
   | refine LeO.ite ?_ ?_
   | refine LeO.bind ?_ (fun _ => ?_)
set_option maxHeartbeats 8000000 in
set_option maxRecDepth 100000 in
theorem spec_l5Find.calls (k : Nat) (A0 : Option Addr) (c0 : Nat) (l0 : List (S63)) (a1 : Int) (r : Int) (w : World) (hr0 : Kd.C k63 w A0 l0.length l0) (hc0 : l0.length ≤ c0) (h : spec_l5Find.f k l0 a1 = some r) :
  Calls Try.prog 64 #[.slice A0 l0.length c0, .int .i64 a1] w fun e w' => e = .returned (.int .i64 r) ∧ Drawn0 w w' := by
 have HR0 := Aside0.mk hr0
 have HC0 := Aside0.mk hc0
 clear hr0 hc0
 have H : (spec_l5Find.l0 k l0 a1 0) = some r := h
 clear h
 have H' := Aside0.mk H
 clear H
 go_enter Try.func64, Try.ntmps64
 go_wp2
 go_loopg [5] k (fun kq v5 w' => ∃ (x5_1 : Int), v5 = .int .i64 x5_1 ∧ Aside0 (spec_l5Find.l0 kq l0 a1 x5_1 = some r) ∧ Aside0 (kq ≤ k) ∧ Drawn0 w w')
 case atStart => exact ⟨(0), pF, H', ⟨Nat.le_refl _⟩, by repeat (first | exact Drawn0.refl _ | apply Drawn0.step)⟩
 case round =>
  clear H'
  try clear p2
  obtain ⟨x5_1, rfl, HA, HK1, ⟨m1, rfl⟩⟩ := hrel
  cases gk with
  | zero => exact absurd HA.out (by simp [spec_l5Find.l0])
  | succ k1 =>
   have H := HA.out
   clear HA
   simp only [spec_l5Find.l0] at H
   rcases (Classical.em (x5_1 < (l0.length : Int))).symm with c3 | c3
   ·rw [if_neg c3] at H
    have c3b0 : decide (x5_1 < (l0.length : Int)) = false := decide_eq_false c3
    clear c3
    obtain rfl := Option.some.inj H
    go_wp2
    go_ret
    exact ⟨pF, by repeat (first | exact Drawn0.refl _ | apply Drawn0.step)⟩

   rw [if_pos c3] at H
   have c3b0 : decide (x5_1 < (l0.length : Int)) = true := decide_eq_true c3
   clear c3
   rcases (Classical.em (0 ≤ x5_1)).symm with c4 | c4
   ·rw [if_neg c4] at H
    exact absurd H (by simp)
   rw [if_pos c4] at H
   have c4b0 : decide (0 ≤ x5_1) = true := decide_eq_true c4
   clear c4
   by_cases c5 : ((rd_T63 l0 x5_1).f0) = a1
   ·rw [if_pos c5] at H
    have c5b0 : (((rd_T63 l0 x5_1).f0) == a1) = true := beq_iff_eq.mpr c5
    have c5b1 : (((rd_T63 l0 x5_1).f0) != a1) = false := bne_eq_false_iff_eq.mpr c5
    clear c5
    obtain rfl := Option.some.inj H
    have p307 : 0 ≤ (x5_1 : Int) := of_decide_eq_true pA
    have q307 : x5_1 < (l0.length : Int) := of_decide_eq_true pA
    obtain ⟨ad307, e307, hx307_0, hx307_1, hx307_2, hx307_3, hx307_4, hx307_5⟩ := at_T63 HR0.out x5_1 p307 q307
    cases e307
    replace p307 := eq_true p307
    replace q307 := eq_true q307
    go_wp2
    go_ret
    exact ⟨pF, by repeat (first | exact Drawn0.refl _ | apply Drawn0.step)⟩
   rw [if_neg c5] at H
   have c5b0 : (((rd_T63 l0 x5_1).f0) == a1) = false := beq_eq_false_iff_ne.mpr c5
   have c5b1 : (((rd_T63 l0 x5_1).f0) != a1) = true := bne_iff_ne.mpr c5
   have H' := Aside0.mk H
   clear H
   have p307 : 0 ≤ (x5_1 : Int) := of_decide_eq_true pA
   have q307 : x5_1 < (l0.length : Int) := of_decide_eq_true pA
   obtain ⟨ad307, e307, hx307_0, hx307_1, hx307_2, hx307_3, hx307_4, hx307_5⟩ := at_T63 HR0.out x5_1 p307 q307
   cases e307
   replace p307 := eq_true p307
   replace q307 := eq_true q307
   go_wp2
   go_roundg k1
   case measure => have := HK1.out; omega
   case rel => exact ⟨(wrap64 (x5_1 + 1)), pF, H', ⟨by have := HK1.out; omega⟩, by repeat (first | exact Drawn0.refl _ | apply Drawn0.step)⟩
/-! ### spec_l11Part: function 83 -/
def spec_l11Part.f (k : Nat) (l0 : List (S29)) (l1 : List (S63)) (a2_0 : Int) (a2_1 : Int) (a2_2 : Int) : Option (Bool) := if a2_1 = 0 then ((spec_l5Find.f k l1 a2_0).bind fun t309 => (if t309 ≥ 0 then ((spec_l6In.f a2_2 1 999).bind fun t310 => (some t310)) else (some false))) else (if a2_0 = 0 then ((spec_l11Find.f k l0 a2_1).bind fun t311 => (if t311 ≥ 0 then ((spec_l6In.f a2_2 1 9).bind fun t312 => (some t312)) else (some false))) else (some false))
theorem spec_l11Part.mono : ∀ a0 a1 a2 a3 a4 k, LeO (spec_l11Part.f k a0 a1 a2 a3 a4) (spec_l11Part.f (k + 1) a0 a1 a2 a3 a4) := by
 intro a0 a1 a2 a3 a4 k
 unfold spec_l11Part.f
 repeat' first
   | (with_reducible exact spec_l11Find.mono _ _ _)
   | (with_reducible exact spec_l5Find.mono _ _ _)
   | (with_reducible exact LeO.refl _)
   | (with_reducible exact LeO.none _)
   | (with_reducible refine LeO.ite ?_ ?_)
   | (with_reducible refine LeO.bind ?_ (fun _ => ?_))
   | exact spec_l11Find.mono _ _ _
   | exact spec_l5Find.mono _ _ _
   | exact LeO.none _
   | refine LeO.ite ?_ ?_
   | refine LeO.bind ?_ (fun _ => ?_)
set_option maxHeartbeats 8000000 in
set_option maxRecDepth 100000 in
theorem spec_l11Part.calls (k : Nat) (A0 : Option Addr) (c0 : Nat) (l0 : List (S29)) (A1 : Option Addr) (c1 : Nat) (l1 : List (S63)) (a2_0 : Int) (a2_1 : Int) (a2_2 : Int) (r : Bool) (w : World) (hr0 : Kd.C k29 w A0 l0.length l0) (hc0 : l0.length ≤ c0) (hr1 : Kd.C k63 w A1 l1.length l1) (hc1 : l1.length ≤ c1) (h : spec_l11Part.f k l0 l1 a2_0 a2_1 a2_2 = some r) :
  Calls Try.prog 83 #[.slice A0 l0.length c0, .slice A1 l1.length c1, .agg #[.int .i64 a2_0, .int .i64 a2_1, .int .i64 a2_2]] w fun e w' => e = .returned (.bool r) ∧ Below w.heap.size w w' := by
 have hu55 := Try.underlying55
 have HR0 := Aside0.mk hr0
 have HC0 := Aside0.mk hc0
 clear hr0 hc0
 have HR1 := Aside0.mk hr1
 have HC1 := Aside0.mk hc1
 clear hr1 hc1
 have HB := Aside0.mk (Below.refl w.heap.size w)
 have H : (if a2_1 = 0 then ((spec_l5Find.f k l1 a2_0).bind fun t309 => (if t309 ≥ 0 then ((spec_l6In.f a2_2 1 999).bind fun t310 => (some t310)) else (some false))) else (if a2_0 = 0 then ((spec_l11Find.f k l0 a2_1).bind fun t311 => (if t311 ≥ 0 then ((spec_l6In.f a2_2 1 9).bind fun t312 => (some t312)) else (some false))) else (some false))) = some r := h
 clear h
 by_cases c4 : a2_1 = 0
 ·rw [if_pos c4] at H
  have c4b0 : (a2_1 == 0) = true := beq_iff_eq.mpr c4
  have c4b1 : (a2_1 != 0) = false := bne_eq_false_iff_eq.mpr c4
  clear c4
  replace H := Option.bind_eq_some_iff.mp H
  obtain ⟨t309, A50, H⟩ := H
  replace H : (if t309 ≥ 0 then ((spec_l6In.f a2_2 1 999).bind fun t310 => (some t310)) else (some false)) = some r := H
  have A5 := Aside0.mk A50
  clear A50
  rcases (Classical.em (t309 ≥ 0)).symm with c6 | c6
  ·rw [if_neg c6] at H
   have c6b0 : decide (0 ≤ t309) = false := decide_eq_false c6
   clear c6
   obtain rfl := Option.some.inj H
   go_enter Try.func83, Try.ntmps83
   go_wp2_with (first | ((with_reducible refine gate_dst (N := 5) rfl ?_); refine box_event ?hg (N := 5) ?hd (cs := #[.int .i64 a2_0, .int .i64 a2_1, .int .i64 a2_2]) (t := 55) ?hr ?_; (case hd => rfl); (case hg => rfl); (case hr => first | (go_simp; done) | (go_simp; rfl)); intro gb308 hg w10 hbox hb; have n0_ := Aside0.mk (below_step pB hb); have n1_ := Aside0.mk (hbox); have n2_ := Aside0.mk ((by rw [hg]; exact (below_size pB) : w.heap.size ≤ gb308)); have n3_ := Aside0.mk ((by rw [hg]; exact (below_size pB) : w.heap.size ≤ gb308)); clear HB; have HB := n0_; have BK308 := n1_; have GW308 := n2_; have GE308 := n3_; clear n0_ n1_ n2_ n3_; clear hb hbox hg; have hcz11_0 : w10.cell? ⟨gb308, 0, none⟩ = some (.int .i64 a2_0) := (blk_cell BK308.out 0).trans rfl; have hcz11_1 : w10.cell? ⟨gb308, 1, none⟩ = some (.int .i64 a2_1) := (blk_cell BK308.out 1).trans rfl; have hcz11_2 : w10.cell? ⟨gb308, 2, none⟩ = some (.int .i64 a2_2) := (blk_cell BK308.out 2).trans rfl; have hfz11_0 := blk_frozen BK308.out 0; have hfz11_1 := blk_frozen BK308.out 1; have hfz11_2 := blk_frozen BK308.out 2) | ((with_reducible refine gate_callee (f := 64) rfl ?_); refine goesL_ (some 13) rfl rfl Try.func64 pL rfl #[.slice A1 l1.length c1, .int .i64 a2_0] rfl pM ?_; (with_reducible refine (spec_l5Find.calls k _ _ l1 a2_0 t309 _ ?side1 ?side2 A5.out).mono ?_); (case side1 => exact pS ((Kd.C_below HR1.out HB.out))); (case side2 => exact HC1.out); rintro e w' ⟨rfl, ⟨nd, rfl⟩⟩; refine ⟨_, rfl, ?_⟩))
   go_ret
   exact ⟨pE, pG GE308⟩
  rw [if_pos c6] at H
  have c6b0 : decide (0 ≤ t309) = true := decide_eq_true c6
  clear c6
  replace H := Option.bind_eq_some_iff.mp H
  obtain ⟨t310, A70, H⟩ := H
  replace H : (some t310) = some r := H
  have A7 := Aside0.mk A70
  clear A70
  obtain rfl := Option.some.inj H
  go_enter Try.func83, Try.ntmps83
  go_wp2_with (first | ((with_reducible refine gate_dst (N := 5) rfl ?_); refine box_event ?hg (N := 5) ?hd (cs := #[.int .i64 a2_0, .int .i64 a2_1, .int .i64 a2_2]) (t := 55) ?hr ?_; (case hd => rfl); (case hg => rfl); (case hr => first | (go_simp; done) | (go_simp; rfl)); intro gb308 hg w8 hbox hb; have n0_ := Aside0.mk (below_step pB hb); have n1_ := Aside0.mk (hbox); have n2_ := Aside0.mk ((by rw [hg]; exact (below_size pB) : w.heap.size ≤ gb308)); have n3_ := Aside0.mk ((by rw [hg]; exact (below_size pB) : w.heap.size ≤ gb308)); clear HB; have HB := n0_; have BK308 := n1_; have GW308 := n2_; have GE308 := n3_; clear n0_ n1_ n2_ n3_; clear hb hbox hg; have hcz9_0 : w8.cell? ⟨gb308, 0, none⟩ = some (.int .i64 a2_0) := (blk_cell BK308.out 0).trans rfl; have hcz9_1 : w8.cell? ⟨gb308, 1, none⟩ = some (.int .i64 a2_1) := (blk_cell BK308.out 1).trans rfl; have hcz9_2 : w8.cell? ⟨gb308, 2, none⟩ = some (.int .i64 a2_2) := (blk_cell BK308.out 2).trans rfl; have hfz9_0 := blk_frozen BK308.out 0; have hfz9_1 := blk_frozen BK308.out 1; have hfz9_2 := blk_frozen BK308.out 2) | ((with_reducible refine gate_callee (f := 64) rfl ?_); refine goesL_ (some 13) rfl rfl Try.func64 pL rfl #[.slice A1 l1.length c1, .int .i64 a2_0] rfl pM ?_; (with_reducible refine (spec_l5Find.calls k _ _ l1 a2_0 t309 _ ?side1 ?side2 A5.out).mono ?_); (case side1 => exact pS ((Kd.C_below HR1.out HB.out))); (case side2 => exact HC1.out); rintro e w' ⟨rfl, ⟨nd, rfl⟩⟩; refine ⟨_, rfl, ?_⟩) | (go_at_call 72; (with_reducible refine (spec_l6In.calls a2_2 1 999 t310 _ A7.out).mono ?_); rintro e w' ⟨rfl, ⟨nd, rfl⟩⟩))
  go_ret
  exact ⟨pE, pG GE308⟩
 rw [if_neg c4] at H
 have c4b0 : (a2_1 == 0) = false := beq_eq_false_iff_ne.mpr c4
 have c4b1 : (a2_1 != 0) = true := bne_iff_ne.mpr c4
 rcases (Classical.em (a2_0 = 0)).symm with c12 | c12
 ·rw [if_neg c12] at H
  have c12b0 : (a2_0 == 0) = false := beq_eq_false_iff_ne.mpr c12
  have c12b1 : (a2_0 != 0) = true := bne_iff_ne.mpr c12
  obtain rfl := Option.some.inj H
  go_enter Try.func83, Try.ntmps83
  go_wp2_with (first | ((with_reducible refine gate_dst (N := 5) rfl ?_); refine box_event ?hg (N := 5) ?hd (cs := #[.int .i64 a2_0, .int .i64 a2_1, .int .i64 a2_2]) (t := 55) ?hr ?_; (case hd => rfl); (case hg => rfl); (case hr => first | (go_simp; done) | (go_simp; rfl)); intro gb308 hg w20 hbox hb; have n0_ := Aside0.mk (below_step pB hb); have n1_ := Aside0.mk (hbox); have n2_ := Aside0.mk ((by rw [hg]; exact (below_size pB) : w.heap.size ≤ gb308)); have n3_ := Aside0.mk ((by rw [hg]; exact (below_size pB) : w.heap.size ≤ gb308)); clear HB; have HB := n0_; have BK308 := n1_; have GW308 := n2_; have GE308 := n3_; clear n0_ n1_ n2_ n3_; clear hb hbox hg; have hcz21_0 : w20.cell? ⟨gb308, 0, none⟩ = some (.int .i64 a2_0) := (blk_cell BK308.out 0).trans rfl; have hcz21_1 : w20.cell? ⟨gb308, 1, none⟩ = some (.int .i64 a2_1) := (blk_cell BK308.out 1).trans rfl; have hcz21_2 : w20.cell? ⟨gb308, 2, none⟩ = some (.int .i64 a2_2) := (blk_cell BK308.out 2).trans rfl; have hfz21_0 := blk_frozen BK308.out 0; have hfz21_1 := blk_frozen BK308.out 1; have hfz21_2 := blk_frozen BK308.out 2))
  go_ret
  exact ⟨pE, pG GE308⟩

 rw [if_pos c12] at H
 have c12b0 : (a2_0 == 0) = true := beq_iff_eq.mpr c12
 have c12b1 : (a2_0 != 0) = false := bne_eq_false_iff_eq.mpr c12
 clear c12
 replace H := Option.bind_eq_some_iff.mp H
 obtain ⟨t311, A130, H⟩ := H
 replace H : (if t311 ≥ 0 then ((spec_l6In.f a2_2 1 9).bind fun t312 => (some t312)) else (some false)) = some r := H
 have A13 := Aside0.mk A130
 clear A130
 rcases (Classical.em (t311 ≥ 0)).symm with c14 | c14
 ·rw [if_neg c14] at H
  have c14b0 : decide (0 ≤ t311) = false := decide_eq_false c14
  clear c14
  obtain rfl := Option.some.inj H
  go_enter Try.func83, Try.ntmps83
  go_wp2_with (first | ((with_reducible refine gate_dst (N := 5) rfl ?_); refine box_event ?hg (N := 5) ?hd (cs := #[.int .i64 a2_0, .int .i64 a2_1, .int .i64 a2_2]) (t := 55) ?hr ?_; (case hd => rfl); (case hg => rfl); (case hr => first | (go_simp; done) | (go_simp; rfl)); intro gb308 hg w18 hbox hb; have n0_ := Aside0.mk (below_step pB hb); have n1_ := Aside0.mk (hbox); have n2_ := Aside0.mk ((by rw [hg]; exact (below_size pB) : w.heap.size ≤ gb308)); have n3_ := Aside0.mk ((by rw [hg]; exact (below_size pB) : w.heap.size ≤ gb308)); clear HB; have HB := n0_; have BK308 := n1_; have GW308 := n2_; have GE308 := n3_; clear n0_ n1_ n2_ n3_; clear hb hbox hg; have hcz19_0 : w18.cell? ⟨gb308, 0, none⟩ = some (.int .i64 a2_0) := (blk_cell BK308.out 0).trans rfl; have hcz19_1 : w18.cell? ⟨gb308, 1, none⟩ = some (.int .i64 a2_1) := (blk_cell BK308.out 1).trans rfl; have hcz19_2 : w18.cell? ⟨gb308, 2, none⟩ = some (.int .i64 a2_2) := (blk_cell BK308.out 2).trans rfl; have hfz19_0 := blk_frozen BK308.out 0; have hfz19_1 := blk_frozen BK308.out 1; have hfz19_2 := blk_frozen BK308.out 2) | (go_at_call 58; (with_reducible refine (spec_l11Find.calls k _ _ l0 a2_1 t311 _ ?side1 ?side2 A13.out).mono ?_); (case side1 => exact pS ((Kd.C_below HR0.out HB.out))); (case side2 => exact HC0.out); rintro e w' ⟨rfl, ⟨nd, rfl⟩⟩))
  go_ret
  exact ⟨pE, pG GE308⟩
 rw [if_pos c14] at H
 have c14b0 : decide (0 ≤ t311) = true := decide_eq_true c14
 clear c14
 replace H := Option.bind_eq_some_iff.mp H
 obtain ⟨t312, A150, H⟩ := H
 replace H : (some t312) = some r := H
 have A15 := Aside0.mk A150
 clear A150
 obtain rfl := Option.some.inj H
 go_enter Try.func83, Try.ntmps83
 go_wp2_with (first | ((with_reducible refine gate_dst (N := 5) rfl ?_); refine box_event ?hg (N := 5) ?hd (cs := #[.int .i64 a2_0, .int .i64 a2_1, .int .i64 a2_2]) (t := 55) ?hr ?_; (case hd => rfl); (case hg => rfl); (case hr => first | (go_simp; done) | (go_simp; rfl)); intro gb308 hg w16 hbox hb; have n0_ := Aside0.mk (below_step pB hb); have n1_ := Aside0.mk (hbox); have n2_ := Aside0.mk ((by rw [hg]; exact (below_size pB) : w.heap.size ≤ gb308)); have n3_ := Aside0.mk ((by rw [hg]; exact (below_size pB) : w.heap.size ≤ gb308)); clear HB; have HB := n0_; have BK308 := n1_; have GW308 := n2_; have GE308 := n3_; clear n0_ n1_ n2_ n3_; clear hb hbox hg; have hcz17_0 : w16.cell? ⟨gb308, 0, none⟩ = some (.int .i64 a2_0) := (blk_cell BK308.out 0).trans rfl; have hcz17_1 : w16.cell? ⟨gb308, 1, none⟩ = some (.int .i64 a2_1) := (blk_cell BK308.out 1).trans rfl; have hcz17_2 : w16.cell? ⟨gb308, 2, none⟩ = some (.int .i64 a2_2) := (blk_cell BK308.out 2).trans rfl; have hfz17_0 := blk_frozen BK308.out 0; have hfz17_1 := blk_frozen BK308.out 1; have hfz17_2 := blk_frozen BK308.out 2) | (go_at_call 58; (with_reducible refine (spec_l11Find.calls k _ _ l0 a2_1 t311 _ ?side1 ?side2 A13.out).mono ?_); (case side1 => exact pS ((Kd.C_below HR0.out HB.out))); (case side2 => exact HC0.out); rintro e w' ⟨rfl, ⟨nd, rfl⟩⟩) | (go_at_call 72; (with_reducible refine (spec_l6In.calls a2_2 1 9 t312 _ A15.out).mono ?_); rintro e w' ⟨rfl, ⟨nd, rfl⟩⟩))
 go_ret
 exact ⟨pE, pG GE308⟩
/-! ### spec_DishesValid: function 41 -/
mutual
def spec_DishesValid.j0 : Nat → List (S29) → List (S63) → Bool → Option (Bool)
 | 0, _, _, _ => none
 | k + 1, x0, x1, x15 => if x15 = true then (some false) else (spec_DishesValid.l0 k x0 x1 0)
def spec_DishesValid.l0 : Nat → List (S29) → List (S63) → Int → Option (Bool)
 | 0, _, _, _ => none
 | k + 1, x0, x1, x5 => if x5 < (x0.length : Int) then (if 0 ≤ x5 then ((spec_l6In.f ((rd_T29 x0 x5).f0) 1 20).bind fun t316 => (if t316 = true then ((spec_l6In.f ((rd_T29 x0 x5).f1) 1 12).bind fun t317 => (if t317 = true then ((spec_l6In.f (((rd_T29 x0 x5).f2).length : Int) 1 5).bind fun t318 => (if t318 = true then (if x5 > 0 then (if 0 ≤ (wrap64 (x5 - 1)) then (if (wrap64 (x5 - 1)) < (x0.length : Int) then (spec_DishesValid.j2 k x0 x1 x5 (decide (((rd_T29 x0 (wrap64 (x5 - 1))).f0) ≥ ((rd_T29 x0 x5).f0))) ((rd_T29 x0 x5).f0) ((rd_T29 x0 x5).f1) ((rd_T29 x0 x5).f2)) else (none)) else (none)) else (spec_DishesValid.j2 k x0 x1 x5 false ((rd_T29 x0 x5).f0) ((rd_T29 x0 x5).f1) ((rd_T29 x0 x5).f2))) else (spec_DishesValid.j2 k x0 x1 x5 true ((rd_T29 x0 x5).f0) ((rd_T29 x0 x5).f1) ((rd_T29 x0 x5).f2)))) else (spec_DishesValid.j2 k x0 x1 x5 true ((rd_T29 x0 x5).f0) ((rd_T29 x0 x5).f1) ((rd_T29 x0 x5).f2)))) else (spec_DishesValid.j2 k x0 x1 x5 true ((rd_T29 x0 x5).f0) ((rd_T29 x0 x5).f1) ((rd_T29 x0 x5).f2)))) else (none)) else (some true)
def spec_DishesValid.j2 : Nat → List (S29) → List (S63) → Int → Bool → Int → Int → List (S55) → Option (Bool)
 | 0, _, _, _, _, _, _, _ => none
 | k + 1, x0, x1, x5, x57, x316000, x316001, x316002 => if x57 = true then (some false) else (spec_DishesValid.l1 k x0 x1 x5 0 x316000 x316001 x316002)
def spec_DishesValid.l1 : Nat → List (S29) → List (S63) → Int → Int → Int → Int → List (S55) → Option (Bool)
 | 0, _, _, _, _, _, _, _ => none
 | k + 1, x0, x1, x5, x7, x316000, x316001, x316002 => if x7 < (x316002.length : Int) then (if 0 ≤ x5 then (if x5 ≤ (x0.length : Int) then (if 0 ≤ x7 then ((spec_l11Part.f k (x0.take (x5 : Int).toNat) x1 ((rd_T55 x316002 x7).f0) ((rd_T55 x316002 x7).f1) ((rd_T55 x316002 x7).f2)).bind fun t325 => (if t325 = true then (spec_DishesValid.l1 k x0 x1 x5 (wrap64 (x7 + 1)) x316000 x316001 x316002) else (some false))) else (none)) else (none)) else (none)) else (spec_DishesValid.l0 k x0 x1 (wrap64 (x5 + 1)))
end
def spec_DishesValid.f (k : Nat) (l0 : List (S29)) (l1 : List (S63)) : Option (Bool) := (spec_FoodsValid.f k l1).bind fun t313 => (if t313 = true then (spec_DishesValid.j0 k l0 l1 (decide ((l0.length : Int) > 4))) else (spec_DishesValid.j0 k l0 l1 true))
theorem spec_DishesValid.mono_l : ∀ k, (∀ y0 y1 y2, LeO (spec_DishesValid.j0 k y0 y1 y2) (spec_DishesValid.j0 (k + 1) y0 y1 y2)) ∧ (∀ y0 y1 y2, LeO (spec_DishesValid.l0 k y0 y1 y2) (spec_DishesValid.l0 (k + 1) y0 y1 y2)) ∧ (∀ y0 y1 y2 y3 y4 y5 y6, LeO (spec_DishesValid.j2 k y0 y1 y2 y3 y4 y5 y6) (spec_DishesValid.j2 (k + 1) y0 y1 y2 y3 y4 y5 y6)) ∧ (∀ y0 y1 y2 y3 y4 y5 y6, LeO (spec_DishesValid.l1 k y0 y1 y2 y3 y4 y5 y6) (spec_DishesValid.l1 (k + 1) y0 y1 y2 y3 y4 y5 y6))
 | 0 => ⟨fun _ _ _ r h => by simp [spec_DishesValid.j0] at h, fun _ _ _ r h => by simp [spec_DishesValid.l0] at h, fun _ _ _ _ _ _ _ r h => by simp [spec_DishesValid.j2] at h, fun _ _ _ _ _ _ _ r h => by simp [spec_DishesValid.l1] at h⟩
 | k + 1 => by
  obtain ⟨ih0, ih1, ih2, ih3⟩ := spec_DishesValid.mono_l k
  refine ⟨?_, ?_, ?_, ?_⟩
  ·intro y0 y1 y2
   unfold spec_DishesValid.j0
   repeat' first
   | (with_reducible exact ih0 _ _ _)
   | (with_reducible exact ih1 _ _ _)
   | (with_reducible exact ih2 _ _ _ _ _ _ _)
   | (with_reducible exact ih3 _ _ _ _ _ _ _)
   | (with_reducible exact spec_FoodsValid.mono _ _)
   | (with_reducible exact spec_l11Part.mono _ _ _ _ _ _)
   | (with_reducible exact LeO.refl _)
   | (with_reducible exact LeO.none _)
   | (with_reducible refine LeO.ite ?_ ?_)
   | (with_reducible refine LeO.bind ?_ (fun _ => ?_))
   | exact ih0 _ _ _
   | exact ih1 _ _ _
   | exact ih2 _ _ _ _ _ _ _
   | exact ih3 _ _ _ _ _ _ _
   | exact spec_FoodsValid.mono _ _
   | exact spec_l11Part.mono _ _ _ _ _ _
   | exact LeO.none _
   | refine LeO.ite ?_ ?_
   | refine LeO.bind ?_ (fun _ => ?_)
  ·intro y0 y1 y2
   unfold spec_DishesValid.l0
   repeat' first
   | (with_reducible exact ih0 _ _ _)
   | (with_reducible exact ih1 _ _ _)
   | (with_reducible exact ih2 _ _ _ _ _ _ _)
   | (with_reducible exact ih3 _ _ _ _ _ _ _)
   | (with_reducible exact spec_FoodsValid.mono _ _)
   | (with_reducible exact spec_l11Part.mono _ _ _ _ _ _)
   | (with_reducible exact LeO.refl _)
   | (with_reducible exact LeO.none _)
   | (with_reducible refine LeO.ite ?_ ?_)
   | (with_reducible refine LeO.bind ?_ (fun _ => ?_))
   | exact ih0 _ _ _
   | exact ih1 _ _ _
   | exact ih2 _ _ _ _ _ _ _
   | exact ih3 _ _ _ _ _ _ _
   | exact spec_FoodsValid.mono _ _
   | exact spec_l11Part.mono _ _ _ _ _ _
   | exact LeO.none _
   | refine LeO.ite ?_ ?_
   | refine LeO.bind ?_ (fun _ => ?_)
  ·intro y0 y1 y2 y3 y4 y5 y6
   unfold spec_DishesValid.j2
   repeat' first
   | (with_reducible exact ih0 _ _ _)
   | (with_reducible exact ih1 _ _ _)
   | (with_reducible exact ih2 _ _ _ _ _ _ _)
   | (with_reducible exact ih3 _ _ _ _ _ _ _)
   | (with_reducible exact spec_FoodsValid.mono _ _)
   | (with_reducible exact spec_l11Part.mono _ _ _ _ _ _)
   | (with_reducible exact LeO.refl _)
   | (with_reducible exact LeO.none _)
   | (with_reducible refine LeO.ite ?_ ?_)
   | (with_reducible refine LeO.bind ?_ (fun _ => ?_))
   | exact ih0 _ _ _
   | exact ih1 _ _ _
   | exact ih2 _ _ _ _ _ _ _
   | exact ih3 _ _ _ _ _ _ _
   | exact spec_FoodsValid.mono _ _
   | exact spec_l11Part.mono _ _ _ _ _ _
   | exact LeO.none _
   | refine LeO.ite ?_ ?_
   | refine LeO.bind ?_ (fun _ => ?_)
  ·intro y0 y1 y2 y3 y4 y5 y6
   unfold spec_DishesValid.l1
   repeat' first
   | (with_reducible exact ih0 _ _ _)
   | (with_reducible exact ih1 _ _ _)
   | (with_reducible exact ih2 _ _ _ _ _ _ _)
   | (with_reducible exact ih3 _ _ _ _ _ _ _)
   | (with_reducible exact spec_FoodsValid.mono _ _)
   | (with_reducible exact spec_l11Part.mono _ _ _ _ _ _)
   | (with_reducible exact LeO.refl _)
   | (with_reducible exact LeO.none _)
   | (with_reducible refine LeO.ite ?_ ?_)
   | (with_reducible refine LeO.bind ?_ (fun _ => ?_))
   | exact ih0 _ _ _
   | exact ih1 _ _ _
   | exact ih2 _ _ _ _ _ _ _
   | exact ih3 _ _ _ _ _ _ _
   | exact spec_FoodsValid.mono _ _
   | exact spec_l11Part.mono _ _ _ _ _ _
   | exact LeO.none _
   | refine LeO.ite ?_ ?_
   | refine LeO.bind ?_ (fun _ => ?_)
theorem spec_DishesValid.mono : ∀ a0 a1 k, LeO (spec_DishesValid.f k a0 a1) (spec_DishesValid.f (k + 1) a0 a1) := by
 intro a0 a1 k
 obtain ⟨ih0, ih1, ih2, ih3⟩ := spec_DishesValid.mono_l k
 unfold spec_DishesValid.f
 repeat' first
   | (with_reducible exact ih0 _ _ _)
   | (with_reducible exact ih1 _ _ _)
   | (with_reducible exact ih2 _ _ _ _ _ _ _)
   | (with_reducible exact ih3 _ _ _ _ _ _ _)
   | (with_reducible exact spec_FoodsValid.mono _ _)
   | (with_reducible exact spec_l11Part.mono _ _ _ _ _ _)
   | (with_reducible exact LeO.refl _)
   | (with_reducible exact LeO.none _)
   | (with_reducible refine LeO.ite ?_ ?_)
   | (with_reducible refine LeO.bind ?_ (fun _ => ?_))
   | exact ih0 _ _ _
   | exact ih1 _ _ _
   | exact ih2 _ _ _ _ _ _ _
   | exact ih3 _ _ _ _ _ _ _
   | exact spec_FoodsValid.mono _ _
   | exact spec_l11Part.mono _ _ _ _ _ _
   | exact LeO.none _
   | refine LeO.ite ?_ ?_
   | refine LeO.bind ?_ (fun _ => ?_)
def spec_DishesValid.T7 : Bool × List (List Nat × List Nat) := (true, [([], []), ([0], [0]), ([1], [1]), ([2], [2]), ([3, 2], [3]), ([4], [4]), ([5, 4], [4, 5]), ([6, 4, 4], [4, 6]), ([7, 4], [4, 7]), ([4, 8], [4, 8]), ([9, 7], [9]), ([10], [10]), ([11, 10], [10, 11]), ([12, 10], [10, 12]), ([13, 10, 10], [10, 13]), ([14, 10], [10, 14]), ([10, 15], [10, 15]), ([16, 14], [16]), ([17], [17]), ([18, 17], [17, 18]), ([19, 17, 17], [17, 19]), ([20], [20]), ([20], [20]), ([22, 20], [20, 22]), ([21, 23, 20], [20, 21, 23]), ([24, 20], [20, 24]), ([25, 20], [20, 25]), ([20], [20]), ([27, 20], [20, 27]), ([26, 28, 20], [20, 26, 28]), ([20, 29, 17], [17, 20, 29]), ([17, 30], [17, 30])])
def spec_DishesValid.B7 : List Nat := [0, 1, 3, 7, 15, 31, 63, 127, 255, 511, 1023, 2047, 4095, 8191, 16383, 32767, 65535, 131071, 262143, 524287, 1048575, 2097151, 2097151, 6291455, 16777215, 33554431, 67108863, 2097151, 136314879, 536870911, 1073741823, 2147483647]
theorem spec_DishesValid.tab7 : rtab .any (opsOf Try.f41 7) = spec_DishesValid.T7 := by kernel_rfl
theorem spec_DishesValid.bits7 : waitsOk spec_DishesValid.T7.2 spec_DishesValid.B7 = true := by kernel_rfl
def spec_DishesValid.T12 : Bool × List (List Nat × List Nat) := (true, [([], []), ([], []), ([0, 1], [0, 1]), ([], []), ([], []), ([4], [4]), ([], []), ([5, 6], [5, 6]), ([7], [7]), ([2, 3, 8], [2, 3, 8]), ([9], [9])])
def spec_DishesValid.B12 : List Nat := [0, 0, 3, 0, 0, 16, 0, 112, 240, 511, 1023]
theorem spec_DishesValid.tab12 : rtab .any (opsOf Try.f41 12) = spec_DishesValid.T12 := by kernel_rfl
theorem spec_DishesValid.bits12 : waitsOk spec_DishesValid.T12.2 spec_DishesValid.B12 = true := by kernel_rfl
@[reducible] def F41.b0 : Array Bool := #[true, true, true, false, false, false, false, false, false, false, false, false, false, false, false, false, false, false, false, false, false, false, false, false, false, false, false, false, false, false, false, false]
@[reducible] def F41.b1 : Array Bool := #[true, true, true, true, true, true, true, true, false, false, false, false, false, false, false, false, false, false, false, false, false, false, false, false, false, false, false, false, false, false, false, false]
@[reducible] def F41.b2 : Array Bool := #[true, true, true, true, true, true, true, true, true, true, true, true, true, true, true, false, false, false, false, false, false, false, false, false, false, false, false, false, false, false, false, false]
@[reducible] def F41.b3 : Array Bool := #[true, true, true, true, true, true, true, true, true, true, true, true, true, true, true, true, true, true, true, true, true, true, true, true, false, false, false, false, false, false, false, false]
@[reducible] def F41.b4 : Array Bool := #[true, true, true, true, true, true, true, true, true, false, false]
@[reducible] def F41.b5 : Array Bool := #[true, true, true, true, true, true, true, true, true, true, false]
theorem F41.q0 {P : Prop} (h : P := by exact ⟨(blk_cell BK315.out 0).trans rfl, (blk_cell BK315.out 1).trans rfl, (blk_cell BK315.out 2).trans rfl⟩) : P := h
theorem F41.q1 {P : Prop} (h : P := by exact ⟨(blk_cell BK315.out 0).trans rfl, (blk_cell BK315.out 1).trans rfl, (blk_cell BK315.out 2).trans rfl, ((HB.out.cell (World.block_lt_of_cell? w _ hw319_0)).trans hw319_0), ((HB.out.cell (World.block_lt_of_cell? w _ hw319_1)).trans hw319_1), ((HB.out.cell (World.block_lt_of_cell? w _ hw319_2)).trans hw319_2)⟩) : P := h
set_option maxHeartbeats 8000000 in
set_option maxRecDepth 100000 in
theorem spec_DishesValid.calls (k : Nat) (A0 : Option Addr) (c0 : Nat) (l0 : List (S29)) (A1 : Option Addr) (c1 : Nat) (l1 : List (S63)) (r : Bool) (w : World) (hr0 : Kd.C k29 w A0 l0.length l0) (hc0 : l0.length ≤ c0) (hr1 : Kd.C k63 w A1 l1.length l1) (hc1 : l1.length ≤ c1) (h : spec_DishesValid.f k l0 l1 = some r) :
  Calls Try.prog 41 #[.slice A0 l0.length c0, .slice A1 l1.length c1] w fun e w' => e = .returned (.bool r) ∧ Below w.heap.size w w' := by
 have hu29 := Try.underlying29
 have hu55 := Try.underlying55
 have HR0 := Aside0.mk hr0
 have HC0 := Aside0.mk hc0
 clear hr0 hc0
 have HR1 := Aside0.mk hr1
 have HC1 := Aside0.mk hc1
 clear hr1 hc1
 have HB := Aside0.mk (Below.refl w.heap.size w)
 have H : ((spec_FoodsValid.f k l1).bind fun t313 => (if t313 = true then (spec_DishesValid.j0 k l0 l1 (decide ((l0.length : Int) > 4))) else (spec_DishesValid.j0 k l0 l1 true))) = some r := h
 clear h
 have HC3 := Aside0.mk H
 clear H
 go_enter Try.func41, Try.ntmps41
 go_upto_region 1 with (fail)
 go_cut [15] (fun v15 wc => ∃ (kq : Nat) (x15_2 : Bool), v15 = .bool x15_2 ∧ Aside0 (spec_DishesValid.j0 kq l0 l1 x15_2 = some r) ∧ Aside0 (kq ≤ k) ∧ Aside0 (Below w.heap.size w wc))
 case first =>
  have H := HC3.out
  clear HC3
  replace H := Option.bind_eq_some_iff.mp H
  obtain ⟨t313, A40, H⟩ := H
  replace H : (if t313 = true then (spec_DishesValid.j0 k l0 l1 (decide ((l0.length : Int) > 4))) else (spec_DishesValid.j0 k l0 l1 true)) = some r := H
  have A4 := Aside0.mk A40
  clear A40
  by_cases c5 : t313 = true
  ·subst c5
   have H1 : (spec_DishesValid.j0 k l0 l1 (decide ((l0.length : Int) > 4))) = some r := by rw [if_pos rfl] at H; exact H
   clear H
   have H := H1
   clear H1
   have H' := Aside0.mk H
   clear H
   go_wp2_with (first | ((with_reducible refine gate_callee (f := 82) rfl ?_); refine goesL_ (some 9) rfl rfl Try.func82 pL rfl #[.slice A1 l1.length c1] rfl pM ?_; (with_reducible refine (spec_FoodsValid.calls k _ _ l1 true _ ?side1 ?side2 A4.out).mono ?_); (case side1 => exact pS ((Kd.C_below HR1.out HB.out))); (case side2 => exact HC1.out); rintro e w6 ⟨rfl, hb⟩; refine ⟨_, rfl, ?_⟩; have n0_ := Aside0.mk (below_step pB hb); clear HB; have HB := n0_; clear n0_; (try clear hb); (try clear hb2); (try clear hk); (try clear hi)))
   go_meet
   case rel => exact ⟨_, (decide ((l0.length : Int) > 4)), pF, H', ⟨by first | omega | exact Nat.le_refl _⟩, ⟨pB⟩⟩
  replace c5 := Bool.eq_false_iff.mpr c5
  subst c5
  have H1 : (spec_DishesValid.j0 k l0 l1 true) = some r := by rw [if_neg (show ¬ (false = true) by decide)] at H; exact H
  clear H
  have H := H1
  clear H1
  have H' := Aside0.mk H
  clear H
  go_wp2_with (first | ((with_reducible refine gate_callee (f := 82) rfl ?_); refine goesL_ (some 9) rfl rfl Try.func82 pL rfl #[.slice A1 l1.length c1] rfl pM ?_; (with_reducible refine (spec_FoodsValid.calls k _ _ l1 false _ ?side1 ?side2 A4.out).mono ?_); (case side1 => exact pS ((Kd.C_below HR1.out HB.out))); (case side2 => exact HC1.out); rintro e w7 ⟨rfl, hb⟩; refine ⟨_, rfl, ?_⟩; have n0_ := Aside0.mk (below_step pB hb); clear HB; have HB := n0_; clear n0_; (try clear hb); (try clear hb2); (try clear hk); (try clear hi)))
  go_meet
  case rel => exact ⟨_, (true), pF, H', ⟨by first | omega | exact Nat.le_refl _⟩, ⟨pB⟩⟩
 case rest =>
  clear HC3
  try clear c1
  try clear p2
  try clear c4
  try clear c5
  obtain ⟨kq, x15_2, rfl, HA, HJ2, HB⟩ := hcut
  cases kq with
  | zero => exact absurd HA.out (by simp [spec_DishesValid.j0])
  | succ kj2 =>
   have H := HA.out
   clear HA
   simp only [spec_DishesValid.j0] at H
   by_cases c8 : x15_2 = true
   ·subst c8
    have H1 : (some false) = some r := by rw [if_pos rfl] at H; exact H
    clear H
    have H := H1
    clear H1
    obtain rfl := Option.some.inj H
    go_wp2
    go_ret
    exact ⟨pE, pB⟩
   replace c8 := Bool.eq_false_iff.mpr c8
   subst c8
   have H1 : (spec_DishesValid.l0 kj2 l0 l1 0) = some r := by rw [if_neg (show ¬ (false = true) by decide)] at H; exact H
   clear H
   have H := H1
   clear H1
   have H' := Aside0.mk H
   clear H
   go_wp2
   go_loopg [5] kj2 (fun kq v5 w' => ∃ (x5_2 : Int), v5 = .int .i64 x5_2 ∧ Aside0 (spec_DishesValid.l0 kq l0 l1 x5_2 = some r) ∧ Aside0 (kq ≤ kj2) ∧ Aside0 (Below w.heap.size w w'))
   case atStart => exact ⟨(0), pF, H', ⟨Nat.le_refl _⟩, ⟨pB⟩⟩
   case round =>
    clear H'
    try clear c1
    try clear p2
    try clear c4
    try clear c5
    try clear c8
    try clear p2
    obtain ⟨x5_2, rfl, HA, HK2, HB⟩ := hrel
    cases gk with
    | zero => exact absurd HA.out (by simp [spec_DishesValid.l0])
    | succ k2 =>
     have H := HA.out
     clear HA
     simp only [spec_DishesValid.l0] at H
     rcases (Classical.em (x5_2 < (l0.length : Int))).symm with c9 | c9
     ·rw [if_neg c9] at H
      have c9b0 : decide (x5_2 < (l0.length : Int)) = false := decide_eq_false c9
      clear c9
      obtain rfl := Option.some.inj H
      go_wp2
      go_ret
      exact ⟨pE, pB⟩

     rw [if_pos c9] at H
     have c9b0 : decide (x5_2 < (l0.length : Int)) = true := decide_eq_true c9
     clear c9
     rcases (Classical.em (0 ≤ x5_2)).symm with c10 | c10
     ·rw [if_neg c10] at H
      exact absurd H (by simp)
     rw [if_pos c10] at H
     have c10b0 : decide (0 ≤ x5_2) = true := decide_eq_true c10
     clear c10
     have HC11 := Aside0.mk H
     clear H
     have p314 : 0 ≤ (x5_2 : Int) := of_decide_eq_true pA
     have q314 : x5_2 < (l0.length : Int) := of_decide_eq_true pA
     obtain ⟨ad314, A314_2, c314_2, e314, hx314_0, hx314_1, hx314_2, hl314_2, hi314_2⟩ := at_T29 HR0.out x5_2 p314 q314
     cases e314
     replace hx314_0 := (HB.out.cell (World.block_lt_of_cell? w _ hx314_0)).trans hx314_0
     replace hx314_1 := (HB.out.cell (World.block_lt_of_cell? w _ hx314_1)).trans hx314_1
     replace hx314_2 := (HB.out.cell (World.block_lt_of_cell? w _ hx314_2)).trans hx314_2
     have HR314_2 := Aside0.mk (hi314_2)
     have HC314_2 := Aside0.mk hl314_2
     clear hi314_2 hl314_2
     replace p314 := eq_true p314
     replace q314 := eq_true q314
     go_upto_region 7 with (first | ((with_reducible refine gate_dst (N := 6) rfl ?_); (try (refine gate_guard (by rfl) ?_; dsimp only)); refine box_event ?hg (N := 6) ?hd (cs := #[.int .i64 0, .int .i64 0, .slice none 0 0]) (t := 29) ?hr ?_; (case hd => rfl); (case hg => rfl); (case hr => first | (go_simp; done) | (go_simp; rfl)); intro gb315 hg w12 hbox hb; have n0_ := Aside0.mk (below_step pB hb); have n1_ := Aside0.mk (hbox); have n2_ := Aside0.mk ((by rw [hg]; exact (below_size pB) : w.heap.size ≤ gb315)); have n3_ := Aside0.mk ((by rw [hg]; exact (below_size pB) : w.heap.size ≤ gb315)); clear HB; have HB := n0_; have BK315 := n1_; have GW315 := n2_; have GE315 := n3_; clear n0_ n1_ n2_ n3_; clear hb hbox hg; have hcz13_0 : w12.cell? ⟨gb315, 0, none⟩ = some (.int .i64 0) := (blk_cell BK315.out 0).trans rfl; have hcz13_1 : w12.cell? ⟨gb315, 1, none⟩ = some (.int .i64 0) := (blk_cell BK315.out 1).trans rfl; have hcz13_2 : w12.cell? ⟨gb315, 2, none⟩ = some (.slice none 0 0) := (blk_cell BK315.out 2).trans rfl; have hfz13_0 := blk_frozen BK315.out 0; have hfz13_1 := blk_frozen BK315.out 1; have hfz13_2 := blk_frozen BK315.out 2))
     (try simp only [Act.put, List.setIfInBounds_toArray, List.set_cons_zero, List.set_cons_succ])
     go_cut [57] (fun v57 wc => ∃ (kq : Nat) (x57_10 : Bool), v57 = .bool x57_10 ∧ Aside0 (spec_DishesValid.j2 kq l0 l1 x5_2 x57_10 ((rd_T29 l0 x5_2).f0) ((rd_T29 l0 x5_2).f1) ((rd_T29 l0 x5_2).f2) = some r) ∧ Aside0 (kq ≤ k2) ∧ Aside0 (wc.heap[gb315]? = some (.cells #[.int .i64 ((rd_T29 l0 x5_2).f0), .int .i64 ((rd_T29 l0 x5_2).f1), (.slice A314_2 ((rd_T29 l0 x5_2).f2).length c314_2)] 29 (0, 0))) ∧ Aside0 (Below w.heap.size w wc))
     case first =>
      have H := HC11.out
      clear HC11
      replace H := Option.bind_eq_some_iff.mp H
      obtain ⟨t316, A140, H⟩ := H
      replace H : (if t316 = true then ((spec_l6In.f ((rd_T29 l0 x5_2).f1) 1 12).bind fun t317 => (if t317 = true then ((spec_l6In.f (((rd_T29 l0 x5_2).f2).length : Int) 1 5).bind fun t318 => (if t318 = true then (if x5_2 > 0 then (if 0 ≤ (wrap64 (x5_2 - 1)) then (if (wrap64 (x5_2 - 1)) < (l0.length : Int) then (spec_DishesValid.j2 k2 l0 l1 x5_2 (decide (((rd_T29 l0 (wrap64 (x5_2 - 1))).f0) ≥ ((rd_T29 l0 x5_2).f0))) ((rd_T29 l0 x5_2).f0) ((rd_T29 l0 x5_2).f1) ((rd_T29 l0 x5_2).f2)) else (none)) else (none)) else (spec_DishesValid.j2 k2 l0 l1 x5_2 false ((rd_T29 l0 x5_2).f0) ((rd_T29 l0 x5_2).f1) ((rd_T29 l0 x5_2).f2))) else (spec_DishesValid.j2 k2 l0 l1 x5_2 true ((rd_T29 l0 x5_2).f0) ((rd_T29 l0 x5_2).f1) ((rd_T29 l0 x5_2).f2)))) else (spec_DishesValid.j2 k2 l0 l1 x5_2 true ((rd_T29 l0 x5_2).f0) ((rd_T29 l0 x5_2).f1) ((rd_T29 l0 x5_2).f2)))) else (spec_DishesValid.j2 k2 l0 l1 x5_2 true ((rd_T29 l0 x5_2).f0) ((rd_T29 l0 x5_2).f1) ((rd_T29 l0 x5_2).f2))) = some r := H
      have A14 := Aside0.mk A140
      clear A140
      rcases (Classical.em (t316 = true)).symm with c15 | c15
      ·replace c15 := Bool.eq_false_iff.mpr c15
       subst c15
       have H1 : (spec_DishesValid.j2 k2 l0 l1 x5_2 true ((rd_T29 l0 x5_2).f0) ((rd_T29 l0 x5_2).f1) ((rd_T29 l0 x5_2).f2)) = some r := by rw [if_neg (show ¬ (false = true) by decide)] at H; exact H
       clear H
       have H := H1
       clear H1
       have H' := Aside0.mk H
       clear H
       try go_wp2
       have n0_ : Aside0 ((((w12.setCell ⟨gb315, 0, none⟩ (.int .i64 ((rd_T29 l0 x5_2).f0))).setCell ⟨gb315, 1, none⟩ (.int .i64 ((rd_T29 l0 x5_2).f1))).setCell ⟨gb315, 2, none⟩ (.slice A314_2 ((rd_T29 l0 x5_2).f2).length c314_2)).heap[gb315]? = some (.cells #[.int .i64 ((rd_T29 l0 x5_2).f0), .int .i64 ((rd_T29 l0 x5_2).f1), .slice A314_2 ((rd_T29 l0 x5_2).f2).length c314_2] 29 (0, 0))) := ⟨by (with_reducible repeat (first | refine blk_drewN ?_ _ | refine blk_drew ?_ | refine blk_alloc ?_ _)); refine blk_put (cs := #[.int .i64 ((rd_T29 l0 x5_2).f0), .int .i64 ((rd_T29 l0 x5_2).f1), .slice none 0 0]) ?_ 2 _ rfl; (with_reducible repeat (first | refine blk_drewN ?_ _ | refine blk_drew ?_ | refine blk_alloc ?_ _)); refine blk_put (cs := #[.int .i64 ((rd_T29 l0 x5_2).f0), .int .i64 0, .slice none 0 0]) ?_ 1 _ rfl; (with_reducible repeat (first | refine blk_drewN ?_ _ | refine blk_drew ?_ | refine blk_alloc ?_ _)); refine blk_put (cs := #[.int .i64 0, .int .i64 0, .slice none 0 0]) ?_ 0 _ rfl; (with_reducible repeat (first | refine blk_drewN ?_ _ | refine blk_drew ?_ | refine blk_alloc ?_ _)); exact BK315.out⟩
       have n1_ : Aside0 (Below w.heap.size w (((w12.setCell ⟨gb315, 0, none⟩ (.int .i64 ((rd_T29 l0 x5_2).f0))).setCell ⟨gb315, 1, none⟩ (.int .i64 ((rd_T29 l0 x5_2).f1))).setCell ⟨gb315, 2, none⟩ (.slice A314_2 ((rd_T29 l0 x5_2).f2).length c314_2))) := ⟨pG GE315⟩
       (try clear BK315)
       (try clear HB)
       generalize (((w12.setCell ⟨gb315, 0, none⟩ (.int .i64 ((rd_T29 l0 x5_2).f0))).setCell ⟨gb315, 1, none⟩ (.int .i64 ((rd_T29 l0 x5_2).f1))).setCell ⟨gb315, 2, none⟩ (.slice A314_2 ((rd_T29 l0 x5_2).f2).length c314_2)) = w32 at n0_ n1_ ⊢
       have BK315 := n0_
       have HB := n1_
       clear n0_ n1_
       have n0_ := Aside0.mk (blk_drew BK315.out)
       have n1_ := Aside0.mk (below_drew1 HB.out)
       clear BK315
       clear HB
       have BK315 := n0_
       have HB := n1_
       clear n0_ n1_
       refine start_ (n := 32) (S := fun w' => w'.cell? ⟨gb315, 0, none⟩ = some (.int .i64 ((rd_T29 l0 x5_2).f0)) ∧ w'.cell? ⟨gb315, 1, none⟩ = some (.int .i64 ((rd_T29 l0 x5_2).f1)) ∧ w'.cell? ⟨gb315, 2, none⟩ = some (.slice A314_2 ((rd_T29 l0 x5_2).f2).length c314_2)) (ds := []) #[false, false, false, false, false, false, false, false, false, false, false, false, false, false, false, false, false, false, false, false, false, false, false, false, false, false, false, false, false, false, false, false] pL rfl rfl ⟨(blk_cell BK315.out 0).trans rfl, (blk_cell BK315.out 1).trans rfl, (blk_cell BK315.out 2).trans rfl⟩ (fun hHeld => ?_); refine with_tabW spec_DishesValid.tab7 spec_DishesValid.bits7 (fun HT_ HW_ => ?_)
       generalize w32.drew = w33 at BK315 HB hHeld ⊢
       refine pv 0 (some 26) HT_ rfl rfl pL ?_
       refine tv 1 (some 27) HT_ HW_ rfl rfl pL (fun _ _ _ h => h) (by rfl) (by rintro w' ⟨s0, s1, s2⟩; go_simp; with_reducible rfl) hHeld pP ?_
       refine one_ (i := 2) (N := some 28) F41.b0 rfl rfl (one_of HT_.out pL) (by decide) (fun K hK => ?_)
       refine goes_ Try.func72 pL rfl #[.int .i64 ((rd_T29 l0 x5_2).f0), .int .i64 1, .int .i64 20] (by rfl) rfl rfl pM ?_
       with_reducible refine (spec_l6In.calls ((rd_T29 l0 x5_2).f0) 1 20 false _ A14.out).mono ?_
       rintro e w' ⟨rfl, ⟨nd, rfl⟩⟩
       refine ⟨_, rfl, ?_⟩
       refine hK.out _ _ F41.q0 (fun hHeld => ?_)
       clear hK K
       refine norm_ (a' := ?_) ?_ ?_
       rotate_left
       ·show Act.put _ (some 28) _ = _
        exact pP
       refine pv 3 (some 29) HT_ rfl rfl pL ?_
       refine pv 4 (some 30) HT_ rfl rfl pL ?_
       refine uv 5 (some 31) HT_ rfl rfl pL ?_
       refine uv 6 (some 32) HT_ rfl rfl pL ?_
       refine uv 7 (some 33) HT_ rfl rfl pL ?_
       refine uv 8 (some 34) HT_ rfl rfl pL ?_
       refine pv 9 (some 35) HT_ rfl rfl pL ?_
       refine pv 10 (some 36) HT_ rfl rfl pL ?_
       refine un 11 (some 37) #[true, true, true, true, true, true, true, true, true, true, true, true, false, false, false, false, false, false, false, false, false, false, false, false, false, false, false, false, false, false, false, false] HT_ rfl rfl pL (fun _ _ _ h => h) (by rfl) pP ?_
       refine uv 12 (some 38) HT_ rfl rfl pL ?_
       refine uv 13 (some 39) HT_ rfl rfl pL ?_
       refine uv 14 (some 40) HT_ rfl rfl pL ?_
       refine uv 15 (some 41) HT_ rfl rfl pL ?_
       refine pv 16 (some 42) HT_ rfl rfl pL ?_
       refine pv 17 (some 43) HT_ rfl rfl pL ?_
       refine uv 18 (some 44) HT_ rfl rfl pL ?_
       refine uv 19 (some 45) HT_ rfl rfl pL ?_
       refine un 20 (some 46) #[true, true, true, true, true, true, true, true, true, true, true, true, true, true, true, true, true, true, true, true, true, false, false, false, false, false, false, false, false, false, false, false] HT_ rfl rfl pL (fun _ _ _ h => h) (by rfl) pP ?_
       refine uv 21 (some 47) HT_ rfl rfl pL ?_
       refine uv 22 (some 48) HT_ rfl rfl pL ?_
       refine uv 23 (some 49) HT_ rfl rfl pL ?_
       refine uv 24 (some 50) HT_ rfl rfl pL ?_
       refine uv 25 (some 51) HT_ rfl rfl pL ?_
       refine uv 26 (some 52) HT_ rfl rfl pL ?_
       refine uv 27 (some 53) HT_ rfl rfl pL ?_
       refine uv 28 (some 54) HT_ rfl rfl pL ?_
       refine un 29 (some 55) #[true, true, true, true, true, true, true, true, true, true, true, true, true, true, true, true, true, true, true, true, true, true, true, true, true, true, true, true, true, true, false, false] HT_ rfl rfl pL (fun _ _ _ h => h) (by rfl) pP ?_
       refine uv 30 (some 56) HT_ rfl rfl pL ?_
       refine pv 31 (some 57) HT_ rfl rfl pL ?_
       refine done_ (done_of HT_.out pL) ?_
       try go_wp2
       go_meet
       case rel => exact ⟨_, (true), pF, H', ⟨by have := HJ2.out; have := HK2.out; first | omega | exact Nat.le_refl _⟩, ⟨pC BK315⟩, ⟨pG GE315⟩⟩
      subst c15
      have H1 : ((spec_l6In.f ((rd_T29 l0 x5_2).f1) 1 12).bind fun t317 => (if t317 = true then ((spec_l6In.f (((rd_T29 l0 x5_2).f2).length : Int) 1 5).bind fun t318 => (if t318 = true then (if x5_2 > 0 then (if 0 ≤ (wrap64 (x5_2 - 1)) then (if (wrap64 (x5_2 - 1)) < (l0.length : Int) then (spec_DishesValid.j2 k2 l0 l1 x5_2 (decide (((rd_T29 l0 (wrap64 (x5_2 - 1))).f0) ≥ ((rd_T29 l0 x5_2).f0))) ((rd_T29 l0 x5_2).f0) ((rd_T29 l0 x5_2).f1) ((rd_T29 l0 x5_2).f2)) else (none)) else (none)) else (spec_DishesValid.j2 k2 l0 l1 x5_2 false ((rd_T29 l0 x5_2).f0) ((rd_T29 l0 x5_2).f1) ((rd_T29 l0 x5_2).f2))) else (spec_DishesValid.j2 k2 l0 l1 x5_2 true ((rd_T29 l0 x5_2).f0) ((rd_T29 l0 x5_2).f1) ((rd_T29 l0 x5_2).f2)))) else (spec_DishesValid.j2 k2 l0 l1 x5_2 true ((rd_T29 l0 x5_2).f0) ((rd_T29 l0 x5_2).f1) ((rd_T29 l0 x5_2).f2)))) = some r := by rw [if_pos rfl] at H; exact H
      clear H
      have H := H1
      clear H1
      replace H := Option.bind_eq_some_iff.mp H
      obtain ⟨t317, A160, H⟩ := H
      replace H : (if t317 = true then ((spec_l6In.f (((rd_T29 l0 x5_2).f2).length : Int) 1 5).bind fun t318 => (if t318 = true then (if x5_2 > 0 then (if 0 ≤ (wrap64 (x5_2 - 1)) then (if (wrap64 (x5_2 - 1)) < (l0.length : Int) then (spec_DishesValid.j2 k2 l0 l1 x5_2 (decide (((rd_T29 l0 (wrap64 (x5_2 - 1))).f0) ≥ ((rd_T29 l0 x5_2).f0))) ((rd_T29 l0 x5_2).f0) ((rd_T29 l0 x5_2).f1) ((rd_T29 l0 x5_2).f2)) else (none)) else (none)) else (spec_DishesValid.j2 k2 l0 l1 x5_2 false ((rd_T29 l0 x5_2).f0) ((rd_T29 l0 x5_2).f1) ((rd_T29 l0 x5_2).f2))) else (spec_DishesValid.j2 k2 l0 l1 x5_2 true ((rd_T29 l0 x5_2).f0) ((rd_T29 l0 x5_2).f1) ((rd_T29 l0 x5_2).f2)))) else (spec_DishesValid.j2 k2 l0 l1 x5_2 true ((rd_T29 l0 x5_2).f0) ((rd_T29 l0 x5_2).f1) ((rd_T29 l0 x5_2).f2))) = some r := H
      have A16 := Aside0.mk A160
      clear A160
      rcases (Classical.em (t317 = true)).symm with c17 | c17
      ·replace c17 := Bool.eq_false_iff.mpr c17
       subst c17
       have H1 : (spec_DishesValid.j2 k2 l0 l1 x5_2 true ((rd_T29 l0 x5_2).f0) ((rd_T29 l0 x5_2).f1) ((rd_T29 l0 x5_2).f2)) = some r := by rw [if_neg (show ¬ (false = true) by decide)] at H; exact H
       clear H
       have H := H1
       clear H1
       have H' := Aside0.mk H
       clear H
       try go_wp2
       have n0_ : Aside0 ((((w12.setCell ⟨gb315, 0, none⟩ (.int .i64 ((rd_T29 l0 x5_2).f0))).setCell ⟨gb315, 1, none⟩ (.int .i64 ((rd_T29 l0 x5_2).f1))).setCell ⟨gb315, 2, none⟩ (.slice A314_2 ((rd_T29 l0 x5_2).f2).length c314_2)).heap[gb315]? = some (.cells #[.int .i64 ((rd_T29 l0 x5_2).f0), .int .i64 ((rd_T29 l0 x5_2).f1), .slice A314_2 ((rd_T29 l0 x5_2).f2).length c314_2] 29 (0, 0))) := ⟨by (with_reducible repeat (first | refine blk_drewN ?_ _ | refine blk_drew ?_ | refine blk_alloc ?_ _)); refine blk_put (cs := #[.int .i64 ((rd_T29 l0 x5_2).f0), .int .i64 ((rd_T29 l0 x5_2).f1), .slice none 0 0]) ?_ 2 _ rfl; (with_reducible repeat (first | refine blk_drewN ?_ _ | refine blk_drew ?_ | refine blk_alloc ?_ _)); refine blk_put (cs := #[.int .i64 ((rd_T29 l0 x5_2).f0), .int .i64 0, .slice none 0 0]) ?_ 1 _ rfl; (with_reducible repeat (first | refine blk_drewN ?_ _ | refine blk_drew ?_ | refine blk_alloc ?_ _)); refine blk_put (cs := #[.int .i64 0, .int .i64 0, .slice none 0 0]) ?_ 0 _ rfl; (with_reducible repeat (first | refine blk_drewN ?_ _ | refine blk_drew ?_ | refine blk_alloc ?_ _)); exact BK315.out⟩
       have n1_ : Aside0 (Below w.heap.size w (((w12.setCell ⟨gb315, 0, none⟩ (.int .i64 ((rd_T29 l0 x5_2).f0))).setCell ⟨gb315, 1, none⟩ (.int .i64 ((rd_T29 l0 x5_2).f1))).setCell ⟨gb315, 2, none⟩ (.slice A314_2 ((rd_T29 l0 x5_2).f2).length c314_2))) := ⟨pG GE315⟩
       (try clear BK315)
       (try clear HB)
       generalize (((w12.setCell ⟨gb315, 0, none⟩ (.int .i64 ((rd_T29 l0 x5_2).f0))).setCell ⟨gb315, 1, none⟩ (.int .i64 ((rd_T29 l0 x5_2).f1))).setCell ⟨gb315, 2, none⟩ (.slice A314_2 ((rd_T29 l0 x5_2).f2).length c314_2)) = w30 at n0_ n1_ ⊢
       have BK315 := n0_
       have HB := n1_
       clear n0_ n1_
       have n0_ := Aside0.mk (blk_drew BK315.out)
       have n1_ := Aside0.mk (below_drew1 HB.out)
       clear BK315
       clear HB
       have BK315 := n0_
       have HB := n1_
       clear n0_ n1_
       refine start_ (n := 32) (S := fun w' => w'.cell? ⟨gb315, 0, none⟩ = some (.int .i64 ((rd_T29 l0 x5_2).f0)) ∧ w'.cell? ⟨gb315, 1, none⟩ = some (.int .i64 ((rd_T29 l0 x5_2).f1)) ∧ w'.cell? ⟨gb315, 2, none⟩ = some (.slice A314_2 ((rd_T29 l0 x5_2).f2).length c314_2)) (ds := []) #[false, false, false, false, false, false, false, false, false, false, false, false, false, false, false, false, false, false, false, false, false, false, false, false, false, false, false, false, false, false, false, false] pL rfl rfl ⟨(blk_cell BK315.out 0).trans rfl, (blk_cell BK315.out 1).trans rfl, (blk_cell BK315.out 2).trans rfl⟩ (fun hHeld => ?_); refine with_tabW spec_DishesValid.tab7 spec_DishesValid.bits7 (fun HT_ HW_ => ?_)
       generalize w30.drew = w31 at BK315 HB hHeld ⊢
       refine pv 0 (some 26) HT_ rfl rfl pL ?_
       refine tv 1 (some 27) HT_ HW_ rfl rfl pL (fun _ _ _ h => h) (by rfl) (by rintro w' ⟨s0, s1, s2⟩; go_simp; with_reducible rfl) hHeld pP ?_
       refine one_ (i := 2) (N := some 28) F41.b0 rfl rfl (one_of HT_.out pL) (by decide) (fun K hK => ?_)
       refine goes_ Try.func72 pL rfl #[.int .i64 ((rd_T29 l0 x5_2).f0), .int .i64 1, .int .i64 20] (by rfl) rfl rfl pM ?_
       with_reducible refine (spec_l6In.calls ((rd_T29 l0 x5_2).f0) 1 20 true _ A14.out).mono ?_
       rintro e w' ⟨rfl, ⟨nd, rfl⟩⟩
       refine ⟨_, rfl, ?_⟩
       refine hK.out _ _ F41.q0 (fun hHeld => ?_)
       clear hK K
       refine norm_ (a' := ?_) ?_ ?_
       rotate_left
       ·show Act.put _ (some 28) _ = _
        exact pP
       refine pv 3 (some 29) HT_ rfl rfl pL ?_
       refine pv 4 (some 30) HT_ rfl rfl pL ?_
       refine pv 5 (some 31) HT_ rfl rfl pL ?_
       refine tv 6 (some 32) HT_ HW_ rfl rfl pL (fun _ _ _ h => h) (by rfl) (by rintro w' ⟨s0, s1, s2⟩; go_simp; with_reducible rfl) hHeld pP ?_
       refine one_ (i := 7) (N := some 33) F41.b1 rfl rfl (one_of HT_.out pL) (by decide) (fun K hK => ?_)
       refine goes_ Try.func72 pL rfl #[.int .i64 ((rd_T29 l0 x5_2).f1), .int .i64 1, .int .i64 12] (by rfl) rfl rfl pM ?_
       with_reducible refine (spec_l6In.calls ((rd_T29 l0 x5_2).f1) 1 12 false _ A16.out).mono ?_
       rintro e w' ⟨rfl, ⟨nd, rfl⟩⟩
       refine ⟨_, rfl, ?_⟩
       refine hK.out _ _ F41.q0 (fun hHeld => ?_)
       clear hK K
       refine norm_ (a' := ?_) ?_ ?_
       rotate_left
       ·show Act.put _ (some 33) _ = _
        exact pP
       refine pv 8 (some 34) HT_ rfl rfl pL ?_
       refine pv 9 (some 35) HT_ rfl rfl pL ?_
       refine pv 10 (some 36) HT_ rfl rfl pL ?_
       refine uv 11 (some 37) HT_ rfl rfl pL ?_
       refine uv 12 (some 38) HT_ rfl rfl pL ?_
       refine uv 13 (some 39) HT_ rfl rfl pL ?_
       refine uv 14 (some 40) HT_ rfl rfl pL ?_
       refine uv 15 (some 41) HT_ rfl rfl pL ?_
       refine pu 16 (some 42) #[true, true, true, true, true, true, true, true, true, true, true, true, true, true, true, true, true, false, false, false, false, false, false, false, false, false, false, false, false, false, false, false] HT_ rfl rfl pL (fun _ _ _ h => h) (by rfl) pY pP ?_
       refine pv 17 (some 43) HT_ rfl rfl pL ?_
       refine uv 18 (some 44) HT_ rfl rfl pL ?_
       refine uv 19 (some 45) HT_ rfl rfl pL ?_
       refine uv 20 (some 46) HT_ rfl rfl pL ?_
       refine uv 21 (some 47) HT_ rfl rfl pL ?_
       refine uv 22 (some 48) HT_ rfl rfl pL ?_
       refine uv 23 (some 49) HT_ rfl rfl pL ?_
       refine uv 24 (some 50) HT_ rfl rfl pL ?_
       refine un 25 (some 51) #[true, true, true, true, true, true, true, true, true, true, true, true, true, true, true, true, true, true, true, true, true, true, true, true, true, true, false, false, false, false, false, false] HT_ rfl rfl pL (fun _ _ _ h => h) (by rfl) pP ?_
       refine uv 26 (some 52) HT_ rfl rfl pL ?_
       refine uv 27 (some 53) HT_ rfl rfl pL ?_
       refine uv 28 (some 54) HT_ rfl rfl pL ?_
       refine uv 29 (some 55) HT_ rfl rfl pL ?_
       refine uv 30 (some 56) HT_ rfl rfl pL ?_
       refine pv 31 (some 57) HT_ rfl rfl pL ?_
       refine done_ (done_of HT_.out pL) ?_
       try go_wp2
       go_meet
       case rel => exact ⟨_, (true), pF, H', ⟨by have := HJ2.out; have := HK2.out; first | omega | exact Nat.le_refl _⟩, ⟨pC BK315⟩, ⟨pG GE315⟩⟩
      subst c17
      have H1 : ((spec_l6In.f (((rd_T29 l0 x5_2).f2).length : Int) 1 5).bind fun t318 => (if t318 = true then (if x5_2 > 0 then (if 0 ≤ (wrap64 (x5_2 - 1)) then (if (wrap64 (x5_2 - 1)) < (l0.length : Int) then (spec_DishesValid.j2 k2 l0 l1 x5_2 (decide (((rd_T29 l0 (wrap64 (x5_2 - 1))).f0) ≥ ((rd_T29 l0 x5_2).f0))) ((rd_T29 l0 x5_2).f0) ((rd_T29 l0 x5_2).f1) ((rd_T29 l0 x5_2).f2)) else (none)) else (none)) else (spec_DishesValid.j2 k2 l0 l1 x5_2 false ((rd_T29 l0 x5_2).f0) ((rd_T29 l0 x5_2).f1) ((rd_T29 l0 x5_2).f2))) else (spec_DishesValid.j2 k2 l0 l1 x5_2 true ((rd_T29 l0 x5_2).f0) ((rd_T29 l0 x5_2).f1) ((rd_T29 l0 x5_2).f2)))) = some r := by rw [if_pos rfl] at H; exact H
      clear H
      have H := H1
      clear H1
      replace H := Option.bind_eq_some_iff.mp H
      obtain ⟨t318, A180, H⟩ := H
      replace H : (if t318 = true then (if x5_2 > 0 then (if 0 ≤ (wrap64 (x5_2 - 1)) then (if (wrap64 (x5_2 - 1)) < (l0.length : Int) then (spec_DishesValid.j2 k2 l0 l1 x5_2 (decide (((rd_T29 l0 (wrap64 (x5_2 - 1))).f0) ≥ ((rd_T29 l0 x5_2).f0))) ((rd_T29 l0 x5_2).f0) ((rd_T29 l0 x5_2).f1) ((rd_T29 l0 x5_2).f2)) else (none)) else (none)) else (spec_DishesValid.j2 k2 l0 l1 x5_2 false ((rd_T29 l0 x5_2).f0) ((rd_T29 l0 x5_2).f1) ((rd_T29 l0 x5_2).f2))) else (spec_DishesValid.j2 k2 l0 l1 x5_2 true ((rd_T29 l0 x5_2).f0) ((rd_T29 l0 x5_2).f1) ((rd_T29 l0 x5_2).f2))) = some r := H
      have A18 := Aside0.mk A180
      clear A180
      rcases (Classical.em (t318 = true)).symm with c19 | c19
      ·replace c19 := Bool.eq_false_iff.mpr c19
       subst c19
       have H1 : (spec_DishesValid.j2 k2 l0 l1 x5_2 true ((rd_T29 l0 x5_2).f0) ((rd_T29 l0 x5_2).f1) ((rd_T29 l0 x5_2).f2)) = some r := by rw [if_neg (show ¬ (false = true) by decide)] at H; exact H
       clear H
       have H := H1
       clear H1
       have H' := Aside0.mk H
       clear H
       try go_wp2
       have n0_ : Aside0 ((((w12.setCell ⟨gb315, 0, none⟩ (.int .i64 ((rd_T29 l0 x5_2).f0))).setCell ⟨gb315, 1, none⟩ (.int .i64 ((rd_T29 l0 x5_2).f1))).setCell ⟨gb315, 2, none⟩ (.slice A314_2 ((rd_T29 l0 x5_2).f2).length c314_2)).heap[gb315]? = some (.cells #[.int .i64 ((rd_T29 l0 x5_2).f0), .int .i64 ((rd_T29 l0 x5_2).f1), .slice A314_2 ((rd_T29 l0 x5_2).f2).length c314_2] 29 (0, 0))) := ⟨by (with_reducible repeat (first | refine blk_drewN ?_ _ | refine blk_drew ?_ | refine blk_alloc ?_ _)); refine blk_put (cs := #[.int .i64 ((rd_T29 l0 x5_2).f0), .int .i64 ((rd_T29 l0 x5_2).f1), .slice none 0 0]) ?_ 2 _ rfl; (with_reducible repeat (first | refine blk_drewN ?_ _ | refine blk_drew ?_ | refine blk_alloc ?_ _)); refine blk_put (cs := #[.int .i64 ((rd_T29 l0 x5_2).f0), .int .i64 0, .slice none 0 0]) ?_ 1 _ rfl; (with_reducible repeat (first | refine blk_drewN ?_ _ | refine blk_drew ?_ | refine blk_alloc ?_ _)); refine blk_put (cs := #[.int .i64 0, .int .i64 0, .slice none 0 0]) ?_ 0 _ rfl; (with_reducible repeat (first | refine blk_drewN ?_ _ | refine blk_drew ?_ | refine blk_alloc ?_ _)); exact BK315.out⟩
       have n1_ : Aside0 (Below w.heap.size w (((w12.setCell ⟨gb315, 0, none⟩ (.int .i64 ((rd_T29 l0 x5_2).f0))).setCell ⟨gb315, 1, none⟩ (.int .i64 ((rd_T29 l0 x5_2).f1))).setCell ⟨gb315, 2, none⟩ (.slice A314_2 ((rd_T29 l0 x5_2).f2).length c314_2))) := ⟨pG GE315⟩
       (try clear BK315)
       (try clear HB)
       generalize (((w12.setCell ⟨gb315, 0, none⟩ (.int .i64 ((rd_T29 l0 x5_2).f0))).setCell ⟨gb315, 1, none⟩ (.int .i64 ((rd_T29 l0 x5_2).f1))).setCell ⟨gb315, 2, none⟩ (.slice A314_2 ((rd_T29 l0 x5_2).f2).length c314_2)) = w28 at n0_ n1_ ⊢
       have BK315 := n0_
       have HB := n1_
       clear n0_ n1_
       have n0_ := Aside0.mk (blk_drew BK315.out)
       have n1_ := Aside0.mk (below_drew1 HB.out)
       clear BK315
       clear HB
       have BK315 := n0_
       have HB := n1_
       clear n0_ n1_
       refine start_ (n := 32) (S := fun w' => w'.cell? ⟨gb315, 0, none⟩ = some (.int .i64 ((rd_T29 l0 x5_2).f0)) ∧ w'.cell? ⟨gb315, 1, none⟩ = some (.int .i64 ((rd_T29 l0 x5_2).f1)) ∧ w'.cell? ⟨gb315, 2, none⟩ = some (.slice A314_2 ((rd_T29 l0 x5_2).f2).length c314_2)) (ds := []) #[false, false, false, false, false, false, false, false, false, false, false, false, false, false, false, false, false, false, false, false, false, false, false, false, false, false, false, false, false, false, false, false] pL rfl rfl ⟨(blk_cell BK315.out 0).trans rfl, (blk_cell BK315.out 1).trans rfl, (blk_cell BK315.out 2).trans rfl⟩ (fun hHeld => ?_); refine with_tabW spec_DishesValid.tab7 spec_DishesValid.bits7 (fun HT_ HW_ => ?_)
       generalize w28.drew = w29 at BK315 HB hHeld ⊢
       refine pv 0 (some 26) HT_ rfl rfl pL ?_
       refine tv 1 (some 27) HT_ HW_ rfl rfl pL (fun _ _ _ h => h) (by rfl) (by rintro w' ⟨s0, s1, s2⟩; go_simp; with_reducible rfl) hHeld pP ?_
       refine one_ (i := 2) (N := some 28) F41.b0 rfl rfl (one_of HT_.out pL) (by decide) (fun K hK => ?_)
       refine goes_ Try.func72 pL rfl #[.int .i64 ((rd_T29 l0 x5_2).f0), .int .i64 1, .int .i64 20] (by rfl) rfl rfl pM ?_
       with_reducible refine (spec_l6In.calls ((rd_T29 l0 x5_2).f0) 1 20 true _ A14.out).mono ?_
       rintro e w' ⟨rfl, ⟨nd, rfl⟩⟩
       refine ⟨_, rfl, ?_⟩
       refine hK.out _ _ F41.q0 (fun hHeld => ?_)
       clear hK K
       refine norm_ (a' := ?_) ?_ ?_
       rotate_left
       ·show Act.put _ (some 28) _ = _
        exact pP
       refine pv 3 (some 29) HT_ rfl rfl pL ?_
       refine pv 4 (some 30) HT_ rfl rfl pL ?_
       refine pv 5 (some 31) HT_ rfl rfl pL ?_
       refine tv 6 (some 32) HT_ HW_ rfl rfl pL (fun _ _ _ h => h) (by rfl) (by rintro w' ⟨s0, s1, s2⟩; go_simp; with_reducible rfl) hHeld pP ?_
       refine one_ (i := 7) (N := some 33) F41.b1 rfl rfl (one_of HT_.out pL) (by decide) (fun K hK => ?_)
       refine goes_ Try.func72 pL rfl #[.int .i64 ((rd_T29 l0 x5_2).f1), .int .i64 1, .int .i64 12] (by rfl) rfl rfl pM ?_
       with_reducible refine (spec_l6In.calls ((rd_T29 l0 x5_2).f1) 1 12 true _ A16.out).mono ?_
       rintro e w' ⟨rfl, ⟨nd, rfl⟩⟩
       refine ⟨_, rfl, ?_⟩
       refine hK.out _ _ F41.q0 (fun hHeld => ?_)
       clear hK K
       refine norm_ (a' := ?_) ?_ ?_
       rotate_left
       ·show Act.put _ (some 33) _ = _
        exact pP
       refine pv 8 (some 34) HT_ rfl rfl pL ?_
       refine pv 9 (some 35) HT_ rfl rfl pL ?_
       refine pv 10 (some 36) HT_ rfl rfl pL ?_
       refine pv 11 (some 37) HT_ rfl rfl pL ?_
       refine tv 12 (some 38) HT_ HW_ rfl rfl pL (fun _ _ _ h => h) (by rfl) (by rintro w' ⟨s0, s1, s2⟩; go_simp; with_reducible rfl) hHeld pP ?_
       refine pv 13 (some 39) HT_ rfl rfl pL ?_
       refine one_ (i := 14) (N := some 40) F41.b2 rfl rfl (one_of HT_.out pL) (by decide) (fun K hK => ?_)
       refine goes_ Try.func72 pL rfl #[.int .i64 (((rd_T29 l0 x5_2).f2).length : Int), .int .i64 1, .int .i64 5] (by rfl) rfl rfl pM ?_
       with_reducible refine (spec_l6In.calls (((rd_T29 l0 x5_2).f2).length : Int) 1 5 false _ A18.out).mono ?_
       rintro e w' ⟨rfl, ⟨nd, rfl⟩⟩
       refine ⟨_, rfl, ?_⟩
       refine hK.out _ _ F41.q0 (fun hHeld => ?_)
       clear hK K
       refine norm_ (a' := ?_) ?_ ?_
       rotate_left
       ·show Act.put _ (some 40) _ = _
        exact pP
       refine pv 15 (some 41) HT_ rfl rfl pL ?_
       refine pv 16 (some 42) HT_ rfl rfl pL ?_
       refine pv 17 (some 43) HT_ rfl rfl pL ?_
       refine uv 18 (some 44) HT_ rfl rfl pL ?_
       refine uv 19 (some 45) HT_ rfl rfl pL ?_
       refine uv 20 (some 46) HT_ rfl rfl pL ?_
       refine uv 21 (some 47) HT_ rfl rfl pL ?_
       refine uv 22 (some 48) HT_ rfl rfl pL ?_
       refine un 23 (some 49) F41.b3 HT_ rfl rfl pL (fun _ _ _ h => h) (by rfl) pP ?_
       refine uv 24 (some 50) HT_ rfl rfl pL ?_
       refine uv 25 (some 51) HT_ rfl rfl pL ?_
       refine uv 26 (some 52) HT_ rfl rfl pL ?_
       refine uv 27 (some 53) HT_ rfl rfl pL ?_
       refine uv 28 (some 54) HT_ rfl rfl pL ?_
       refine uv 29 (some 55) HT_ rfl rfl pL ?_
       refine uv 30 (some 56) HT_ rfl rfl pL ?_
       refine pv 31 (some 57) HT_ rfl rfl pL ?_
       refine done_ (done_of HT_.out pL) ?_
       try go_wp2
       go_meet
       case rel => exact ⟨_, (true), pF, H', ⟨by have := HJ2.out; have := HK2.out; first | omega | exact Nat.le_refl _⟩, ⟨pC BK315⟩, ⟨pG GE315⟩⟩
      subst c19
      have H1 : (if x5_2 > 0 then (if 0 ≤ (wrap64 (x5_2 - 1)) then (if (wrap64 (x5_2 - 1)) < (l0.length : Int) then (spec_DishesValid.j2 k2 l0 l1 x5_2 (decide (((rd_T29 l0 (wrap64 (x5_2 - 1))).f0) ≥ ((rd_T29 l0 x5_2).f0))) ((rd_T29 l0 x5_2).f0) ((rd_T29 l0 x5_2).f1) ((rd_T29 l0 x5_2).f2)) else (none)) else (none)) else (spec_DishesValid.j2 k2 l0 l1 x5_2 false ((rd_T29 l0 x5_2).f0) ((rd_T29 l0 x5_2).f1) ((rd_T29 l0 x5_2).f2))) = some r := by rw [if_pos rfl] at H; exact H
      clear H
      have H := H1
      clear H1
      rcases (Classical.em (x5_2 > 0)).symm with c20 | c20
      ·rw [if_neg c20] at H
       have c20b0 : decide (0 < x5_2) = false := decide_eq_false c20
       clear c20
       (first | rw [c20b0] | (simp only [i64_w, i32_w]; rw [c20b0]) | skip)
       have H' := Aside0.mk H
       clear H
       try go_wp2
       have n0_ : Aside0 ((((w12.setCell ⟨gb315, 0, none⟩ (.int .i64 ((rd_T29 l0 x5_2).f0))).setCell ⟨gb315, 1, none⟩ (.int .i64 ((rd_T29 l0 x5_2).f1))).setCell ⟨gb315, 2, none⟩ (.slice A314_2 ((rd_T29 l0 x5_2).f2).length c314_2)).heap[gb315]? = some (.cells #[.int .i64 ((rd_T29 l0 x5_2).f0), .int .i64 ((rd_T29 l0 x5_2).f1), .slice A314_2 ((rd_T29 l0 x5_2).f2).length c314_2] 29 (0, 0))) := ⟨by (with_reducible repeat (first | refine blk_drewN ?_ _ | refine blk_drew ?_ | refine blk_alloc ?_ _)); refine blk_put (cs := #[.int .i64 ((rd_T29 l0 x5_2).f0), .int .i64 ((rd_T29 l0 x5_2).f1), .slice none 0 0]) ?_ 2 _ rfl; (with_reducible repeat (first | refine blk_drewN ?_ _ | refine blk_drew ?_ | refine blk_alloc ?_ _)); refine blk_put (cs := #[.int .i64 ((rd_T29 l0 x5_2).f0), .int .i64 0, .slice none 0 0]) ?_ 1 _ rfl; (with_reducible repeat (first | refine blk_drewN ?_ _ | refine blk_drew ?_ | refine blk_alloc ?_ _)); refine blk_put (cs := #[.int .i64 0, .int .i64 0, .slice none 0 0]) ?_ 0 _ rfl; (with_reducible repeat (first | refine blk_drewN ?_ _ | refine blk_drew ?_ | refine blk_alloc ?_ _)); exact BK315.out⟩
       have n1_ : Aside0 (Below w.heap.size w (((w12.setCell ⟨gb315, 0, none⟩ (.int .i64 ((rd_T29 l0 x5_2).f0))).setCell ⟨gb315, 1, none⟩ (.int .i64 ((rd_T29 l0 x5_2).f1))).setCell ⟨gb315, 2, none⟩ (.slice A314_2 ((rd_T29 l0 x5_2).f2).length c314_2))) := ⟨pG GE315⟩
       (try clear BK315)
       (try clear HB)
       generalize (((w12.setCell ⟨gb315, 0, none⟩ (.int .i64 ((rd_T29 l0 x5_2).f0))).setCell ⟨gb315, 1, none⟩ (.int .i64 ((rd_T29 l0 x5_2).f1))).setCell ⟨gb315, 2, none⟩ (.slice A314_2 ((rd_T29 l0 x5_2).f2).length c314_2)) = w26 at n0_ n1_ ⊢
       have BK315 := n0_
       have HB := n1_
       clear n0_ n1_
       have n0_ := Aside0.mk (blk_drew BK315.out)
       have n1_ := Aside0.mk (below_drew1 HB.out)
       clear BK315
       clear HB
       have BK315 := n0_
       have HB := n1_
       clear n0_ n1_
       refine start_ (n := 32) (S := fun w' => w'.cell? ⟨gb315, 0, none⟩ = some (.int .i64 ((rd_T29 l0 x5_2).f0)) ∧ w'.cell? ⟨gb315, 1, none⟩ = some (.int .i64 ((rd_T29 l0 x5_2).f1)) ∧ w'.cell? ⟨gb315, 2, none⟩ = some (.slice A314_2 ((rd_T29 l0 x5_2).f2).length c314_2)) (ds := []) #[false, false, false, false, false, false, false, false, false, false, false, false, false, false, false, false, false, false, false, false, false, false, false, false, false, false, false, false, false, false, false, false] pL rfl rfl ⟨(blk_cell BK315.out 0).trans rfl, (blk_cell BK315.out 1).trans rfl, (blk_cell BK315.out 2).trans rfl⟩ (fun hHeld => ?_); refine with_tabW spec_DishesValid.tab7 spec_DishesValid.bits7 (fun HT_ HW_ => ?_)
       generalize w26.drew = w27 at BK315 HB hHeld ⊢
       refine pv 0 (some 26) HT_ rfl rfl pL ?_
       refine tv 1 (some 27) HT_ HW_ rfl rfl pL (fun _ _ _ h => h) (by rfl) (by rintro w' ⟨s0, s1, s2⟩; go_simp; with_reducible rfl) hHeld pP ?_
       refine one_ (i := 2) (N := some 28) F41.b0 rfl rfl (one_of HT_.out pL) (by decide) (fun K hK => ?_)
       refine goes_ Try.func72 pL rfl #[.int .i64 ((rd_T29 l0 x5_2).f0), .int .i64 1, .int .i64 20] (by rfl) rfl rfl pM ?_
       with_reducible refine (spec_l6In.calls ((rd_T29 l0 x5_2).f0) 1 20 true _ A14.out).mono ?_
       rintro e w' ⟨rfl, ⟨nd, rfl⟩⟩
       refine ⟨_, rfl, ?_⟩
       refine hK.out _ _ F41.q0 (fun hHeld => ?_)
       clear hK K
       refine norm_ (a' := ?_) ?_ ?_
       rotate_left
       ·show Act.put _ (some 28) _ = _
        exact pP
       refine pv 3 (some 29) HT_ rfl rfl pL ?_
       refine pv 4 (some 30) HT_ rfl rfl pL ?_
       refine pv 5 (some 31) HT_ rfl rfl pL ?_
       refine tv 6 (some 32) HT_ HW_ rfl rfl pL (fun _ _ _ h => h) (by rfl) (by rintro w' ⟨s0, s1, s2⟩; go_simp; with_reducible rfl) hHeld pP ?_
       refine one_ (i := 7) (N := some 33) F41.b1 rfl rfl (one_of HT_.out pL) (by decide) (fun K hK => ?_)
       refine goes_ Try.func72 pL rfl #[.int .i64 ((rd_T29 l0 x5_2).f1), .int .i64 1, .int .i64 12] (by rfl) rfl rfl pM ?_
       with_reducible refine (spec_l6In.calls ((rd_T29 l0 x5_2).f1) 1 12 true _ A16.out).mono ?_
       rintro e w' ⟨rfl, ⟨nd, rfl⟩⟩
       refine ⟨_, rfl, ?_⟩
       refine hK.out _ _ F41.q0 (fun hHeld => ?_)
       clear hK K
       refine norm_ (a' := ?_) ?_ ?_
       rotate_left
       ·show Act.put _ (some 33) _ = _
        exact pP
       refine pv 8 (some 34) HT_ rfl rfl pL ?_
       refine pv 9 (some 35) HT_ rfl rfl pL ?_
       refine pv 10 (some 36) HT_ rfl rfl pL ?_
       refine pv 11 (some 37) HT_ rfl rfl pL ?_
       refine tv 12 (some 38) HT_ HW_ rfl rfl pL (fun _ _ _ h => h) (by rfl) (by rintro w' ⟨s0, s1, s2⟩; go_simp; with_reducible rfl) hHeld pP ?_
       refine pv 13 (some 39) HT_ rfl rfl pL ?_
       refine one_ (i := 14) (N := some 40) F41.b2 rfl rfl (one_of HT_.out pL) (by decide) (fun K hK => ?_)
       refine goes_ Try.func72 pL rfl #[.int .i64 (((rd_T29 l0 x5_2).f2).length : Int), .int .i64 1, .int .i64 5] (by rfl) rfl rfl pM ?_
       with_reducible refine (spec_l6In.calls (((rd_T29 l0 x5_2).f2).length : Int) 1 5 true _ A18.out).mono ?_
       rintro e w' ⟨rfl, ⟨nd, rfl⟩⟩
       refine ⟨_, rfl, ?_⟩
       refine hK.out _ _ F41.q0 (fun hHeld => ?_)
       clear hK K
       refine norm_ (a' := ?_) ?_ ?_
       rotate_left
       ·show Act.put _ (some 40) _ = _
        exact pP
       refine pv 15 (some 41) HT_ rfl rfl pL ?_
       refine pv 16 (some 42) HT_ rfl rfl pL ?_
       refine pv 17 (some 43) HT_ rfl rfl pL ?_
       refine pv 18 (some 44) HT_ rfl rfl pL ?_
       refine pv 19 (some 45) HT_ rfl rfl pL ?_
       refine pv 20 (some 46) HT_ rfl rfl pL ?_
       refine uv 21 (some 47) HT_ rfl rfl pL ?_
       refine uv 22 (some 48) HT_ rfl rfl pL ?_
       refine un 23 (some 49) F41.b3 HT_ rfl rfl pL (fun _ _ _ h => h) (by rfl) pP ?_
       refine uv 24 (some 50) HT_ rfl rfl pL ?_
       refine uv 25 (some 51) HT_ rfl rfl pL ?_
       refine uv 26 (some 52) HT_ rfl rfl pL ?_
       refine uv 27 (some 53) HT_ rfl rfl pL ?_
       refine uv 28 (some 54) HT_ rfl rfl pL ?_
       refine uv 29 (some 55) HT_ rfl rfl pL ?_
       refine pv 30 (some 56) HT_ rfl rfl pL ?_
       refine pv 31 (some 57) HT_ rfl rfl pL ?_
       refine done_ (done_of HT_.out pL) ?_
       try go_wp2
       go_meet
       case rel => exact ⟨_, (false), pF, H', ⟨by have := HJ2.out; have := HK2.out; first | omega | exact Nat.le_refl _⟩, ⟨pC BK315⟩, ⟨pG GE315⟩⟩
      rw [if_pos c20] at H
      have c20b0 : decide (0 < x5_2) = true := decide_eq_true c20
      clear c20
      (first | rw [c20b0] | (simp only [i64_w, i32_w]; rw [c20b0]) | skip)
      obtain ⟨ji21, hji21⟩ : ∃ j_ : Int, (wrap64 (x5_2 - 1)) = j_ := ⟨_, rfl⟩
      replace H : (if 0 ≤ (ji21) then (if (ji21) < (l0.length : Int) then (spec_DishesValid.j2 k2 l0 l1 x5_2 (decide (((rd_T29 l0 (ji21)).f0) ≥ ((rd_T29 l0 x5_2).f0))) ((rd_T29 l0 x5_2).f0) ((rd_T29 l0 x5_2).f1) ((rd_T29 l0 x5_2).f2)) else (none)) else (none)) = some r := by first | (rw [hji21] at H; exact H) | (simp only [hji21] at H ⊢; exact H)
      (try rw [hji21] at A14)
      (try rw [hji21] at A16)
      (try rw [hji21] at A18)
      have hji21w : (IntKind.i64.wrap (x5_2 - 1)) = ji21 := (i64_w _).trans hji21
      rcases (Classical.em (0 ≤ (ji21))).symm with c22 | c22
      ·rw [if_neg c22] at H
       exact absurd H (by simp)
      rw [if_pos c22] at H
      have c22b0 : decide (0 ≤ (ji21)) = true := decide_eq_true c22
      clear c22
      rcases (Classical.em ((ji21) < (l0.length : Int))).symm with c23 | c23
      ·rw [if_neg c23] at H
       exact absurd H (by simp)
      rw [if_pos c23] at H
      have c23b0 : decide ((ji21) < (l0.length : Int)) = true := decide_eq_true c23
      clear c23
      have H' := Aside0.mk H
      clear H
      try go_wp2
      have n0_ : Aside0 ((((w12.setCell ⟨gb315, 0, none⟩ (.int .i64 ((rd_T29 l0 x5_2).f0))).setCell ⟨gb315, 1, none⟩ (.int .i64 ((rd_T29 l0 x5_2).f1))).setCell ⟨gb315, 2, none⟩ (.slice A314_2 ((rd_T29 l0 x5_2).f2).length c314_2)).heap[gb315]? = some (.cells #[.int .i64 ((rd_T29 l0 x5_2).f0), .int .i64 ((rd_T29 l0 x5_2).f1), .slice A314_2 ((rd_T29 l0 x5_2).f2).length c314_2] 29 (0, 0))) := ⟨by (with_reducible repeat (first | refine blk_drewN ?_ _ | refine blk_drew ?_ | refine blk_alloc ?_ _)); refine blk_put (cs := #[.int .i64 ((rd_T29 l0 x5_2).f0), .int .i64 ((rd_T29 l0 x5_2).f1), .slice none 0 0]) ?_ 2 _ rfl; (with_reducible repeat (first | refine blk_drewN ?_ _ | refine blk_drew ?_ | refine blk_alloc ?_ _)); refine blk_put (cs := #[.int .i64 ((rd_T29 l0 x5_2).f0), .int .i64 0, .slice none 0 0]) ?_ 1 _ rfl; (with_reducible repeat (first | refine blk_drewN ?_ _ | refine blk_drew ?_ | refine blk_alloc ?_ _)); refine blk_put (cs := #[.int .i64 0, .int .i64 0, .slice none 0 0]) ?_ 0 _ rfl; (with_reducible repeat (first | refine blk_drewN ?_ _ | refine blk_drew ?_ | refine blk_alloc ?_ _)); exact BK315.out⟩
      have n1_ : Aside0 (Below w.heap.size w (((w12.setCell ⟨gb315, 0, none⟩ (.int .i64 ((rd_T29 l0 x5_2).f0))).setCell ⟨gb315, 1, none⟩ (.int .i64 ((rd_T29 l0 x5_2).f1))).setCell ⟨gb315, 2, none⟩ (.slice A314_2 ((rd_T29 l0 x5_2).f2).length c314_2))) := ⟨pG GE315⟩
      (try clear BK315)
      (try clear HB)
      generalize (((w12.setCell ⟨gb315, 0, none⟩ (.int .i64 ((rd_T29 l0 x5_2).f0))).setCell ⟨gb315, 1, none⟩ (.int .i64 ((rd_T29 l0 x5_2).f1))).setCell ⟨gb315, 2, none⟩ (.slice A314_2 ((rd_T29 l0 x5_2).f2).length c314_2)) = w24 at n0_ n1_ ⊢
      have BK315 := n0_
      have HB := n1_
      clear n0_ n1_
      have n0_ := Aside0.mk (blk_drew BK315.out)
      have n1_ := Aside0.mk (below_drew1 HB.out)
      clear BK315
      clear HB
      have BK315 := n0_
      have HB := n1_
      clear n0_ n1_
      have p319 : 0 ≤ ((ji21) : Int) := of_decide_eq_true pA
      have q319 : (ji21) < (l0.length : Int) := of_decide_eq_true pA
      obtain ⟨ad319, A319_2, c319_2, e319, hx319_0, hx319_1, hx319_2, hl319_2, hi319_2⟩ := at_T29 HR0.out (ji21) p319 q319
      have hw319_2 := hx319_2
      have hw319_1 := hx319_1
      have hw319_0 := hx319_0
      obtain rfl : ad314 = ad319 := (by injection e319)
      replace hx319_0 := (HB.out.cell (World.block_lt_of_cell? w _ hx319_0)).trans hx319_0
      replace hx319_1 := (HB.out.cell (World.block_lt_of_cell? w _ hx319_1)).trans hx319_1
      replace hx319_2 := (HB.out.cell (World.block_lt_of_cell? w _ hx319_2)).trans hx319_2
      have HR319_2 := Aside0.mk (hi319_2)
      have HC319_2 := Aside0.mk hl319_2
      clear hi319_2 hl319_2
      replace p319 := eq_true p319
      replace q319 := eq_true q319
      refine start_ (n := 32) (S := fun w' => w'.cell? ⟨gb315, 0, none⟩ = some (.int .i64 ((rd_T29 l0 x5_2).f0)) ∧ w'.cell? ⟨gb315, 1, none⟩ = some (.int .i64 ((rd_T29 l0 x5_2).f1)) ∧ w'.cell? ⟨gb315, 2, none⟩ = some (.slice A314_2 ((rd_T29 l0 x5_2).f2).length c314_2) ∧ w'.cell? (ad314.add (((ji21)).toNat * 3)) = some (.int .i64 ((rd_T29 l0 (ji21)).f0)) ∧ w'.cell? ⟨(ad314.add (((ji21)).toNat * 3)).block, (ad314.add (((ji21)).toNat * 3)).off + 1, none⟩ = some (.int .i64 ((rd_T29 l0 (ji21)).f1)) ∧ w'.cell? ⟨(ad314.add (((ji21)).toNat * 3)).block, (ad314.add (((ji21)).toNat * 3)).off + 2, none⟩ = some (.slice A319_2 ((rd_T29 l0 (ji21)).f2).length c319_2)) (ds := []) #[false, false, false, false, false, false, false, false, false, false, false, false, false, false, false, false, false, false, false, false, false, false, false, false, false, false, false, false, false, false, false, false] pL rfl rfl ⟨(blk_cell BK315.out 0).trans rfl, (blk_cell BK315.out 1).trans rfl, (blk_cell BK315.out 2).trans rfl, ((HB.out.cell (World.block_lt_of_cell? w _ hw319_0)).trans hw319_0), ((HB.out.cell (World.block_lt_of_cell? w _ hw319_1)).trans hw319_1), ((HB.out.cell (World.block_lt_of_cell? w _ hw319_2)).trans hw319_2)⟩ (fun hHeld => ?_); refine with_tabW spec_DishesValid.tab7 spec_DishesValid.bits7 (fun HT_ HW_ => ?_)
      generalize w24.drew = w25 at BK315 HB HR319_2 hx319_0 hx319_1 hx319_2 hHeld ⊢
      refine pv 0 (some 26) HT_ rfl rfl pL ?_
      refine tv 1 (some 27) HT_ HW_ rfl rfl pL (fun _ _ _ h => h) (by rfl) (by rintro w' ⟨s0, s1, s2, s3, s4, s5⟩; go_simp; with_reducible rfl) hHeld pP ?_
      refine one_ (i := 2) (N := some 28) F41.b0 rfl rfl (one_of HT_.out pL) (by decide) (fun K hK => ?_)
      refine goes_ Try.func72 pL rfl #[.int .i64 ((rd_T29 l0 x5_2).f0), .int .i64 1, .int .i64 20] (by rfl) rfl rfl pM ?_
      with_reducible refine (spec_l6In.calls ((rd_T29 l0 x5_2).f0) 1 20 true _ A14.out).mono ?_
      rintro e w' ⟨rfl, ⟨nd, rfl⟩⟩
      refine ⟨_, rfl, ?_⟩
      refine hK.out _ _ F41.q1 (fun hHeld => ?_)
      clear hK K
      refine norm_ (a' := ?_) ?_ ?_
      rotate_left
      ·show Act.put _ (some 28) _ = _
       exact pP
      refine pv 3 (some 29) HT_ rfl rfl pL ?_
      refine pv 4 (some 30) HT_ rfl rfl pL ?_
      refine pv 5 (some 31) HT_ rfl rfl pL ?_
      refine tv 6 (some 32) HT_ HW_ rfl rfl pL (fun _ _ _ h => h) (by rfl) (by rintro w' ⟨s0, s1, s2, s3, s4, s5⟩; go_simp; with_reducible rfl) hHeld pP ?_
      refine one_ (i := 7) (N := some 33) F41.b1 rfl rfl (one_of HT_.out pL) (by decide) (fun K hK => ?_)
      refine goes_ Try.func72 pL rfl #[.int .i64 ((rd_T29 l0 x5_2).f1), .int .i64 1, .int .i64 12] (by rfl) rfl rfl pM ?_
      with_reducible refine (spec_l6In.calls ((rd_T29 l0 x5_2).f1) 1 12 true _ A16.out).mono ?_
      rintro e w' ⟨rfl, ⟨nd, rfl⟩⟩
      refine ⟨_, rfl, ?_⟩
      refine hK.out _ _ F41.q1 (fun hHeld => ?_)
      clear hK K
      refine norm_ (a' := ?_) ?_ ?_
      rotate_left
      ·show Act.put _ (some 33) _ = _
       exact pP
      refine pv 8 (some 34) HT_ rfl rfl pL ?_
      refine pv 9 (some 35) HT_ rfl rfl pL ?_
      refine pv 10 (some 36) HT_ rfl rfl pL ?_
      refine pv 11 (some 37) HT_ rfl rfl pL ?_
      refine tv 12 (some 38) HT_ HW_ rfl rfl pL (fun _ _ _ h => h) (by rfl) (by rintro w' ⟨s0, s1, s2, s3, s4, s5⟩; go_simp; with_reducible rfl) hHeld pP ?_
      refine pv 13 (some 39) HT_ rfl rfl pL ?_
      refine one_ (i := 14) (N := some 40) F41.b2 rfl rfl (one_of HT_.out pL) (by decide) (fun K hK => ?_)
      refine goes_ Try.func72 pL rfl #[.int .i64 (((rd_T29 l0 x5_2).f2).length : Int), .int .i64 1, .int .i64 5] (by rfl) rfl rfl pM ?_
      with_reducible refine (spec_l6In.calls (((rd_T29 l0 x5_2).f2).length : Int) 1 5 true _ A18.out).mono ?_
      rintro e w' ⟨rfl, ⟨nd, rfl⟩⟩
      refine ⟨_, rfl, ?_⟩
      refine hK.out _ _ F41.q1 (fun hHeld => ?_)
      clear hK K
      refine norm_ (a' := ?_) ?_ ?_
      rotate_left
      ·show Act.put _ (some 40) _ = _
       exact pP
      refine pv 15 (some 41) HT_ rfl rfl pL ?_
      refine pv 16 (some 42) HT_ rfl rfl pL ?_
      refine pv 17 (some 43) HT_ rfl rfl pL ?_
      refine pv 18 (some 44) HT_ rfl rfl pL ?_
      refine pv 19 (some 45) HT_ rfl rfl pL ?_
      refine pv 20 (some 46) HT_ rfl rfl pL ?_
      refine pv 21 (some 47) HT_ rfl rfl pL ?_
      refine pv 22 (some 48) HT_ rfl rfl pL ?_
      refine pu 23 (some 49) F41.b3 HT_ rfl rfl pL (fun _ _ _ h => h) (by rfl) pY pP ?_
      refine pv 24 (some 50) HT_ rfl rfl pL ?_
      refine pv 25 (some 51) HT_ rfl rfl pL ?_
      refine pv 27 (some 53) HT_ rfl rfl pL ?_
      refine tv 26 (some 52) HT_ HW_ rfl rfl pL (fun _ _ _ h => h) (by rfl) (by rintro w' ⟨s0, s1, s2, s3, s4, s5⟩; go_simp; with_reducible rfl) hHeld pP ?_
      refine tv 28 (some 54) HT_ HW_ rfl rfl pL (fun _ _ _ h => h) (by rfl) (by rintro w' ⟨s0, s1, s2, s3, s4, s5⟩; go_simp; with_reducible rfl) hHeld pP ?_
      refine pv 29 (some 55) HT_ rfl rfl pL ?_
      refine pv 30 (some 56) HT_ rfl rfl pL ?_
      refine pv 31 (some 57) HT_ rfl rfl pL ?_
      refine done_ (done_of HT_.out pL) ?_
      try go_wp2
      go_meet
      case rel => exact ⟨_, (decide (((rd_T29 l0 (ji21)).f0) ≥ ((rd_T29 l0 x5_2).f0))), (by first | rfl | (simp; done) | (simp only [← hji21] <;> (first | rfl | simp)) | (simp [*]; done)), H', ⟨by have := HJ2.out; have := HK2.out; first | omega | exact Nat.le_refl _⟩, ⟨pC BK315⟩, ⟨pG GE315⟩⟩
     case rest =>
      clear HC11
      try clear c1
      try clear p2
      try clear c3
      try clear c7
      try clear c15
      try clear c17
      try clear c31
      obtain ⟨kq, x57_10, rfl, HA, HJ10, BK315, HB⟩ := hcut
      cases kq with
      | zero => exact absurd HA.out (by simp [spec_DishesValid.j2])
      | succ kj10 =>
       have H := HA.out
       clear HA
       simp only [spec_DishesValid.j2] at H
       by_cases c34 : x57_10 = true
       ·subst c34
        have H1 : (some false) = some r := by rw [if_pos rfl] at H; exact H
        clear H
        have H := H1
        clear H1
        obtain rfl := Option.some.inj H
        go_wp2
        go_ret
        exact ⟨pE, pG GE315⟩
       replace c34 := Bool.eq_false_iff.mpr c34
       subst c34
       have H1 : (spec_DishesValid.l1 kj10 l0 l1 x5_2 0 ((rd_T29 l0 x5_2).f0) ((rd_T29 l0 x5_2).f1) ((rd_T29 l0 x5_2).f2)) = some r := by rw [if_neg (show ¬ (false = true) by decide)] at H; exact H
       clear H
       have H := H1
       clear H1
       have H' := Aside0.mk H
       clear H
       go_wp2
       go_loopg [7] kj10 (fun kq v7 w' => ∃ (x7_4 : Int), v7 = .int .i64 x7_4 ∧ Aside0 (spec_DishesValid.l1 kq l0 l1 x5_2 x7_4 ((rd_T29 l0 x5_2).f0) ((rd_T29 l0 x5_2).f1) ((rd_T29 l0 x5_2).f2) = some r) ∧ Aside0 (kq ≤ kj10) ∧ Aside0 (w'.heap[gb315]? = some (.cells #[.int .i64 ((rd_T29 l0 x5_2).f0), .int .i64 ((rd_T29 l0 x5_2).f1), (.slice A314_2 ((rd_T29 l0 x5_2).f2).length c314_2)] 29 (0, 0))) ∧ Aside0 (Below w.heap.size w w'))
       case atStart => exact ⟨(0), pF, H', ⟨Nat.le_refl _⟩, ⟨pC BK315⟩, ⟨pG GE315⟩⟩
       case round =>
        clear H'
        try clear c1
        try clear p2
        try clear c3
        try clear c7
        try clear c15
        try clear c17
        try clear c31
        try clear c34
        try clear p2
        obtain ⟨x7_4, rfl, HA, HK4, BK315, HB⟩ := hrel
        cases gk with
        | zero => exact absurd HA.out (by simp [spec_DishesValid.l1])
        | succ k4 =>
         have H := HA.out
         clear HA
         simp only [spec_DishesValid.l1] at H
         rcases (Classical.em (x7_4 < (((rd_T29 l0 x5_2).f2).length : Int))).symm with c35 | c35
         ·rw [if_neg c35] at H
          have c35b0 : decide (x7_4 < (((rd_T29 l0 x5_2).f2).length : Int)) = false := decide_eq_false c35
          clear c35
          have H' := Aside0.mk H
          clear H
          have hcz49_0 : wr.cell? ⟨gb315, 0, none⟩ = some (.int .i64 ((rd_T29 l0 x5_2).f0)) := (blk_cell BK315.out 0).trans rfl
          have hcz49_1 : wr.cell? ⟨gb315, 1, none⟩ = some (.int .i64 ((rd_T29 l0 x5_2).f1)) := (blk_cell BK315.out 1).trans rfl
          have hcz49_2 : wr.cell? ⟨gb315, 2, none⟩ = some (.slice A314_2 ((rd_T29 l0 x5_2).f2).length c314_2) := (blk_cell BK315.out 2).trans rfl
          have hfz49_0 := blk_frozen BK315.out 0
          have hfz49_1 := blk_frozen BK315.out 1
          have hfz49_2 := blk_frozen BK315.out 2
          go_wp2
          go_roundg k4
          case measure => have := HJ2.out; have := HK2.out; have := HJ10.out; have := HK4.out; omega
          case rel => exact ⟨(wrap64 (x5_2 + 1)), pF, H', ⟨by have := HJ2.out; have := HK2.out; have := HJ10.out; have := HK4.out; omega⟩, ⟨pG GE315⟩⟩
         rw [if_pos c35] at H
         have c35b0 : decide (x7_4 < (((rd_T29 l0 x5_2).f2).length : Int)) = true := decide_eq_true c35
         clear c35
         rcases (Classical.em (0 ≤ x5_2)).symm with c36 | c36
         ·rw [if_neg c36] at H
          exact absurd H (by simp)
         rw [if_pos c36] at H
         have c36b0 := eq_true c36
         have c36b1 : decide (0 ≤ x5_2) = true := decide_eq_true c36
         clear c36
         rcases (Classical.em (x5_2 ≤ (l0.length : Int))).symm with c37 | c37
         ·rw [if_neg c37] at H
          exact absurd H (by simp)
         rw [if_pos c37] at H
         have c37b0 := eq_true c37
         have c37b1 : decide (x5_2 ≤ (l0.length : Int)) = true := decide_eq_true c37
         clear c37
         obtain ⟨y320, hy320⟩ : ∃ y_ : List (S29), y_ = (l0.take (x5_2 : Int).toNat) := ⟨_, rfl⟩
         replace H : (if 0 ≤ x7_4 then ((spec_l11Part.f k4 y320 l1 ((rd_T55 ((rd_T29 l0 x5_2).f2) x7_4).f0) ((rd_T55 ((rd_T29 l0 x5_2).f2) x7_4).f1) ((rd_T55 ((rd_T29 l0 x5_2).f2) x7_4).f2)).bind fun t325 => (if t325 = true then (spec_DishesValid.l1 k4 l0 l1 x5_2 (wrap64 (x7_4 + 1)) ((rd_T29 l0 x5_2).f0) ((rd_T29 l0 x5_2).f1) ((rd_T29 l0 x5_2).f2)) else (some false))) else (none)) = some r := pJ hy320 H
         have Ny320 := Aside0.mk hy320
         clear hy320
         rcases (Classical.em (0 ≤ x7_4)).symm with c38 | c38
         ·rw [if_neg c38] at H
          exact absurd H (by simp)
         rw [if_pos c38] at H
         have c38b0 : decide (0 ≤ x7_4) = true := decide_eq_true c38
         clear c38
         replace H := Option.bind_eq_some_iff.mp H
         obtain ⟨t325, A390, H⟩ := H
         replace H : (if t325 = true then (spec_DishesValid.l1 k4 l0 l1 x5_2 (wrap64 (x7_4 + 1)) ((rd_T29 l0 x5_2).f0) ((rd_T29 l0 x5_2).f1) ((rd_T29 l0 x5_2).f2)) else (some false)) = some r := H
         have A39 := Aside0.mk A390
         clear A390
         rcases (Classical.em (t325 = true)).symm with c40 | c40
         ·replace c40 := Bool.eq_false_iff.mpr c40
          subst c40
          have H1 : (some false) = some r := by rw [if_neg (show ¬ (false = true) by decide)] at H; exact H
          clear H
          have H := H1
          clear H1
          obtain rfl := Option.some.inj H
          have hcz45_0 : wr.cell? ⟨gb315, 0, none⟩ = some (.int .i64 ((rd_T29 l0 x5_2).f0)) := (blk_cell BK315.out 0).trans rfl
          have hcz45_1 : wr.cell? ⟨gb315, 1, none⟩ = some (.int .i64 ((rd_T29 l0 x5_2).f1)) := (blk_cell BK315.out 1).trans rfl
          have hcz45_2 : wr.cell? ⟨gb315, 2, none⟩ = some (.slice A314_2 ((rd_T29 l0 x5_2).f2).length c314_2) := (blk_cell BK315.out 2).trans rfl
          have hfz45_0 := blk_frozen BK315.out 0
          have hfz45_1 := blk_frozen BK315.out 1
          have hfz45_2 := blk_frozen BK315.out 2
          try go_wp2
          have n0_ := Aside0.mk (blk_drew BK315.out)
          have n1_ := Aside0.mk (below_drew1 HB.out)
          clear BK315
          clear HB
          have BK315 := n0_
          have HB := n1_
          clear n0_ n1_
          have q47 : (x5_2 : Int) ≤ ((l0.length : Int) : Int) := of_decide_eq_true pA
          obtain ⟨i047, hi047, _, hsz47, _⟩ := info_parts info29
          have hroom47 : l0.length ≤ c0 := HC0.out
          have hC47 : Kd.C k29 _ (some ad314) l0.length l0 := HR0.out
          have hcut47 := cut_to (P := Try.prog) 23 29 .i64 Try.underlying23 hi047 (some ad314) l0.length c0 x5_2 (of_decide_eq_true pA) q47 hroom47
          have hr47 := Kd.C_take (m := (x5_2 : Int).toNat) hC47 (by omega)
          have hy47 : y320.length = (x5_2 : Int).toNat := (by rw [Ny320.out, List.length_take]; omega)
          rw [← Ny320.out] at hr47
          rw [← hy47] at hcut47
          have HR323 := Aside0.mk hr47
          have HC323 := Aside0.mk (show y320.length ≤ c0 from by omega)
          clear hr47 hC47 hroom47 hi047 hsz47
          have KY47 := Aside0.mk hy47
          clear hy47
          replace q47 := eq_true q47
          have p324 : 0 ≤ (x7_4 : Int) := of_decide_eq_true pA
          have q324 : x7_4 < (((rd_T29 l0 x5_2).f2).length : Int) := of_decide_eq_true pA
          obtain ⟨ad324, e324, hx324_0, hx324_1, hx324_2⟩ := at_T55 HR314_2.out x7_4 p324 q324
          have hw324_2 := hx324_2
          have hw324_1 := hx324_1
          have hw324_0 := hx324_0
          cases e324
          replace hx324_0 := (HB.out.cell (World.block_lt_of_cell? w _ hx324_0)).trans hx324_0
          replace hx324_1 := (HB.out.cell (World.block_lt_of_cell? w _ hx324_1)).trans hx324_1
          replace hx324_2 := (HB.out.cell (World.block_lt_of_cell? w _ hx324_2)).trans hx324_2
          replace p324 := eq_true p324
          replace q324 := eq_true q324
          refine start_ (n := 11) (S := fun w' => w'.cell? ⟨gb315, 0, none⟩ = some (.int .i64 ((rd_T29 l0 x5_2).f0)) ∧ w'.cell? ⟨gb315, 1, none⟩ = some (.int .i64 ((rd_T29 l0 x5_2).f1)) ∧ w'.cell? ⟨gb315, 2, none⟩ = some (.slice (some ad324) ((rd_T29 l0 x5_2).f2).length c314_2) ∧ w'.cell? (ad324.add ((x7_4).toNat * 3)) = some (.int .i64 ((rd_T55 ((rd_T29 l0 x5_2).f2) x7_4).f0)) ∧ w'.cell? ⟨(ad324.add ((x7_4).toNat * 3)).block, (ad324.add ((x7_4).toNat * 3)).off + 1, none⟩ = some (.int .i64 ((rd_T55 ((rd_T29 l0 x5_2).f2) x7_4).f1)) ∧ w'.cell? ⟨(ad324.add ((x7_4).toNat * 3)).block, (ad324.add ((x7_4).toNat * 3)).off + 2, none⟩ = some (.int .i64 ((rd_T55 ((rd_T29 l0 x5_2).f2) x7_4).f2))) (ds := []) #[false, false, false, false, false, false, false, false, false, false, false] pL rfl rfl ⟨(blk_cell BK315.out 0).trans rfl, (blk_cell BK315.out 1).trans rfl, (blk_cell BK315.out 2).trans rfl, ((HB.out.cell (World.block_lt_of_cell? w _ hw324_0)).trans hw324_0), ((HB.out.cell (World.block_lt_of_cell? w _ hw324_1)).trans hw324_1), ((HB.out.cell (World.block_lt_of_cell? w _ hw324_2)).trans hw324_2)⟩ (fun hHeld => ?_); refine with_tabW spec_DishesValid.tab12 spec_DishesValid.bits12 (fun HT_ HW_ => ?_)
          generalize wr.drew = w46 at BK315 HB HR323 hx324_0 hx324_1 hx324_2 hHeld ⊢
          refine pv 0 (some 65) HT_ rfl rfl pL ?_
          refine pv 1 (some 66) HT_ rfl rfl pL ?_
          refine pv 2 (some 67) HT_ rfl rfl pL ?_
          refine pv 3 (some 68) HT_ rfl rfl pL ?_
          refine pv 4 (some 69) HT_ rfl rfl pL ?_
          refine pv 6 (some 71) HT_ rfl rfl pL ?_
          refine tv 5 (some 70) HT_ HW_ rfl rfl pL (fun _ _ _ h => h) (by rfl) (by rintro w' ⟨s0, s1, s2, s3, s4, s5⟩; go_simp; with_reducible rfl) hHeld pP ?_
          refine pv 7 (some 72) HT_ rfl rfl pL ?_
          refine tk 8 (some 73) F41.b4 HT_ HW_ rfl rfl pL (fun _ _ _ h => h) (by rfl) (by rintro w' ⟨s0, s1, s2, s3, s4, s5⟩; go_simp; with_reducible rfl) hHeld pP ?_
          refine one_ (i := 9) (N := some 74) F41.b5 rfl rfl (one_of HT_.out pL) (by decide) (fun K hK => ?_)
          refine goes_ Try.func83 pL rfl #[.slice (some ad314) y320.length c0, .slice A1 l1.length c1, .agg #[.int .i64 ((rd_T55 ((rd_T29 l0 x5_2).f2) x7_4).f0), .int .i64 ((rd_T55 ((rd_T29 l0 x5_2).f2) x7_4).f1), .int .i64 ((rd_T55 ((rd_T29 l0 x5_2).f2) x7_4).f2)]] (by rfl) rfl rfl pM ?_
          with_reducible refine (spec_l11Part.calls k4 _ _ y320 _ _ l1 ((rd_T55 ((rd_T29 l0 x5_2).f2) x7_4).f0) ((rd_T55 ((rd_T29 l0 x5_2).f2) x7_4).f1) ((rd_T55 ((rd_T29 l0 x5_2).f2) x7_4).f2) false _ ?side1 ?side2 ?side3 ?side4 A39.out).mono ?_
          (case side1 => exact pS ((Kd.C_below HR323.out HB.out)))
          (case side2 => exact HC323.out)
          (case side3 => exact pS ((Kd.C_below HR1.out HB.out)))
          (case side4 => exact HC1.out)
          rintro e w48 ⟨rfl, hb⟩
          refine ⟨_, rfl, ?_⟩
          have n0_ := Aside0.mk (blk_below (g := gb315) (o := .cells #[.int .i64 ((rd_T29 l0 x5_2).f0), .int .i64 ((rd_T29 l0 x5_2).f1), .slice (some ad324) ((rd_T29 l0 x5_2).f2).length c314_2] 29 (0, 0)) (pC BK315) hb)
          have n1_ := Aside0.mk (below_step (pG GE315) hb)
          clear BK315
          clear HB
          have BK315 := n0_
          have HB := n1_
          clear n0_ n1_
          (try clear hb)
          (try clear hb2)
          (try clear hk)
          (try clear hi)
          refine hK.out _ _ ⟨(blk_cell BK315.out 0).trans rfl, (blk_cell BK315.out 1).trans rfl, (blk_cell BK315.out 2).trans rfl, ((HB.out.cell (World.block_lt_of_cell? w _ hw324_0)).trans hw324_0), ((HB.out.cell (World.block_lt_of_cell? w _ hw324_1)).trans hw324_1), ((HB.out.cell (World.block_lt_of_cell? w _ hw324_2)).trans hw324_2)⟩ (fun hHeld => ?_)
          clear hK K
          refine norm_ (a' := ?_) ?_ ?_
          rotate_left
          ·show Act.put _ (some 74) _ = _
           exact pP
          refine pv 10 (some 75) HT_ rfl rfl pL ?_
          refine done_ (done_of HT_.out pL) ?_
          try go_wp2
          go_ret
          exact ⟨pE, pG GE315⟩
         subst c40
         have H1 : (spec_DishesValid.l1 k4 l0 l1 x5_2 (wrap64 (x7_4 + 1)) ((rd_T29 l0 x5_2).f0) ((rd_T29 l0 x5_2).f1) ((rd_T29 l0 x5_2).f2)) = some r := by rw [if_pos rfl] at H; exact H
         clear H
         have H := H1
         clear H1
         have H' := Aside0.mk H
         clear H
         have hcz41_0 : wr.cell? ⟨gb315, 0, none⟩ = some (.int .i64 ((rd_T29 l0 x5_2).f0)) := (blk_cell BK315.out 0).trans rfl
         have hcz41_1 : wr.cell? ⟨gb315, 1, none⟩ = some (.int .i64 ((rd_T29 l0 x5_2).f1)) := (blk_cell BK315.out 1).trans rfl
         have hcz41_2 : wr.cell? ⟨gb315, 2, none⟩ = some (.slice A314_2 ((rd_T29 l0 x5_2).f2).length c314_2) := (blk_cell BK315.out 2).trans rfl
         have hfz41_0 := blk_frozen BK315.out 0
         have hfz41_1 := blk_frozen BK315.out 1
         have hfz41_2 := blk_frozen BK315.out 2
         try go_wp2
         have n0_ := Aside0.mk (blk_drew BK315.out)
         have n1_ := Aside0.mk (below_drew1 HB.out)
         clear BK315
         clear HB
         have BK315 := n0_
         have HB := n1_
         clear n0_ n1_
         have q43 : (x5_2 : Int) ≤ ((l0.length : Int) : Int) := of_decide_eq_true pA
         obtain ⟨i043, hi043, _, hsz43, _⟩ := info_parts info29
         have hroom43 : l0.length ≤ c0 := HC0.out
         have hC43 : Kd.C k29 _ (some ad314) l0.length l0 := HR0.out
         have hcut43 := cut_to (P := Try.prog) 23 29 .i64 Try.underlying23 hi043 (some ad314) l0.length c0 x5_2 (of_decide_eq_true pA) q43 hroom43
         have hr43 := Kd.C_take (m := (x5_2 : Int).toNat) hC43 (by omega)
         have hy43 : y320.length = (x5_2 : Int).toNat := (by rw [Ny320.out, List.length_take]; omega)
         rw [← Ny320.out] at hr43
         rw [← hy43] at hcut43
         have HR323 := Aside0.mk hr43
         have HC323 := Aside0.mk (show y320.length ≤ c0 from by omega)
         clear hr43 hC43 hroom43 hi043 hsz43
         have KY43 := Aside0.mk hy43
         clear hy43
         replace q43 := eq_true q43
         have p324 : 0 ≤ (x7_4 : Int) := of_decide_eq_true pA
         have q324 : x7_4 < (((rd_T29 l0 x5_2).f2).length : Int) := of_decide_eq_true pA
         obtain ⟨ad324, e324, hx324_0, hx324_1, hx324_2⟩ := at_T55 HR314_2.out x7_4 p324 q324
         have hw324_2 := hx324_2
         have hw324_1 := hx324_1
         have hw324_0 := hx324_0
         cases e324
         replace hx324_0 := (HB.out.cell (World.block_lt_of_cell? w _ hx324_0)).trans hx324_0
         replace hx324_1 := (HB.out.cell (World.block_lt_of_cell? w _ hx324_1)).trans hx324_1
         replace hx324_2 := (HB.out.cell (World.block_lt_of_cell? w _ hx324_2)).trans hx324_2
         replace p324 := eq_true p324
         replace q324 := eq_true q324
         refine start_ (n := 11) (S := fun w' => w'.cell? ⟨gb315, 0, none⟩ = some (.int .i64 ((rd_T29 l0 x5_2).f0)) ∧ w'.cell? ⟨gb315, 1, none⟩ = some (.int .i64 ((rd_T29 l0 x5_2).f1)) ∧ w'.cell? ⟨gb315, 2, none⟩ = some (.slice (some ad324) ((rd_T29 l0 x5_2).f2).length c314_2) ∧ w'.cell? (ad324.add ((x7_4).toNat * 3)) = some (.int .i64 ((rd_T55 ((rd_T29 l0 x5_2).f2) x7_4).f0)) ∧ w'.cell? ⟨(ad324.add ((x7_4).toNat * 3)).block, (ad324.add ((x7_4).toNat * 3)).off + 1, none⟩ = some (.int .i64 ((rd_T55 ((rd_T29 l0 x5_2).f2) x7_4).f1)) ∧ w'.cell? ⟨(ad324.add ((x7_4).toNat * 3)).block, (ad324.add ((x7_4).toNat * 3)).off + 2, none⟩ = some (.int .i64 ((rd_T55 ((rd_T29 l0 x5_2).f2) x7_4).f2))) (ds := []) #[false, false, false, false, false, false, false, false, false, false, false] pL rfl rfl ⟨(blk_cell BK315.out 0).trans rfl, (blk_cell BK315.out 1).trans rfl, (blk_cell BK315.out 2).trans rfl, ((HB.out.cell (World.block_lt_of_cell? w _ hw324_0)).trans hw324_0), ((HB.out.cell (World.block_lt_of_cell? w _ hw324_1)).trans hw324_1), ((HB.out.cell (World.block_lt_of_cell? w _ hw324_2)).trans hw324_2)⟩ (fun hHeld => ?_); refine with_tabW spec_DishesValid.tab12 spec_DishesValid.bits12 (fun HT_ HW_ => ?_)
         generalize wr.drew = w42 at BK315 HB HR323 hx324_0 hx324_1 hx324_2 hHeld ⊢
         refine pv 0 (some 65) HT_ rfl rfl pL ?_
         refine pv 1 (some 66) HT_ rfl rfl pL ?_
         refine pv 2 (some 67) HT_ rfl rfl pL ?_
         refine pv 3 (some 68) HT_ rfl rfl pL ?_
         refine pv 4 (some 69) HT_ rfl rfl pL ?_
         refine pv 6 (some 71) HT_ rfl rfl pL ?_
         refine tv 5 (some 70) HT_ HW_ rfl rfl pL (fun _ _ _ h => h) (by rfl) (by rintro w' ⟨s0, s1, s2, s3, s4, s5⟩; go_simp; with_reducible rfl) hHeld pP ?_
         refine pv 7 (some 72) HT_ rfl rfl pL ?_
         refine tk 8 (some 73) F41.b4 HT_ HW_ rfl rfl pL (fun _ _ _ h => h) (by rfl) (by rintro w' ⟨s0, s1, s2, s3, s4, s5⟩; go_simp; with_reducible rfl) hHeld pP ?_
         refine one_ (i := 9) (N := some 74) F41.b5 rfl rfl (one_of HT_.out pL) (by decide) (fun K hK => ?_)
         refine goes_ Try.func83 pL rfl #[.slice (some ad314) y320.length c0, .slice A1 l1.length c1, .agg #[.int .i64 ((rd_T55 ((rd_T29 l0 x5_2).f2) x7_4).f0), .int .i64 ((rd_T55 ((rd_T29 l0 x5_2).f2) x7_4).f1), .int .i64 ((rd_T55 ((rd_T29 l0 x5_2).f2) x7_4).f2)]] (by rfl) rfl rfl pM ?_
         with_reducible refine (spec_l11Part.calls k4 _ _ y320 _ _ l1 ((rd_T55 ((rd_T29 l0 x5_2).f2) x7_4).f0) ((rd_T55 ((rd_T29 l0 x5_2).f2) x7_4).f1) ((rd_T55 ((rd_T29 l0 x5_2).f2) x7_4).f2) true _ ?side1 ?side2 ?side3 ?side4 A39.out).mono ?_
         (case side1 => exact pS ((Kd.C_below HR323.out HB.out)))
         (case side2 => exact HC323.out)
         (case side3 => exact pS ((Kd.C_below HR1.out HB.out)))
         (case side4 => exact HC1.out)
         rintro e w44 ⟨rfl, hb⟩
         refine ⟨_, rfl, ?_⟩
         have n0_ := Aside0.mk (blk_below (g := gb315) (o := .cells #[.int .i64 ((rd_T29 l0 x5_2).f0), .int .i64 ((rd_T29 l0 x5_2).f1), .slice (some ad324) ((rd_T29 l0 x5_2).f2).length c314_2] 29 (0, 0)) (pC BK315) hb)
         have n1_ := Aside0.mk (below_step (pG GE315) hb)
         clear BK315
         clear HB
         have BK315 := n0_
         have HB := n1_
         clear n0_ n1_
         (try clear hb)
         (try clear hb2)
         (try clear hk)
         (try clear hi)
         refine hK.out _ _ ⟨(blk_cell BK315.out 0).trans rfl, (blk_cell BK315.out 1).trans rfl, (blk_cell BK315.out 2).trans rfl, ((HB.out.cell (World.block_lt_of_cell? w _ hw324_0)).trans hw324_0), ((HB.out.cell (World.block_lt_of_cell? w _ hw324_1)).trans hw324_1), ((HB.out.cell (World.block_lt_of_cell? w _ hw324_2)).trans hw324_2)⟩ (fun hHeld => ?_)
         clear hK K
         refine norm_ (a' := ?_) ?_ ?_
         rotate_left
         ·show Act.put _ (some 74) _ = _
          exact pP
         refine pv 10 (some 75) HT_ rfl rfl pL ?_
         refine done_ (done_of HT_.out pL) ?_
         try go_wp2
         go_roundg k4
         case measure => have := HJ2.out; have := HK2.out; have := HJ10.out; have := HK4.out; omega
         case rel => exact ⟨(wrap64 (x7_4 + 1)), pF, H', ⟨by have := HJ2.out; have := HK2.out; have := HJ10.out; have := HK4.out; omega⟩, ⟨pC BK315⟩, ⟨pG GE315⟩⟩
/-! ### impl_within: function 76 -/
def impl_within.f (a0 : Int) (a1 : Int) (a2 : Int) : Option (Bool) := if a0 ≥ a1 then (some (decide (a0 ≤ a2))) else (some false)
set_option maxHeartbeats 8000000 in
set_option maxRecDepth 100000 in
theorem impl_within.calls (a0 : Int) (a1 : Int) (a2 : Int) (r : Bool) (w : World) (h : impl_within.f a0 a1 a2 = some r) :
  Calls Try.prog 76 #[.int .i64 a0, .int .i64 a1, .int .i64 a2] w fun e w' => e = .returned (.bool r) ∧ Drawn0 w w' := by
 have H : (if a0 ≥ a1 then (some (decide (a0 ≤ a2))) else (some false)) = some r := h
 clear h
 by_cases c4 : a0 ≥ a1
 ·rw [if_pos c4] at H
  have c4b0 : decide (a1 ≤ a0) = true := decide_eq_true c4
  clear c4
  obtain rfl := Option.some.inj H
  go_enter Try.func76, Try.ntmps76
  go_wp2
  go_ret
  exact ⟨pF, by repeat (first | exact Drawn0.refl _ | apply Drawn0.step)⟩
 rw [if_neg c4] at H
 have c4b0 : decide (a1 ≤ a0) = false := decide_eq_false c4
 clear c4
 obtain rfl := Option.some.inj H
 go_enter Try.func76, Try.ntmps76
 go_wp2
 go_ret
 exact ⟨pF, by repeat (first | exact Drawn0.refl _ | apply Drawn0.step)⟩

/-! ### impl_isId: function 80 -/
def impl_isId.f (a0 : Int) : Option (Bool) := (impl_within.f a0 1 20).bind fun t383 => (some t383)
set_option maxHeartbeats 8000000 in
set_option maxRecDepth 100000 in
theorem impl_isId.calls (a0 : Int) (r : Bool) (w : World) (h : impl_isId.f a0 = some r) :
  Calls Try.prog 80 #[.int .i64 a0] w fun e w' => e = .returned (.bool r) ∧ Drawn0 w w' := by
 have H : ((impl_within.f a0 1 20).bind fun t383 => (some t383)) = some r := h
 clear h
 replace H := Option.bind_eq_some_iff.mp H
 obtain ⟨t383, A20, H⟩ := H
 replace H : (some t383) = some r := H
 have A2 := Aside0.mk A20
 clear A20
 obtain rfl := Option.some.inj H
 go_enter Try.func80, Try.ntmps80
 go_wp2_with (first | ((with_reducible refine gate_callee (f := 76) rfl ?_); refine goesL_ (some 4) rfl rfl Try.func76 pL rfl #[.int .i64 a0, .int .i64 1, .int .i64 20] rfl pM ?_; (with_reducible refine (impl_within.calls a0 1 20 t383 _ A2.out).mono ?_); rintro e w' ⟨rfl, ⟨nd, rfl⟩⟩; refine ⟨_, rfl, ?_⟩))
 go_ret
 exact ⟨pF, by repeat (first | exact Drawn0.refl _ | apply Drawn0.step)⟩

/-! ### impl_isSet: function 86 -/
def impl_isSet.f (a0 : Int) : Option (Bool) := (impl_within.f a0 0 255).bind fun t384 => (some t384)
set_option maxHeartbeats 8000000 in
set_option maxRecDepth 100000 in
theorem impl_isSet.calls (a0 : Int) (r : Bool) (w : World) (h : impl_isSet.f a0 = some r) :
  Calls Try.prog 86 #[.int .i64 a0] w fun e w' => e = .returned (.bool r) ∧ Drawn0 w w' := by
 have H : ((impl_within.f a0 0 255).bind fun t384 => (some t384)) = some r := h
 clear h
 replace H := Option.bind_eq_some_iff.mp H
 obtain ⟨t384, A20, H⟩ := H
 replace H : (some t384) = some r := H
 have A2 := Aside0.mk A20
 clear A20
 obtain rfl := Option.some.inj H
 go_enter Try.func86, Try.ntmps86
 go_wp2_with (first | ((with_reducible refine gate_callee (f := 76) rfl ?_); refine goesL_ (some 4) rfl rfl Try.func76 pL rfl #[.int .i64 a0, .int .i64 0, .int .i64 255] rfl pM ?_; (with_reducible refine (impl_within.calls a0 0 255 t384 _ A2.out).mono ?_); rintro e w' ⟨rfl, ⟨nd, rfl⟩⟩; refine ⟨_, rfl, ?_⟩))
 go_ret
 exact ⟨pF, by repeat (first | exact Drawn0.refl _ | apply Drawn0.step)⟩

/-! ### impl_isKind: function 94 -/
def impl_isKind.f (a0 : Int) : Option (Bool) := (impl_within.f a0 1 5).bind fun t385 => (some t385)
set_option maxHeartbeats 8000000 in
set_option maxRecDepth 100000 in
theorem impl_isKind.calls (a0 : Int) (r : Bool) (w : World) (h : impl_isKind.f a0 = some r) :
  Calls Try.prog 94 #[.int .i64 a0] w fun e w' => e = .returned (.bool r) ∧ Drawn0 w w' := by
 have H : ((impl_within.f a0 1 5).bind fun t385 => (some t385)) = some r := h
 clear h
 replace H := Option.bind_eq_some_iff.mp H
 obtain ⟨t385, A20, H⟩ := H
 replace H : (some t385) = some r := H
 have A2 := Aside0.mk A20
 clear A20
 obtain rfl := Option.some.inj H
 go_enter Try.func94, Try.ntmps94
 go_wp2_with (first | ((with_reducible refine gate_callee (f := 76) rfl ?_); refine goesL_ (some 4) rfl rfl Try.func76 pL rfl #[.int .i64 a0, .int .i64 1, .int .i64 5] rfl pM ?_; (with_reducible refine (impl_within.calls a0 1 5 t385 _ A2.out).mono ?_); rintro e w' ⟨rfl, ⟨nd, rfl⟩⟩; refine ⟨_, rfl, ?_⟩))
 go_ret
 exact ⟨pF, by repeat (first | exact Drawn0.refl _ | apply Drawn0.step)⟩

end Go.Proofs.Ytclldijjbmnkeaa.Q
