-- Written by the kit's print.py for all laws of the seat at once (one namespace), by a program of this session.
import Derived.Test.YtclldijjbmnkeaaQx0
import Derived.Test.YtclldijjbmnkeaaQx10
namespace Go.Proofs.Ytclldijjbmnkeaa.Q
open Go.RowKit Go.Proofs.YtclldijjbmnkeaaW.PrintWords Go.Proofs.YtclldijjbmnkeaaW.PrintLast Go.Proofs.YtclldijjbmnkeaaW.PrintMore
attribute [local go_sem] max2_int min2_int max_two min_two max_three min_three max_four min_four   -- for this text's walks alone
set_option linter.unusedVariables false
set_option linter.unusedSimpArgs false

/-! ### impl_FoodsValid: function 79 -/
def impl_FoodsValid.l0 : Nat → List (S63) → List (S63) → Int → Int → Option (Bool)
 | 0, _, _, _, _ => none
 | k + 1, x0, x5, x6, x7 => if x7 < x6 then (if 0 ≤ x7 then (if x7 < (x5.length : Int) then ((impl_isId.f ((rd_T63 x5 x7).f0)).bind fun t388 => (if t388 = true then ((impl_within.f ((rd_T63 x5 x7).f1) 1 3).bind fun t389 => (if t389 = true then ((impl_isSet.f ((rd_T63 x5 x7).f2)).bind fun t390 => (if t390 = true then ((impl_isKind.f ((rd_T63 x5 x7).f3)).bind fun t391 => (if t391 = true then ((impl_within.f ((rd_T63 x5 x7).f4) 0 999).bind fun t392 => (if t392 = true then ((impl_within.f ((rd_T63 x5 x7).f5) 0 999).bind fun t393 => (if t393 = true then (if x7 > 0 then (if 0 ≤ (wrap64 (x7 - 1)) then (if (wrap64 (x7 - 1)) < (x0.length : Int) then (if ((rd_T63 x0 (wrap64 (x7 - 1))).f0) ≥ ((rd_T63 x5 x7).f0) then (some false) else (impl_FoodsValid.l0 k x0 x5 x6 (wrap64 (x7 + 1)))) else (none)) else (none)) else (impl_FoodsValid.l0 k x0 x5 x6 (wrap64 (x7 + 1)))) else (some false))) else (some false))) else (some false))) else (some false))) else (some false))) else (some false))) else (none)) else (none)) else (some (decide ((x0.length : Int) ≤ 6)))
def impl_FoodsValid.f (k : Nat) (l0 : List (S63)) : Option (Bool) := impl_FoodsValid.l0 k l0 l0 (l0.length : Int) 0
theorem impl_FoodsValid.mono_l : ∀ k, (∀ y0 y1 y2 y3, LeO (impl_FoodsValid.l0 k y0 y1 y2 y3) (impl_FoodsValid.l0 (k + 1) y0 y1 y2 y3))
 | 0 => fun _ _ _ _ r h => by simp [impl_FoodsValid.l0] at h
 | k + 1 => by
  have ih0 := impl_FoodsValid.mono_l k
  ·intro y0 y1 y2 y3
   unfold impl_FoodsValid.l0
   repeat' first
   | (with_reducible exact ih0 _ _ _ _)
   | (with_reducible exact LeO.refl _)
   | (with_reducible exact LeO.none _)
   | (with_reducible refine LeO.ite ?_ ?_)
   | (with_reducible refine LeO.bind ?_ (fun _ => ?_))
   | exact ih0 _ _ _ _
   | exact LeO.none _
   | refine LeO.ite ?_ ?_
   | refine LeO.bind ?_ (fun _ => ?_)
theorem impl_FoodsValid.mono : ∀ a0 k, LeO (impl_FoodsValid.f k a0) (impl_FoodsValid.f (k + 1) a0) := by
 intro a0 k
 have ih0 := impl_FoodsValid.mono_l k
 unfold impl_FoodsValid.f
 repeat' first
   | (with_reducible exact ih0 _ _ _ _)
   | (with_reducible exact LeO.refl _)
   | (with_reducible exact LeO.none _)
   | (with_reducible refine LeO.ite ?_ ?_)
   | (with_reducible refine LeO.bind ?_ (fun _ => ?_))
   | exact ih0 _ _ _ _
   | exact LeO.none _
   | refine LeO.ite ?_ ?_
   | refine LeO.bind ?_ (fun _ => ?_)
def impl_FoodsValid.T4 : Bool × List (List Nat × List Nat) := (true, [([], []), ([0], [0]), ([1], [1]), ([2], [2]), ([3, 2], [3]), ([4], [4]), ([5, 4], [4, 5]), ([6, 4, 4], [4, 6]), ([7, 4], [4, 7]), ([4, 8], [4, 8]), ([9, 7], [9]), ([10], [10]), ([11, 10], [10, 11]), ([12, 10, 10], [10, 12]), ([13, 10], [10, 13]), ([10, 14], [10, 14]), ([15, 13], [15]), ([16], [16]), ([17, 16], [16, 17]), ([18, 16, 16], [16, 18]), ([19, 16], [16, 19]), ([16, 20], [16, 20]), ([21, 19], [21]), ([22], [22]), ([23, 22], [22, 23]), ([24, 22, 22], [22, 24]), ([25, 22], [22, 25]), ([22, 26], [22, 26]), ([27, 25], [27]), ([28], [28]), ([29, 28], [28, 29]), ([30, 28, 28], [28, 30]), ([31, 28], [28, 31]), ([28, 32], [28, 32]), ([33, 31], [33]), ([34], [34]), ([35, 34], [34, 35]), ([36, 34, 34], [34, 36]), ([37], [37]), ([37], [37]), ([39, 37], [37, 39]), ([38, 40, 37], [37, 38, 40]), ([41, 37], [37, 41]), ([42, 37], [37, 42]), ([37], [37]), ([44, 37], [37, 44]), ([43, 45, 37], [37, 43, 45]), ([37, 46, 34], [34, 37, 46]), ([34, 47], [34, 47])])
def impl_FoodsValid.B4 : List Nat := [0, 1, 3, 7, 15, 31, 63, 127, 255, 511, 1023, 2047, 4095, 8191, 16383, 32767, 65535, 131071, 262143, 524287, 1048575, 2097151, 4194303, 8388607, 16777215, 33554431, 67108863, 134217727, 268435455, 536870911, 1073741823, 2147483647, 4294967295, 8589934591, 17179869183, 34359738367, 68719476735, 137438953471, 274877906943, 274877906943, 824633720831, 2199023255551, 4398046511103, 8796093022207, 274877906943, 17867063951359, 70368744177663, 140737488355327, 281474976710655]
theorem impl_FoodsValid.tab4 : rtab .any (opsOf Try.f79 4) = impl_FoodsValid.T4 := by kernel_rfl
theorem impl_FoodsValid.bits4 : waitsOk impl_FoodsValid.T4.2 impl_FoodsValid.B4 = true := by kernel_rfl
@[reducible] def F79.b0 : Array Bool := #[true, true, true, false, false, false, false, false, false, false, false, false, false, false, false, false, false, false, false, false, false, false, false, false, false, false, false, false, false, false, false, false, false, false, false, false, false, false, false, false, false, false, false, false, false, false, false, false, false]
@[reducible] def F79.b1 : Array Bool := #[true, true, true, true, true, true, true, true, false, false, false, false, false, false, false, false, false, false, false, false, false, false, false, false, false, false, false, false, false, false, false, false, false, false, false, false, false, false, false, false, false, false, false, false, false, false, false, false, false]
@[reducible] def F79.b2 : Array Bool := #[true, true, true, true, true, true, true, true, true, true, true, true, true, true, false, false, false, false, false, false, false, false, false, false, false, false, false, false, false, false, false, false, false, false, false, false, false, false, false, false, false, false, false, false, false, false, false, false, false]
@[reducible] def F79.b3 : Array Bool := #[true, true, true, true, true, true, true, true, true, true, true, true, true, true, true, true, true, true, true, true, false, false, false, false, false, false, false, false, false, false, false, false, false, false, false, false, false, false, false, false, false, false, false, false, false, false, false, false, false]
@[reducible] def F79.b4 : Array Bool := #[true, true, true, true, true, true, true, true, true, true, true, true, true, true, true, true, true, true, true, true, true, true, true, true, true, true, false, false, false, false, false, false, false, false, false, false, false, false, false, false, false, false, false, false, false, false, false, false, false]
@[reducible] def F79.b5 : Array Bool := #[true, true, true, true, true, true, true, true, true, true, true, true, true, true, true, true, true, true, true, true, true, true, true, true, true, true, true, true, true, true, true, true, false, false, false, false, false, false, false, false, false, false, false, false, false, false, false, false, false]
@[reducible] def F79.b6 : Array Bool := #[true, true, true, true, true, true, true, true, true, true, true, true, true, true, true, true, true, true, true, true, true, true, true, true, true, true, true, true, true, true, true, true, true, true, true, true, true, true, true, true, true, false, false, false, false, false, false, false, false]
@[reducible] def F79.b7 : Array Bool := #[true, true, true, true, true, true, true, true, true, true, true, true, true, true, true, true, true, true, true, true, true, true, true, true, true, true, true, true, true, true, true, true, true, true, true, false, false, false, false, false, false, false, false, false, false, false, false, false, false]
@[reducible] def F79.b8 : Array Bool := #[true, true, true, true, true, true, true, true, true, true, true, true, true, true, true, true, true, true, true, true, true, true, true, true, true, true, true, true, true, true, true, true, true, true, true, true, true, true, true, true, true, true, true, true, false, false, false, false, false]
theorem F79.q0 {P : Prop} (h : P := by exact ⟨(blk_cell BK387.out 0).trans rfl, (blk_cell BK387.out 1).trans rfl, (blk_cell BK387.out 2).trans rfl, (blk_cell BK387.out 3).trans rfl, (blk_cell BK387.out 4).trans rfl, (blk_cell BK387.out 5).trans rfl, ((HB.out.cell (World.block_lt_of_cell? w _ hw394_0)).trans hw394_0), ((HB.out.cell (World.block_lt_of_cell? w _ hw394_1)).trans hw394_1), ((HB.out.cell (World.block_lt_of_cell? w _ hw394_2)).trans hw394_2), ((HB.out.cell (World.block_lt_of_cell? w _ hw394_3)).trans hw394_3), ((HB.out.cell (World.block_lt_of_cell? w _ hw394_4)).trans hw394_4), ((HB.out.cell (World.block_lt_of_cell? w _ hw394_5)).trans hw394_5)⟩) : P := h
theorem F79.q1 {P : Prop} (h : P := by exact ⟨(blk_cell BK387.out 0).trans rfl, (blk_cell BK387.out 1).trans rfl, (blk_cell BK387.out 2).trans rfl, (blk_cell BK387.out 3).trans rfl, (blk_cell BK387.out 4).trans rfl, (blk_cell BK387.out 5).trans rfl⟩) : P := h
theorem F79.q2 {P : Prop} (h : P := by rintro w' ⟨s0, s1, s2, s3, s4, s5⟩; go_simp; with_reducible rfl) : P := h
theorem F79.q3 {P : Prop} (h : P := by rintro w' ⟨s0, s1, s2, s3, s4, s5, s6, s7, s8, s9, s10, s11⟩; go_simp; with_reducible rfl) : P := h
set_option maxHeartbeats 8000000 in
set_option maxRecDepth 100000 in
theorem impl_FoodsValid.calls (k : Nat) (A0 : Option Addr) (c0 : Nat) (l0 : List (S63)) (r : Bool) (w : World) (hr0 : Kd.C k63 w A0 l0.length l0) (hc0 : l0.length ≤ c0) (h : impl_FoodsValid.f k l0 = some r) :
  Calls Try.prog 79 #[.slice A0 l0.length c0] w fun e w' => e = .returned (.bool r) ∧ Below w.heap.size w w' := by
 have hu63 := Try.underlying63
 have HR0 := Aside0.mk hr0
 have HC0 := Aside0.mk hc0
 clear hr0 hc0
 have HB := Aside0.mk (Below.refl w.heap.size w)
 have H : (impl_FoodsValid.l0 k l0 l0 (l0.length : Int) 0) = some r := h
 clear h
 have H' := Aside0.mk H
 clear H
 go_enter Try.func79, Try.ntmps79
 go_wp2
 go_loopg [7] k (fun kq v7 w' => ∃ (x7_1 : Int), v7 = .int .i64 x7_1 ∧ Aside0 (impl_FoodsValid.l0 kq l0 l0 (l0.length : Int) x7_1 = some r) ∧ Aside0 (kq ≤ k) ∧ Aside0 (Below w.heap.size w w'))
 case atStart => exact ⟨(0), pF, H', ⟨Nat.le_refl _⟩, ⟨pB⟩⟩
 case round =>
  clear H'
  obtain ⟨x7_1, rfl, HA, HK1, HB⟩ := hrel
  cases gk with
  | zero => exact absurd HA.out (by simp [impl_FoodsValid.l0])
  | succ k1 =>
   have H := HA.out
   clear HA
   simp only [impl_FoodsValid.l0] at H
   rcases (Classical.em (x7_1 < (l0.length : Int))).symm with c2 | c2
   ·rw [if_neg c2] at H
    have c2b0 : decide (x7_1 < (l0.length : Int)) = false := decide_eq_false c2
    clear c2
    obtain rfl := Option.some.inj H
    go_wp2
    go_ret
    exact ⟨pE, pB⟩

   rw [if_pos c2] at H
   have c2b0 : decide (x7_1 < (l0.length : Int)) = true := decide_eq_true c2
   clear c2
   rcases (Classical.em (0 ≤ x7_1)).symm with c3 | c3
   ·rw [if_neg c3] at H
    exact absurd H (by simp)
   rw [if_pos c3] at H
   have c3b0 : decide (0 ≤ x7_1) = true := decide_eq_true c3
   clear c3
   rcases (Classical.em (x7_1 < (l0.length : Int))).symm with c4 | c4
   ·rw [if_neg c4] at H
    exact absurd H (by simp)
   rw [if_pos c4] at H
   have c4b0 : decide (x7_1 < (l0.length : Int)) = true := decide_eq_true c4
   clear c4
   replace H := Option.bind_eq_some_iff.mp H
   obtain ⟨t388, A50, H⟩ := H
   replace H : (if t388 = true then ((impl_within.f ((rd_T63 l0 x7_1).f1) 1 3).bind fun t389 => (if t389 = true then ((impl_isSet.f ((rd_T63 l0 x7_1).f2)).bind fun t390 => (if t390 = true then ((impl_isKind.f ((rd_T63 l0 x7_1).f3)).bind fun t391 => (if t391 = true then ((impl_within.f ((rd_T63 l0 x7_1).f4) 0 999).bind fun t392 => (if t392 = true then ((impl_within.f ((rd_T63 l0 x7_1).f5) 0 999).bind fun t393 => (if t393 = true then (if x7_1 > 0 then (if 0 ≤ (wrap64 (x7_1 - 1)) then (if (wrap64 (x7_1 - 1)) < (l0.length : Int) then (if ((rd_T63 l0 (wrap64 (x7_1 - 1))).f0) ≥ ((rd_T63 l0 x7_1).f0) then (some false) else (impl_FoodsValid.l0 k1 l0 l0 (l0.length : Int) (wrap64 (x7_1 + 1)))) else (none)) else (none)) else (impl_FoodsValid.l0 k1 l0 l0 (l0.length : Int) (wrap64 (x7_1 + 1)))) else (some false))) else (some false))) else (some false))) else (some false))) else (some false))) else (some false)) = some r := H
   have A5 := Aside0.mk A50
   clear A50
   rcases (Classical.em (t388 = true)).symm with c6 | c6
   ·replace c6 := Bool.eq_false_iff.mpr c6
    subst c6
    have H1 : (some false) = some r := by rw [if_neg (show ¬ (false = true) by decide)] at H; exact H
    clear H
    have H := H1
    clear H1
    obtain rfl := Option.some.inj H
    have p386 : 0 ≤ (x7_1 : Int) := of_decide_eq_true pA
    have q386 : x7_1 < (l0.length : Int) := of_decide_eq_true pA
    obtain ⟨ad386, e386, hx386_0, hx386_1, hx386_2, hx386_3, hx386_4, hx386_5⟩ := at_T63 HR0.out x7_1 p386 q386
    cases e386
    replace hx386_0 := (HB.out.cell (World.block_lt_of_cell? w _ hx386_0)).trans hx386_0
    replace hx386_1 := (HB.out.cell (World.block_lt_of_cell? w _ hx386_1)).trans hx386_1
    replace hx386_2 := (HB.out.cell (World.block_lt_of_cell? w _ hx386_2)).trans hx386_2
    replace hx386_3 := (HB.out.cell (World.block_lt_of_cell? w _ hx386_3)).trans hx386_3
    replace hx386_4 := (HB.out.cell (World.block_lt_of_cell? w _ hx386_4)).trans hx386_4
    replace hx386_5 := (HB.out.cell (World.block_lt_of_cell? w _ hx386_5)).trans hx386_5
    replace p386 := eq_true p386
    replace q386 := eq_true q386
    try go_wp2_with (first | ((with_reducible refine gate_dst (N := 4) rfl ?_); refine box_event ?hg (N := 4) ?hd (cs := #[.int .i64 0, .int .i64 0, .int .i64 0, .int .i64 0, .int .i64 0, .int .i64 0]) (t := 63) ?hr ?_; (case hd => rfl); (case hg => rfl); (case hr => first | (go_simp; done) | (go_simp; rfl)); intro gb387 hg w54 hbox hb; have n0_ := Aside0.mk (below_step pB hb); have n1_ := Aside0.mk (hbox); have n2_ := Aside0.mk ((by rw [hg]; exact (below_size pB) : w.heap.size ≤ gb387)); have n3_ := Aside0.mk ((by rw [hg]; exact (below_size pB) : w.heap.size ≤ gb387)); clear HB; have HB := n0_; have BK387 := n1_; have GW387 := n2_; have GE387 := n3_; clear n0_ n1_ n2_ n3_; clear hb hbox hg; have hcz55_0 : w54.cell? ⟨gb387, 0, none⟩ = some (.int .i64 0) := (blk_cell BK387.out 0).trans rfl; have hcz55_1 : w54.cell? ⟨gb387, 1, none⟩ = some (.int .i64 0) := (blk_cell BK387.out 1).trans rfl; have hcz55_2 : w54.cell? ⟨gb387, 2, none⟩ = some (.int .i64 0) := (blk_cell BK387.out 2).trans rfl; have hcz55_3 : w54.cell? ⟨gb387, 3, none⟩ = some (.int .i64 0) := (blk_cell BK387.out 3).trans rfl; have hcz55_4 : w54.cell? ⟨gb387, 4, none⟩ = some (.int .i64 0) := (blk_cell BK387.out 4).trans rfl; have hcz55_5 : w54.cell? ⟨gb387, 5, none⟩ = some (.int .i64 0) := (blk_cell BK387.out 5).trans rfl; have hfz55_0 := blk_frozen BK387.out 0; have hfz55_1 := blk_frozen BK387.out 1; have hfz55_2 := blk_frozen BK387.out 2; have hfz55_3 := blk_frozen BK387.out 3; have hfz55_4 := blk_frozen BK387.out 4; have hfz55_5 := blk_frozen BK387.out 5))
    have n0_ : Aside0 (((((((w54.setCell ⟨gb387, 0, none⟩ (.int .i64 ((rd_T63 l0 x7_1).f0))).setCell ⟨gb387, 1, none⟩ (.int .i64 ((rd_T63 l0 x7_1).f1))).setCell ⟨gb387, 2, none⟩ (.int .i64 ((rd_T63 l0 x7_1).f2))).setCell ⟨gb387, 3, none⟩ (.int .i64 ((rd_T63 l0 x7_1).f3))).setCell ⟨gb387, 4, none⟩ (.int .i64 ((rd_T63 l0 x7_1).f4))).setCell ⟨gb387, 5, none⟩ (.int .i64 ((rd_T63 l0 x7_1).f5))).heap[gb387]? = some (.cells #[.int .i64 ((rd_T63 l0 x7_1).f0), .int .i64 ((rd_T63 l0 x7_1).f1), .int .i64 ((rd_T63 l0 x7_1).f2), .int .i64 ((rd_T63 l0 x7_1).f3), .int .i64 ((rd_T63 l0 x7_1).f4), .int .i64 ((rd_T63 l0 x7_1).f5)] 63 (0, 0))) := ⟨by (with_reducible repeat (first | refine blk_drewN ?_ _ | refine blk_drew ?_ | refine blk_alloc ?_ _)); refine blk_put (cs := #[.int .i64 ((rd_T63 l0 x7_1).f0), .int .i64 ((rd_T63 l0 x7_1).f1), .int .i64 ((rd_T63 l0 x7_1).f2), .int .i64 ((rd_T63 l0 x7_1).f3), .int .i64 ((rd_T63 l0 x7_1).f4), .int .i64 0]) ?_ 5 _ rfl; (with_reducible repeat (first | refine blk_drewN ?_ _ | refine blk_drew ?_ | refine blk_alloc ?_ _)); refine blk_put (cs := #[.int .i64 ((rd_T63 l0 x7_1).f0), .int .i64 ((rd_T63 l0 x7_1).f1), .int .i64 ((rd_T63 l0 x7_1).f2), .int .i64 ((rd_T63 l0 x7_1).f3), .int .i64 0, .int .i64 0]) ?_ 4 _ rfl; (with_reducible repeat (first | refine blk_drewN ?_ _ | refine blk_drew ?_ | refine blk_alloc ?_ _)); refine blk_put (cs := #[.int .i64 ((rd_T63 l0 x7_1).f0), .int .i64 ((rd_T63 l0 x7_1).f1), .int .i64 ((rd_T63 l0 x7_1).f2), .int .i64 0, .int .i64 0, .int .i64 0]) ?_ 3 _ rfl; (with_reducible repeat (first | refine blk_drewN ?_ _ | refine blk_drew ?_ | refine blk_alloc ?_ _)); refine blk_put (cs := #[.int .i64 ((rd_T63 l0 x7_1).f0), .int .i64 ((rd_T63 l0 x7_1).f1), .int .i64 0, .int .i64 0, .int .i64 0, .int .i64 0]) ?_ 2 _ rfl; (with_reducible repeat (first | refine blk_drewN ?_ _ | refine blk_drew ?_ | refine blk_alloc ?_ _)); refine blk_put (cs := #[.int .i64 ((rd_T63 l0 x7_1).f0), .int .i64 0, .int .i64 0, .int .i64 0, .int .i64 0, .int .i64 0]) ?_ 1 _ rfl; (with_reducible repeat (first | refine blk_drewN ?_ _ | refine blk_drew ?_ | refine blk_alloc ?_ _)); refine blk_put (cs := #[.int .i64 0, .int .i64 0, .int .i64 0, .int .i64 0, .int .i64 0, .int .i64 0]) ?_ 0 _ rfl; (with_reducible repeat (first | refine blk_drewN ?_ _ | refine blk_drew ?_ | refine blk_alloc ?_ _)); exact BK387.out⟩
    have n1_ : Aside0 (Below w.heap.size w ((((((w54.setCell ⟨gb387, 0, none⟩ (.int .i64 ((rd_T63 l0 x7_1).f0))).setCell ⟨gb387, 1, none⟩ (.int .i64 ((rd_T63 l0 x7_1).f1))).setCell ⟨gb387, 2, none⟩ (.int .i64 ((rd_T63 l0 x7_1).f2))).setCell ⟨gb387, 3, none⟩ (.int .i64 ((rd_T63 l0 x7_1).f3))).setCell ⟨gb387, 4, none⟩ (.int .i64 ((rd_T63 l0 x7_1).f4))).setCell ⟨gb387, 5, none⟩ (.int .i64 ((rd_T63 l0 x7_1).f5)))) := ⟨pG GE387⟩
    (try clear BK387)
    (try clear HB)
    generalize ((((((w54.setCell ⟨gb387, 0, none⟩ (.int .i64 ((rd_T63 l0 x7_1).f0))).setCell ⟨gb387, 1, none⟩ (.int .i64 ((rd_T63 l0 x7_1).f1))).setCell ⟨gb387, 2, none⟩ (.int .i64 ((rd_T63 l0 x7_1).f2))).setCell ⟨gb387, 3, none⟩ (.int .i64 ((rd_T63 l0 x7_1).f3))).setCell ⟨gb387, 4, none⟩ (.int .i64 ((rd_T63 l0 x7_1).f4))).setCell ⟨gb387, 5, none⟩ (.int .i64 ((rd_T63 l0 x7_1).f5))) = w56 at n0_ n1_ ⊢
    have BK387 := n0_
    have HB := n1_
    clear n0_ n1_
    have n0_ := Aside0.mk (blk_drew BK387.out)
    have n1_ := Aside0.mk (below_drew1 HB.out)
    clear BK387
    clear HB
    have BK387 := n0_
    have HB := n1_
    clear n0_ n1_
    refine start_ (n := 49) (S := fun w' => w'.cell? ⟨gb387, 0, none⟩ = some (.int .i64 ((rd_T63 l0 x7_1).f0)) ∧ w'.cell? ⟨gb387, 1, none⟩ = some (.int .i64 ((rd_T63 l0 x7_1).f1)) ∧ w'.cell? ⟨gb387, 2, none⟩ = some (.int .i64 ((rd_T63 l0 x7_1).f2)) ∧ w'.cell? ⟨gb387, 3, none⟩ = some (.int .i64 ((rd_T63 l0 x7_1).f3)) ∧ w'.cell? ⟨gb387, 4, none⟩ = some (.int .i64 ((rd_T63 l0 x7_1).f4)) ∧ w'.cell? ⟨gb387, 5, none⟩ = some (.int .i64 ((rd_T63 l0 x7_1).f5))) (ds := []) #[false, false, false, false, false, false, false, false, false, false, false, false, false, false, false, false, false, false, false, false, false, false, false, false, false, false, false, false, false, false, false, false, false, false, false, false, false, false, false, false, false, false, false, false, false, false, false, false, false] pL rfl rfl ⟨(blk_cell BK387.out 0).trans rfl, (blk_cell BK387.out 1).trans rfl, (blk_cell BK387.out 2).trans rfl, (blk_cell BK387.out 3).trans rfl, (blk_cell BK387.out 4).trans rfl, (blk_cell BK387.out 5).trans rfl⟩ (fun hHeld => ?_); refine with_tabW impl_FoodsValid.tab4 impl_FoodsValid.bits4 (fun HT_ HW_ => ?_)
    generalize w56.drew = w57 at BK387 HB hHeld ⊢
    refine pv 0 (some 12) HT_ rfl rfl pL ?_
    refine tv 1 (some 13) HT_ HW_ rfl rfl pL (fun _ _ _ h => h) (by rfl) F79.q2 hHeld pP ?_
    refine one_ (i := 2) (N := some 14) F79.b0 rfl rfl (one_of HT_.out pL) (by decide) (fun K hK => ?_)
    refine goes_ Try.func80 pL rfl #[.int .i64 ((rd_T63 l0 x7_1).f0)] (by rfl) rfl rfl pM ?_
    with_reducible refine (impl_isId.calls ((rd_T63 l0 x7_1).f0) false _ A5.out).mono ?_
    rintro e w' ⟨rfl, ⟨nd, rfl⟩⟩
    refine ⟨_, rfl, ?_⟩
    refine hK.out _ _ F79.q1 (fun hHeld => ?_)
    clear hK K
    refine norm_ (a' := ?_) ?_ ?_
    rotate_left
    ·show Act.put _ (some 14) _ = _
     exact pP
    refine pv 3 (some 15) HT_ rfl rfl pL ?_
    refine pv 4 (some 16) HT_ rfl rfl pL ?_
    refine uv 5 (some 17) HT_ rfl rfl pL ?_
    refine uv 6 (some 18) HT_ rfl rfl pL ?_
    refine uv 7 (some 19) HT_ rfl rfl pL ?_
    refine uv 8 (some 20) HT_ rfl rfl pL ?_
    refine pv 9 (some 21) HT_ rfl rfl pL ?_
    refine pv 10 (some 22) HT_ rfl rfl pL ?_
    refine un 11 (some 23) #[true, true, true, true, true, true, true, true, true, true, true, true, false, false, false, false, false, false, false, false, false, false, false, false, false, false, false, false, false, false, false, false, false, false, false, false, false, false, false, false, false, false, false, false, false, false, false, false, false] HT_ rfl rfl pL (fun _ _ _ h => h) (by rfl) pP ?_
    refine uv 12 (some 24) HT_ rfl rfl pL ?_
    refine uv 13 (some 25) HT_ rfl rfl pL ?_
    refine uv 14 (some 26) HT_ rfl rfl pL ?_
    refine pv 15 (some 27) HT_ rfl rfl pL ?_
    refine pv 16 (some 28) HT_ rfl rfl pL ?_
    refine uv 17 (some 29) HT_ rfl rfl pL ?_
    refine uv 18 (some 30) HT_ rfl rfl pL ?_
    refine uv 19 (some 31) HT_ rfl rfl pL ?_
    refine un 20 (some 32) #[true, true, true, true, true, true, true, true, true, true, true, true, true, true, true, true, true, true, true, true, true, false, false, false, false, false, false, false, false, false, false, false, false, false, false, false, false, false, false, false, false, false, false, false, false, false, false, false, false] HT_ rfl rfl pL (fun _ _ _ h => h) (by rfl) pP ?_
    refine pv 21 (some 33) HT_ rfl rfl pL ?_
    refine pv 22 (some 34) HT_ rfl rfl pL ?_
    refine uv 23 (some 35) HT_ rfl rfl pL ?_
    refine uv 24 (some 36) HT_ rfl rfl pL ?_
    refine uv 25 (some 37) HT_ rfl rfl pL ?_
    refine uv 26 (some 38) HT_ rfl rfl pL ?_
    refine pv 27 (some 39) HT_ rfl rfl pL ?_
    refine pv 28 (some 40) HT_ rfl rfl pL ?_
    refine un 29 (some 41) #[true, true, true, true, true, true, true, true, true, true, true, true, true, true, true, true, true, true, true, true, true, true, true, true, true, true, true, true, true, true, false, false, false, false, false, false, false, false, false, false, false, false, false, false, false, false, false, false, false] HT_ rfl rfl pL (fun _ _ _ h => h) (by rfl) pP ?_
    refine uv 30 (some 42) HT_ rfl rfl pL ?_
    refine uv 31 (some 43) HT_ rfl rfl pL ?_
    refine uv 32 (some 44) HT_ rfl rfl pL ?_
    refine pv 33 (some 45) HT_ rfl rfl pL ?_
    refine pv 34 (some 46) HT_ rfl rfl pL ?_
    refine uv 35 (some 47) HT_ rfl rfl pL ?_
    refine uv 36 (some 48) HT_ rfl rfl pL ?_
    refine uv 37 (some 49) HT_ rfl rfl pL ?_
    refine un 38 (some 50) #[true, true, true, true, true, true, true, true, true, true, true, true, true, true, true, true, true, true, true, true, true, true, true, true, true, true, true, true, true, true, true, true, true, true, true, true, true, true, true, false, false, false, false, false, false, false, false, false, false] HT_ rfl rfl pL (fun _ _ _ h => h) (by rfl) pP ?_
    refine uv 39 (some 51) HT_ rfl rfl pL ?_
    refine uv 40 (some 52) HT_ rfl rfl pL ?_
    refine uv 41 (some 53) HT_ rfl rfl pL ?_
    refine uv 42 (some 54) HT_ rfl rfl pL ?_
    refine uv 43 (some 55) HT_ rfl rfl pL ?_
    refine uv 44 (some 56) HT_ rfl rfl pL ?_
    refine uv 45 (some 57) HT_ rfl rfl pL ?_
    refine uv 46 (some 58) HT_ rfl rfl pL ?_
    refine un 47 (some 59) #[true, true, true, true, true, true, true, true, true, true, true, true, true, true, true, true, true, true, true, true, true, true, true, true, true, true, true, true, true, true, true, true, true, true, true, true, true, true, true, true, true, true, true, true, true, true, true, true, false] HT_ rfl rfl pL (fun _ _ _ h => h) (by rfl) pP ?_
    refine pv 48 (some 60) HT_ rfl rfl pL ?_
    refine done_ (done_of HT_.out pL) ?_
    try go_wp2
    go_ret
    exact ⟨pE, pG GE387⟩
   subst c6
   have H1 : ((impl_within.f ((rd_T63 l0 x7_1).f1) 1 3).bind fun t389 => (if t389 = true then ((impl_isSet.f ((rd_T63 l0 x7_1).f2)).bind fun t390 => (if t390 = true then ((impl_isKind.f ((rd_T63 l0 x7_1).f3)).bind fun t391 => (if t391 = true then ((impl_within.f ((rd_T63 l0 x7_1).f4) 0 999).bind fun t392 => (if t392 = true then ((impl_within.f ((rd_T63 l0 x7_1).f5) 0 999).bind fun t393 => (if t393 = true then (if x7_1 > 0 then (if 0 ≤ (wrap64 (x7_1 - 1)) then (if (wrap64 (x7_1 - 1)) < (l0.length : Int) then (if ((rd_T63 l0 (wrap64 (x7_1 - 1))).f0) ≥ ((rd_T63 l0 x7_1).f0) then (some false) else (impl_FoodsValid.l0 k1 l0 l0 (l0.length : Int) (wrap64 (x7_1 + 1)))) else (none)) else (none)) else (impl_FoodsValid.l0 k1 l0 l0 (l0.length : Int) (wrap64 (x7_1 + 1)))) else (some false))) else (some false))) else (some false))) else (some false))) else (some false))) = some r := by rw [if_pos rfl] at H; exact H
   clear H
   have H := H1
   clear H1
   replace H := Option.bind_eq_some_iff.mp H
   obtain ⟨t389, A70, H⟩ := H
   replace H : (if t389 = true then ((impl_isSet.f ((rd_T63 l0 x7_1).f2)).bind fun t390 => (if t390 = true then ((impl_isKind.f ((rd_T63 l0 x7_1).f3)).bind fun t391 => (if t391 = true then ((impl_within.f ((rd_T63 l0 x7_1).f4) 0 999).bind fun t392 => (if t392 = true then ((impl_within.f ((rd_T63 l0 x7_1).f5) 0 999).bind fun t393 => (if t393 = true then (if x7_1 > 0 then (if 0 ≤ (wrap64 (x7_1 - 1)) then (if (wrap64 (x7_1 - 1)) < (l0.length : Int) then (if ((rd_T63 l0 (wrap64 (x7_1 - 1))).f0) ≥ ((rd_T63 l0 x7_1).f0) then (some false) else (impl_FoodsValid.l0 k1 l0 l0 (l0.length : Int) (wrap64 (x7_1 + 1)))) else (none)) else (none)) else (impl_FoodsValid.l0 k1 l0 l0 (l0.length : Int) (wrap64 (x7_1 + 1)))) else (some false))) else (some false))) else (some false))) else (some false))) else (some false)) = some r := H
   have A7 := Aside0.mk A70
   clear A70
   rcases (Classical.em (t389 = true)).symm with c8 | c8
   ·replace c8 := Bool.eq_false_iff.mpr c8
    subst c8
    have H1 : (some false) = some r := by rw [if_neg (show ¬ (false = true) by decide)] at H; exact H
    clear H
    have H := H1
    clear H1
    obtain rfl := Option.some.inj H
    have p386 : 0 ≤ (x7_1 : Int) := of_decide_eq_true pA
    have q386 : x7_1 < (l0.length : Int) := of_decide_eq_true pA
    obtain ⟨ad386, e386, hx386_0, hx386_1, hx386_2, hx386_3, hx386_4, hx386_5⟩ := at_T63 HR0.out x7_1 p386 q386
    cases e386
    replace hx386_0 := (HB.out.cell (World.block_lt_of_cell? w _ hx386_0)).trans hx386_0
    replace hx386_1 := (HB.out.cell (World.block_lt_of_cell? w _ hx386_1)).trans hx386_1
    replace hx386_2 := (HB.out.cell (World.block_lt_of_cell? w _ hx386_2)).trans hx386_2
    replace hx386_3 := (HB.out.cell (World.block_lt_of_cell? w _ hx386_3)).trans hx386_3
    replace hx386_4 := (HB.out.cell (World.block_lt_of_cell? w _ hx386_4)).trans hx386_4
    replace hx386_5 := (HB.out.cell (World.block_lt_of_cell? w _ hx386_5)).trans hx386_5
    replace p386 := eq_true p386
    replace q386 := eq_true q386
    try go_wp2_with (first | ((with_reducible refine gate_dst (N := 4) rfl ?_); refine box_event ?hg (N := 4) ?hd (cs := #[.int .i64 0, .int .i64 0, .int .i64 0, .int .i64 0, .int .i64 0, .int .i64 0]) (t := 63) ?hr ?_; (case hd => rfl); (case hg => rfl); (case hr => first | (go_simp; done) | (go_simp; rfl)); intro gb387 hg w50 hbox hb; have n0_ := Aside0.mk (below_step pB hb); have n1_ := Aside0.mk (hbox); have n2_ := Aside0.mk ((by rw [hg]; exact (below_size pB) : w.heap.size ≤ gb387)); have n3_ := Aside0.mk ((by rw [hg]; exact (below_size pB) : w.heap.size ≤ gb387)); clear HB; have HB := n0_; have BK387 := n1_; have GW387 := n2_; have GE387 := n3_; clear n0_ n1_ n2_ n3_; clear hb hbox hg; have hcz51_0 : w50.cell? ⟨gb387, 0, none⟩ = some (.int .i64 0) := (blk_cell BK387.out 0).trans rfl; have hcz51_1 : w50.cell? ⟨gb387, 1, none⟩ = some (.int .i64 0) := (blk_cell BK387.out 1).trans rfl; have hcz51_2 : w50.cell? ⟨gb387, 2, none⟩ = some (.int .i64 0) := (blk_cell BK387.out 2).trans rfl; have hcz51_3 : w50.cell? ⟨gb387, 3, none⟩ = some (.int .i64 0) := (blk_cell BK387.out 3).trans rfl; have hcz51_4 : w50.cell? ⟨gb387, 4, none⟩ = some (.int .i64 0) := (blk_cell BK387.out 4).trans rfl; have hcz51_5 : w50.cell? ⟨gb387, 5, none⟩ = some (.int .i64 0) := (blk_cell BK387.out 5).trans rfl; have hfz51_0 := blk_frozen BK387.out 0; have hfz51_1 := blk_frozen BK387.out 1; have hfz51_2 := blk_frozen BK387.out 2; have hfz51_3 := blk_frozen BK387.out 3; have hfz51_4 := blk_frozen BK387.out 4; have hfz51_5 := blk_frozen BK387.out 5))
    have n0_ : Aside0 (((((((w50.setCell ⟨gb387, 0, none⟩ (.int .i64 ((rd_T63 l0 x7_1).f0))).setCell ⟨gb387, 1, none⟩ (.int .i64 ((rd_T63 l0 x7_1).f1))).setCell ⟨gb387, 2, none⟩ (.int .i64 ((rd_T63 l0 x7_1).f2))).setCell ⟨gb387, 3, none⟩ (.int .i64 ((rd_T63 l0 x7_1).f3))).setCell ⟨gb387, 4, none⟩ (.int .i64 ((rd_T63 l0 x7_1).f4))).setCell ⟨gb387, 5, none⟩ (.int .i64 ((rd_T63 l0 x7_1).f5))).heap[gb387]? = some (.cells #[.int .i64 ((rd_T63 l0 x7_1).f0), .int .i64 ((rd_T63 l0 x7_1).f1), .int .i64 ((rd_T63 l0 x7_1).f2), .int .i64 ((rd_T63 l0 x7_1).f3), .int .i64 ((rd_T63 l0 x7_1).f4), .int .i64 ((rd_T63 l0 x7_1).f5)] 63 (0, 0))) := ⟨by (with_reducible repeat (first | refine blk_drewN ?_ _ | refine blk_drew ?_ | refine blk_alloc ?_ _)); refine blk_put (cs := #[.int .i64 ((rd_T63 l0 x7_1).f0), .int .i64 ((rd_T63 l0 x7_1).f1), .int .i64 ((rd_T63 l0 x7_1).f2), .int .i64 ((rd_T63 l0 x7_1).f3), .int .i64 ((rd_T63 l0 x7_1).f4), .int .i64 0]) ?_ 5 _ rfl; (with_reducible repeat (first | refine blk_drewN ?_ _ | refine blk_drew ?_ | refine blk_alloc ?_ _)); refine blk_put (cs := #[.int .i64 ((rd_T63 l0 x7_1).f0), .int .i64 ((rd_T63 l0 x7_1).f1), .int .i64 ((rd_T63 l0 x7_1).f2), .int .i64 ((rd_T63 l0 x7_1).f3), .int .i64 0, .int .i64 0]) ?_ 4 _ rfl; (with_reducible repeat (first | refine blk_drewN ?_ _ | refine blk_drew ?_ | refine blk_alloc ?_ _)); refine blk_put (cs := #[.int .i64 ((rd_T63 l0 x7_1).f0), .int .i64 ((rd_T63 l0 x7_1).f1), .int .i64 ((rd_T63 l0 x7_1).f2), .int .i64 0, .int .i64 0, .int .i64 0]) ?_ 3 _ rfl; (with_reducible repeat (first | refine blk_drewN ?_ _ | refine blk_drew ?_ | refine blk_alloc ?_ _)); refine blk_put (cs := #[.int .i64 ((rd_T63 l0 x7_1).f0), .int .i64 ((rd_T63 l0 x7_1).f1), .int .i64 0, .int .i64 0, .int .i64 0, .int .i64 0]) ?_ 2 _ rfl; (with_reducible repeat (first | refine blk_drewN ?_ _ | refine blk_drew ?_ | refine blk_alloc ?_ _)); refine blk_put (cs := #[.int .i64 ((rd_T63 l0 x7_1).f0), .int .i64 0, .int .i64 0, .int .i64 0, .int .i64 0, .int .i64 0]) ?_ 1 _ rfl; (with_reducible repeat (first | refine blk_drewN ?_ _ | refine blk_drew ?_ | refine blk_alloc ?_ _)); refine blk_put (cs := #[.int .i64 0, .int .i64 0, .int .i64 0, .int .i64 0, .int .i64 0, .int .i64 0]) ?_ 0 _ rfl; (with_reducible repeat (first | refine blk_drewN ?_ _ | refine blk_drew ?_ | refine blk_alloc ?_ _)); exact BK387.out⟩
    have n1_ : Aside0 (Below w.heap.size w ((((((w50.setCell ⟨gb387, 0, none⟩ (.int .i64 ((rd_T63 l0 x7_1).f0))).setCell ⟨gb387, 1, none⟩ (.int .i64 ((rd_T63 l0 x7_1).f1))).setCell ⟨gb387, 2, none⟩ (.int .i64 ((rd_T63 l0 x7_1).f2))).setCell ⟨gb387, 3, none⟩ (.int .i64 ((rd_T63 l0 x7_1).f3))).setCell ⟨gb387, 4, none⟩ (.int .i64 ((rd_T63 l0 x7_1).f4))).setCell ⟨gb387, 5, none⟩ (.int .i64 ((rd_T63 l0 x7_1).f5)))) := ⟨pG GE387⟩
    (try clear BK387)
    (try clear HB)
    generalize ((((((w50.setCell ⟨gb387, 0, none⟩ (.int .i64 ((rd_T63 l0 x7_1).f0))).setCell ⟨gb387, 1, none⟩ (.int .i64 ((rd_T63 l0 x7_1).f1))).setCell ⟨gb387, 2, none⟩ (.int .i64 ((rd_T63 l0 x7_1).f2))).setCell ⟨gb387, 3, none⟩ (.int .i64 ((rd_T63 l0 x7_1).f3))).setCell ⟨gb387, 4, none⟩ (.int .i64 ((rd_T63 l0 x7_1).f4))).setCell ⟨gb387, 5, none⟩ (.int .i64 ((rd_T63 l0 x7_1).f5))) = w52 at n0_ n1_ ⊢
    have BK387 := n0_
    have HB := n1_
    clear n0_ n1_
    have n0_ := Aside0.mk (blk_drew BK387.out)
    have n1_ := Aside0.mk (below_drew1 HB.out)
    clear BK387
    clear HB
    have BK387 := n0_
    have HB := n1_
    clear n0_ n1_
    refine start_ (n := 49) (S := fun w' => w'.cell? ⟨gb387, 0, none⟩ = some (.int .i64 ((rd_T63 l0 x7_1).f0)) ∧ w'.cell? ⟨gb387, 1, none⟩ = some (.int .i64 ((rd_T63 l0 x7_1).f1)) ∧ w'.cell? ⟨gb387, 2, none⟩ = some (.int .i64 ((rd_T63 l0 x7_1).f2)) ∧ w'.cell? ⟨gb387, 3, none⟩ = some (.int .i64 ((rd_T63 l0 x7_1).f3)) ∧ w'.cell? ⟨gb387, 4, none⟩ = some (.int .i64 ((rd_T63 l0 x7_1).f4)) ∧ w'.cell? ⟨gb387, 5, none⟩ = some (.int .i64 ((rd_T63 l0 x7_1).f5))) (ds := []) #[false, false, false, false, false, false, false, false, false, false, false, false, false, false, false, false, false, false, false, false, false, false, false, false, false, false, false, false, false, false, false, false, false, false, false, false, false, false, false, false, false, false, false, false, false, false, false, false, false] pL rfl rfl ⟨(blk_cell BK387.out 0).trans rfl, (blk_cell BK387.out 1).trans rfl, (blk_cell BK387.out 2).trans rfl, (blk_cell BK387.out 3).trans rfl, (blk_cell BK387.out 4).trans rfl, (blk_cell BK387.out 5).trans rfl⟩ (fun hHeld => ?_); refine with_tabW impl_FoodsValid.tab4 impl_FoodsValid.bits4 (fun HT_ HW_ => ?_)
    generalize w52.drew = w53 at BK387 HB hHeld ⊢
    refine pv 0 (some 12) HT_ rfl rfl pL ?_
    refine tv 1 (some 13) HT_ HW_ rfl rfl pL (fun _ _ _ h => h) (by rfl) F79.q2 hHeld pP ?_
    refine one_ (i := 2) (N := some 14) F79.b0 rfl rfl (one_of HT_.out pL) (by decide) (fun K hK => ?_)
    refine goes_ Try.func80 pL rfl #[.int .i64 ((rd_T63 l0 x7_1).f0)] (by rfl) rfl rfl pM ?_
    with_reducible refine (impl_isId.calls ((rd_T63 l0 x7_1).f0) true _ A5.out).mono ?_
    rintro e w' ⟨rfl, ⟨nd, rfl⟩⟩
    refine ⟨_, rfl, ?_⟩
    refine hK.out _ _ F79.q1 (fun hHeld => ?_)
    clear hK K
    refine norm_ (a' := ?_) ?_ ?_
    rotate_left
    ·show Act.put _ (some 14) _ = _
     exact pP
    refine pv 3 (some 15) HT_ rfl rfl pL ?_
    refine pv 4 (some 16) HT_ rfl rfl pL ?_
    refine pv 5 (some 17) HT_ rfl rfl pL ?_
    refine tv 6 (some 18) HT_ HW_ rfl rfl pL (fun _ _ _ h => h) (by rfl) F79.q2 hHeld pP ?_
    refine one_ (i := 7) (N := some 19) F79.b1 rfl rfl (one_of HT_.out pL) (by decide) (fun K hK => ?_)
    refine goes_ Try.func76 pL rfl #[.int .i64 ((rd_T63 l0 x7_1).f1), .int .i64 1, .int .i64 3] (by rfl) rfl rfl pM ?_
    with_reducible refine (impl_within.calls ((rd_T63 l0 x7_1).f1) 1 3 false _ A7.out).mono ?_
    rintro e w' ⟨rfl, ⟨nd, rfl⟩⟩
    refine ⟨_, rfl, ?_⟩
    refine hK.out _ _ F79.q1 (fun hHeld => ?_)
    clear hK K
    refine norm_ (a' := ?_) ?_ ?_
    rotate_left
    ·show Act.put _ (some 19) _ = _
     exact pP
    refine pv 8 (some 20) HT_ rfl rfl pL ?_
    refine pv 9 (some 21) HT_ rfl rfl pL ?_
    refine pv 10 (some 22) HT_ rfl rfl pL ?_
    refine uv 11 (some 23) HT_ rfl rfl pL ?_
    refine uv 12 (some 24) HT_ rfl rfl pL ?_
    refine uv 13 (some 25) HT_ rfl rfl pL ?_
    refine uv 14 (some 26) HT_ rfl rfl pL ?_
    refine pv 15 (some 27) HT_ rfl rfl pL ?_
    refine pu 16 (some 28) #[true, true, true, true, true, true, true, true, true, true, true, true, true, true, true, true, true, false, false, false, false, false, false, false, false, false, false, false, false, false, false, false, false, false, false, false, false, false, false, false, false, false, false, false, false, false, false, false, false] HT_ rfl rfl pL (fun _ _ _ h => h) (by rfl) pY pP ?_
    refine uv 17 (some 29) HT_ rfl rfl pL ?_
    refine uv 18 (some 30) HT_ rfl rfl pL ?_
    refine uv 19 (some 31) HT_ rfl rfl pL ?_
    refine uv 20 (some 32) HT_ rfl rfl pL ?_
    refine pv 21 (some 33) HT_ rfl rfl pL ?_
    refine pv 22 (some 34) HT_ rfl rfl pL ?_
    refine uv 23 (some 35) HT_ rfl rfl pL ?_
    refine uv 24 (some 36) HT_ rfl rfl pL ?_
    refine un 25 (some 37) F79.b4 HT_ rfl rfl pL (fun _ _ _ h => h) (by rfl) pP ?_
    refine uv 26 (some 38) HT_ rfl rfl pL ?_
    refine pv 27 (some 39) HT_ rfl rfl pL ?_
    refine pv 28 (some 40) HT_ rfl rfl pL ?_
    refine uv 29 (some 41) HT_ rfl rfl pL ?_
    refine uv 30 (some 42) HT_ rfl rfl pL ?_
    refine uv 31 (some 43) HT_ rfl rfl pL ?_
    refine uv 32 (some 44) HT_ rfl rfl pL ?_
    refine pv 33 (some 45) HT_ rfl rfl pL ?_
    refine pu 34 (some 46) F79.b7 HT_ rfl rfl pL (fun _ _ _ h => h) (by rfl) pY pP ?_
    refine uv 35 (some 47) HT_ rfl rfl pL ?_
    refine uv 36 (some 48) HT_ rfl rfl pL ?_
    refine uv 37 (some 49) HT_ rfl rfl pL ?_
    refine uv 38 (some 50) HT_ rfl rfl pL ?_
    refine uv 39 (some 51) HT_ rfl rfl pL ?_
    refine uv 40 (some 52) HT_ rfl rfl pL ?_
    refine uv 41 (some 53) HT_ rfl rfl pL ?_
    refine uv 42 (some 54) HT_ rfl rfl pL ?_
    refine un 43 (some 55) F79.b8 HT_ rfl rfl pL (fun _ _ _ h => h) (by rfl) pP ?_
    refine uv 44 (some 56) HT_ rfl rfl pL ?_
    refine uv 45 (some 57) HT_ rfl rfl pL ?_
    refine uv 46 (some 58) HT_ rfl rfl pL ?_
    refine uv 47 (some 59) HT_ rfl rfl pL ?_
    refine pv 48 (some 60) HT_ rfl rfl pL ?_
    refine done_ (done_of HT_.out pL) ?_
    try go_wp2
    go_ret
    exact ⟨pE, pG GE387⟩
   subst c8
   have H1 : ((impl_isSet.f ((rd_T63 l0 x7_1).f2)).bind fun t390 => (if t390 = true then ((impl_isKind.f ((rd_T63 l0 x7_1).f3)).bind fun t391 => (if t391 = true then ((impl_within.f ((rd_T63 l0 x7_1).f4) 0 999).bind fun t392 => (if t392 = true then ((impl_within.f ((rd_T63 l0 x7_1).f5) 0 999).bind fun t393 => (if t393 = true then (if x7_1 > 0 then (if 0 ≤ (wrap64 (x7_1 - 1)) then (if (wrap64 (x7_1 - 1)) < (l0.length : Int) then (if ((rd_T63 l0 (wrap64 (x7_1 - 1))).f0) ≥ ((rd_T63 l0 x7_1).f0) then (some false) else (impl_FoodsValid.l0 k1 l0 l0 (l0.length : Int) (wrap64 (x7_1 + 1)))) else (none)) else (none)) else (impl_FoodsValid.l0 k1 l0 l0 (l0.length : Int) (wrap64 (x7_1 + 1)))) else (some false))) else (some false))) else (some false))) else (some false))) = some r := by rw [if_pos rfl] at H; exact H
   clear H
   have H := H1
   clear H1
   replace H := Option.bind_eq_some_iff.mp H
   obtain ⟨t390, A90, H⟩ := H
   replace H : (if t390 = true then ((impl_isKind.f ((rd_T63 l0 x7_1).f3)).bind fun t391 => (if t391 = true then ((impl_within.f ((rd_T63 l0 x7_1).f4) 0 999).bind fun t392 => (if t392 = true then ((impl_within.f ((rd_T63 l0 x7_1).f5) 0 999).bind fun t393 => (if t393 = true then (if x7_1 > 0 then (if 0 ≤ (wrap64 (x7_1 - 1)) then (if (wrap64 (x7_1 - 1)) < (l0.length : Int) then (if ((rd_T63 l0 (wrap64 (x7_1 - 1))).f0) ≥ ((rd_T63 l0 x7_1).f0) then (some false) else (impl_FoodsValid.l0 k1 l0 l0 (l0.length : Int) (wrap64 (x7_1 + 1)))) else (none)) else (none)) else (impl_FoodsValid.l0 k1 l0 l0 (l0.length : Int) (wrap64 (x7_1 + 1)))) else (some false))) else (some false))) else (some false))) else (some false)) = some r := H
   have A9 := Aside0.mk A90
   clear A90
   rcases (Classical.em (t390 = true)).symm with c10 | c10
   ·replace c10 := Bool.eq_false_iff.mpr c10
    subst c10
    have H1 : (some false) = some r := by rw [if_neg (show ¬ (false = true) by decide)] at H; exact H
    clear H
    have H := H1
    clear H1
    obtain rfl := Option.some.inj H
    have p386 : 0 ≤ (x7_1 : Int) := of_decide_eq_true pA
    have q386 : x7_1 < (l0.length : Int) := of_decide_eq_true pA
    obtain ⟨ad386, e386, hx386_0, hx386_1, hx386_2, hx386_3, hx386_4, hx386_5⟩ := at_T63 HR0.out x7_1 p386 q386
    cases e386
    replace hx386_0 := (HB.out.cell (World.block_lt_of_cell? w _ hx386_0)).trans hx386_0
    replace hx386_1 := (HB.out.cell (World.block_lt_of_cell? w _ hx386_1)).trans hx386_1
    replace hx386_2 := (HB.out.cell (World.block_lt_of_cell? w _ hx386_2)).trans hx386_2
    replace hx386_3 := (HB.out.cell (World.block_lt_of_cell? w _ hx386_3)).trans hx386_3
    replace hx386_4 := (HB.out.cell (World.block_lt_of_cell? w _ hx386_4)).trans hx386_4
    replace hx386_5 := (HB.out.cell (World.block_lt_of_cell? w _ hx386_5)).trans hx386_5
    replace p386 := eq_true p386
    replace q386 := eq_true q386
    try go_wp2_with (first | ((with_reducible refine gate_dst (N := 4) rfl ?_); refine box_event ?hg (N := 4) ?hd (cs := #[.int .i64 0, .int .i64 0, .int .i64 0, .int .i64 0, .int .i64 0, .int .i64 0]) (t := 63) ?hr ?_; (case hd => rfl); (case hg => rfl); (case hr => first | (go_simp; done) | (go_simp; rfl)); intro gb387 hg w46 hbox hb; have n0_ := Aside0.mk (below_step pB hb); have n1_ := Aside0.mk (hbox); have n2_ := Aside0.mk ((by rw [hg]; exact (below_size pB) : w.heap.size ≤ gb387)); have n3_ := Aside0.mk ((by rw [hg]; exact (below_size pB) : w.heap.size ≤ gb387)); clear HB; have HB := n0_; have BK387 := n1_; have GW387 := n2_; have GE387 := n3_; clear n0_ n1_ n2_ n3_; clear hb hbox hg; have hcz47_0 : w46.cell? ⟨gb387, 0, none⟩ = some (.int .i64 0) := (blk_cell BK387.out 0).trans rfl; have hcz47_1 : w46.cell? ⟨gb387, 1, none⟩ = some (.int .i64 0) := (blk_cell BK387.out 1).trans rfl; have hcz47_2 : w46.cell? ⟨gb387, 2, none⟩ = some (.int .i64 0) := (blk_cell BK387.out 2).trans rfl; have hcz47_3 : w46.cell? ⟨gb387, 3, none⟩ = some (.int .i64 0) := (blk_cell BK387.out 3).trans rfl; have hcz47_4 : w46.cell? ⟨gb387, 4, none⟩ = some (.int .i64 0) := (blk_cell BK387.out 4).trans rfl; have hcz47_5 : w46.cell? ⟨gb387, 5, none⟩ = some (.int .i64 0) := (blk_cell BK387.out 5).trans rfl; have hfz47_0 := blk_frozen BK387.out 0; have hfz47_1 := blk_frozen BK387.out 1; have hfz47_2 := blk_frozen BK387.out 2; have hfz47_3 := blk_frozen BK387.out 3; have hfz47_4 := blk_frozen BK387.out 4; have hfz47_5 := blk_frozen BK387.out 5))
    have n0_ : Aside0 (((((((w46.setCell ⟨gb387, 0, none⟩ (.int .i64 ((rd_T63 l0 x7_1).f0))).setCell ⟨gb387, 1, none⟩ (.int .i64 ((rd_T63 l0 x7_1).f1))).setCell ⟨gb387, 2, none⟩ (.int .i64 ((rd_T63 l0 x7_1).f2))).setCell ⟨gb387, 3, none⟩ (.int .i64 ((rd_T63 l0 x7_1).f3))).setCell ⟨gb387, 4, none⟩ (.int .i64 ((rd_T63 l0 x7_1).f4))).setCell ⟨gb387, 5, none⟩ (.int .i64 ((rd_T63 l0 x7_1).f5))).heap[gb387]? = some (.cells #[.int .i64 ((rd_T63 l0 x7_1).f0), .int .i64 ((rd_T63 l0 x7_1).f1), .int .i64 ((rd_T63 l0 x7_1).f2), .int .i64 ((rd_T63 l0 x7_1).f3), .int .i64 ((rd_T63 l0 x7_1).f4), .int .i64 ((rd_T63 l0 x7_1).f5)] 63 (0, 0))) := ⟨by (with_reducible repeat (first | refine blk_drewN ?_ _ | refine blk_drew ?_ | refine blk_alloc ?_ _)); refine blk_put (cs := #[.int .i64 ((rd_T63 l0 x7_1).f0), .int .i64 ((rd_T63 l0 x7_1).f1), .int .i64 ((rd_T63 l0 x7_1).f2), .int .i64 ((rd_T63 l0 x7_1).f3), .int .i64 ((rd_T63 l0 x7_1).f4), .int .i64 0]) ?_ 5 _ rfl; (with_reducible repeat (first | refine blk_drewN ?_ _ | refine blk_drew ?_ | refine blk_alloc ?_ _)); refine blk_put (cs := #[.int .i64 ((rd_T63 l0 x7_1).f0), .int .i64 ((rd_T63 l0 x7_1).f1), .int .i64 ((rd_T63 l0 x7_1).f2), .int .i64 ((rd_T63 l0 x7_1).f3), .int .i64 0, .int .i64 0]) ?_ 4 _ rfl; (with_reducible repeat (first | refine blk_drewN ?_ _ | refine blk_drew ?_ | refine blk_alloc ?_ _)); refine blk_put (cs := #[.int .i64 ((rd_T63 l0 x7_1).f0), .int .i64 ((rd_T63 l0 x7_1).f1), .int .i64 ((rd_T63 l0 x7_1).f2), .int .i64 0, .int .i64 0, .int .i64 0]) ?_ 3 _ rfl; (with_reducible repeat (first | refine blk_drewN ?_ _ | refine blk_drew ?_ | refine blk_alloc ?_ _)); refine blk_put (cs := #[.int .i64 ((rd_T63 l0 x7_1).f0), .int .i64 ((rd_T63 l0 x7_1).f1), .int .i64 0, .int .i64 0, .int .i64 0, .int .i64 0]) ?_ 2 _ rfl; (with_reducible repeat (first | refine blk_drewN ?_ _ | refine blk_drew ?_ | refine blk_alloc ?_ _)); refine blk_put (cs := #[.int .i64 ((rd_T63 l0 x7_1).f0), .int .i64 0, .int .i64 0, .int .i64 0, .int .i64 0, .int .i64 0]) ?_ 1 _ rfl; (with_reducible repeat (first | refine blk_drewN ?_ _ | refine blk_drew ?_ | refine blk_alloc ?_ _)); refine blk_put (cs := #[.int .i64 0, .int .i64 0, .int .i64 0, .int .i64 0, .int .i64 0, .int .i64 0]) ?_ 0 _ rfl; (with_reducible repeat (first | refine blk_drewN ?_ _ | refine blk_drew ?_ | refine blk_alloc ?_ _)); exact BK387.out⟩
    have n1_ : Aside0 (Below w.heap.size w ((((((w46.setCell ⟨gb387, 0, none⟩ (.int .i64 ((rd_T63 l0 x7_1).f0))).setCell ⟨gb387, 1, none⟩ (.int .i64 ((rd_T63 l0 x7_1).f1))).setCell ⟨gb387, 2, none⟩ (.int .i64 ((rd_T63 l0 x7_1).f2))).setCell ⟨gb387, 3, none⟩ (.int .i64 ((rd_T63 l0 x7_1).f3))).setCell ⟨gb387, 4, none⟩ (.int .i64 ((rd_T63 l0 x7_1).f4))).setCell ⟨gb387, 5, none⟩ (.int .i64 ((rd_T63 l0 x7_1).f5)))) := ⟨pG GE387⟩
    (try clear BK387)
    (try clear HB)
    generalize ((((((w46.setCell ⟨gb387, 0, none⟩ (.int .i64 ((rd_T63 l0 x7_1).f0))).setCell ⟨gb387, 1, none⟩ (.int .i64 ((rd_T63 l0 x7_1).f1))).setCell ⟨gb387, 2, none⟩ (.int .i64 ((rd_T63 l0 x7_1).f2))).setCell ⟨gb387, 3, none⟩ (.int .i64 ((rd_T63 l0 x7_1).f3))).setCell ⟨gb387, 4, none⟩ (.int .i64 ((rd_T63 l0 x7_1).f4))).setCell ⟨gb387, 5, none⟩ (.int .i64 ((rd_T63 l0 x7_1).f5))) = w48 at n0_ n1_ ⊢
    have BK387 := n0_
    have HB := n1_
    clear n0_ n1_
    have n0_ := Aside0.mk (blk_drew BK387.out)
    have n1_ := Aside0.mk (below_drew1 HB.out)
    clear BK387
    clear HB
    have BK387 := n0_
    have HB := n1_
    clear n0_ n1_
    refine start_ (n := 49) (S := fun w' => w'.cell? ⟨gb387, 0, none⟩ = some (.int .i64 ((rd_T63 l0 x7_1).f0)) ∧ w'.cell? ⟨gb387, 1, none⟩ = some (.int .i64 ((rd_T63 l0 x7_1).f1)) ∧ w'.cell? ⟨gb387, 2, none⟩ = some (.int .i64 ((rd_T63 l0 x7_1).f2)) ∧ w'.cell? ⟨gb387, 3, none⟩ = some (.int .i64 ((rd_T63 l0 x7_1).f3)) ∧ w'.cell? ⟨gb387, 4, none⟩ = some (.int .i64 ((rd_T63 l0 x7_1).f4)) ∧ w'.cell? ⟨gb387, 5, none⟩ = some (.int .i64 ((rd_T63 l0 x7_1).f5))) (ds := []) #[false, false, false, false, false, false, false, false, false, false, false, false, false, false, false, false, false, false, false, false, false, false, false, false, false, false, false, false, false, false, false, false, false, false, false, false, false, false, false, false, false, false, false, false, false, false, false, false, false] pL rfl rfl ⟨(blk_cell BK387.out 0).trans rfl, (blk_cell BK387.out 1).trans rfl, (blk_cell BK387.out 2).trans rfl, (blk_cell BK387.out 3).trans rfl, (blk_cell BK387.out 4).trans rfl, (blk_cell BK387.out 5).trans rfl⟩ (fun hHeld => ?_); refine with_tabW impl_FoodsValid.tab4 impl_FoodsValid.bits4 (fun HT_ HW_ => ?_)
    generalize w48.drew = w49 at BK387 HB hHeld ⊢
    refine pv 0 (some 12) HT_ rfl rfl pL ?_
    refine tv 1 (some 13) HT_ HW_ rfl rfl pL (fun _ _ _ h => h) (by rfl) F79.q2 hHeld pP ?_
    refine one_ (i := 2) (N := some 14) F79.b0 rfl rfl (one_of HT_.out pL) (by decide) (fun K hK => ?_)
    refine goes_ Try.func80 pL rfl #[.int .i64 ((rd_T63 l0 x7_1).f0)] (by rfl) rfl rfl pM ?_
    with_reducible refine (impl_isId.calls ((rd_T63 l0 x7_1).f0) true _ A5.out).mono ?_
    rintro e w' ⟨rfl, ⟨nd, rfl⟩⟩
    refine ⟨_, rfl, ?_⟩
    refine hK.out _ _ F79.q1 (fun hHeld => ?_)
    clear hK K
    refine norm_ (a' := ?_) ?_ ?_
    rotate_left
    ·show Act.put _ (some 14) _ = _
     exact pP
    refine pv 3 (some 15) HT_ rfl rfl pL ?_
    refine pv 4 (some 16) HT_ rfl rfl pL ?_
    refine pv 5 (some 17) HT_ rfl rfl pL ?_
    refine tv 6 (some 18) HT_ HW_ rfl rfl pL (fun _ _ _ h => h) (by rfl) F79.q2 hHeld pP ?_
    refine one_ (i := 7) (N := some 19) F79.b1 rfl rfl (one_of HT_.out pL) (by decide) (fun K hK => ?_)
    refine goes_ Try.func76 pL rfl #[.int .i64 ((rd_T63 l0 x7_1).f1), .int .i64 1, .int .i64 3] (by rfl) rfl rfl pM ?_
    with_reducible refine (impl_within.calls ((rd_T63 l0 x7_1).f1) 1 3 true _ A7.out).mono ?_
    rintro e w' ⟨rfl, ⟨nd, rfl⟩⟩
    refine ⟨_, rfl, ?_⟩
    refine hK.out _ _ F79.q1 (fun hHeld => ?_)
    clear hK K
    refine norm_ (a' := ?_) ?_ ?_
    rotate_left
    ·show Act.put _ (some 19) _ = _
     exact pP
    refine pv 8 (some 20) HT_ rfl rfl pL ?_
    refine pv 9 (some 21) HT_ rfl rfl pL ?_
    refine pv 10 (some 22) HT_ rfl rfl pL ?_
    refine pv 11 (some 23) HT_ rfl rfl pL ?_
    refine tv 12 (some 24) HT_ HW_ rfl rfl pL (fun _ _ _ h => h) (by rfl) F79.q2 hHeld pP ?_
    refine one_ (i := 13) (N := some 25) F79.b2 rfl rfl (one_of HT_.out pL) (by decide) (fun K hK => ?_)
    refine goes_ Try.func86 pL rfl #[.int .i64 ((rd_T63 l0 x7_1).f2)] (by rfl) rfl rfl pM ?_
    with_reducible refine (impl_isSet.calls ((rd_T63 l0 x7_1).f2) false _ A9.out).mono ?_
    rintro e w' ⟨rfl, ⟨nd, rfl⟩⟩
    refine ⟨_, rfl, ?_⟩
    refine hK.out _ _ F79.q1 (fun hHeld => ?_)
    clear hK K
    refine norm_ (a' := ?_) ?_ ?_
    rotate_left
    ·show Act.put _ (some 25) _ = _
     exact pP
    refine pv 14 (some 26) HT_ rfl rfl pL ?_
    refine pv 15 (some 27) HT_ rfl rfl pL ?_
    refine pv 16 (some 28) HT_ rfl rfl pL ?_
    refine uv 17 (some 29) HT_ rfl rfl pL ?_
    refine uv 18 (some 30) HT_ rfl rfl pL ?_
    refine uv 19 (some 31) HT_ rfl rfl pL ?_
    refine uv 20 (some 32) HT_ rfl rfl pL ?_
    refine pv 21 (some 33) HT_ rfl rfl pL ?_
    refine pu 22 (some 34) #[true, true, true, true, true, true, true, true, true, true, true, true, true, true, true, true, true, true, true, true, true, true, true, false, false, false, false, false, false, false, false, false, false, false, false, false, false, false, false, false, false, false, false, false, false, false, false, false, false] HT_ rfl rfl pL (fun _ _ _ h => h) (by rfl) pY pP ?_
    refine uv 23 (some 35) HT_ rfl rfl pL ?_
    refine uv 24 (some 36) HT_ rfl rfl pL ?_
    refine uv 25 (some 37) HT_ rfl rfl pL ?_
    refine uv 26 (some 38) HT_ rfl rfl pL ?_
    refine pv 27 (some 39) HT_ rfl rfl pL ?_
    refine pv 28 (some 40) HT_ rfl rfl pL ?_
    refine uv 29 (some 41) HT_ rfl rfl pL ?_
    refine uv 30 (some 42) HT_ rfl rfl pL ?_
    refine un 31 (some 43) F79.b5 HT_ rfl rfl pL (fun _ _ _ h => h) (by rfl) pP ?_
    refine uv 32 (some 44) HT_ rfl rfl pL ?_
    refine pv 33 (some 45) HT_ rfl rfl pL ?_
    refine pv 34 (some 46) HT_ rfl rfl pL ?_
    refine uv 35 (some 47) HT_ rfl rfl pL ?_
    refine uv 36 (some 48) HT_ rfl rfl pL ?_
    refine uv 37 (some 49) HT_ rfl rfl pL ?_
    refine uv 38 (some 50) HT_ rfl rfl pL ?_
    refine uv 39 (some 51) HT_ rfl rfl pL ?_
    refine un 40 (some 52) F79.b6 HT_ rfl rfl pL (fun _ _ _ h => h) (by rfl) pP ?_
    refine uv 41 (some 53) HT_ rfl rfl pL ?_
    refine uv 42 (some 54) HT_ rfl rfl pL ?_
    refine uv 43 (some 55) HT_ rfl rfl pL ?_
    refine uv 44 (some 56) HT_ rfl rfl pL ?_
    refine uv 45 (some 57) HT_ rfl rfl pL ?_
    refine uv 46 (some 58) HT_ rfl rfl pL ?_
    refine uv 47 (some 59) HT_ rfl rfl pL ?_
    refine pv 48 (some 60) HT_ rfl rfl pL ?_
    refine done_ (done_of HT_.out pL) ?_
    try go_wp2
    go_ret
    exact ⟨pE, pG GE387⟩
   subst c10
   have H1 : ((impl_isKind.f ((rd_T63 l0 x7_1).f3)).bind fun t391 => (if t391 = true then ((impl_within.f ((rd_T63 l0 x7_1).f4) 0 999).bind fun t392 => (if t392 = true then ((impl_within.f ((rd_T63 l0 x7_1).f5) 0 999).bind fun t393 => (if t393 = true then (if x7_1 > 0 then (if 0 ≤ (wrap64 (x7_1 - 1)) then (if (wrap64 (x7_1 - 1)) < (l0.length : Int) then (if ((rd_T63 l0 (wrap64 (x7_1 - 1))).f0) ≥ ((rd_T63 l0 x7_1).f0) then (some false) else (impl_FoodsValid.l0 k1 l0 l0 (l0.length : Int) (wrap64 (x7_1 + 1)))) else (none)) else (none)) else (impl_FoodsValid.l0 k1 l0 l0 (l0.length : Int) (wrap64 (x7_1 + 1)))) else (some false))) else (some false))) else (some false))) = some r := by rw [if_pos rfl] at H; exact H
   clear H
   have H := H1
   clear H1
   replace H := Option.bind_eq_some_iff.mp H
   obtain ⟨t391, A110, H⟩ := H
   replace H : (if t391 = true then ((impl_within.f ((rd_T63 l0 x7_1).f4) 0 999).bind fun t392 => (if t392 = true then ((impl_within.f ((rd_T63 l0 x7_1).f5) 0 999).bind fun t393 => (if t393 = true then (if x7_1 > 0 then (if 0 ≤ (wrap64 (x7_1 - 1)) then (if (wrap64 (x7_1 - 1)) < (l0.length : Int) then (if ((rd_T63 l0 (wrap64 (x7_1 - 1))).f0) ≥ ((rd_T63 l0 x7_1).f0) then (some false) else (impl_FoodsValid.l0 k1 l0 l0 (l0.length : Int) (wrap64 (x7_1 + 1)))) else (none)) else (none)) else (impl_FoodsValid.l0 k1 l0 l0 (l0.length : Int) (wrap64 (x7_1 + 1)))) else (some false))) else (some false))) else (some false)) = some r := H
   have A11 := Aside0.mk A110
   clear A110
   rcases (Classical.em (t391 = true)).symm with c12 | c12
   ·replace c12 := Bool.eq_false_iff.mpr c12
    subst c12
    have H1 : (some false) = some r := by rw [if_neg (show ¬ (false = true) by decide)] at H; exact H
    clear H
    have H := H1
    clear H1
    obtain rfl := Option.some.inj H
    have p386 : 0 ≤ (x7_1 : Int) := of_decide_eq_true pA
    have q386 : x7_1 < (l0.length : Int) := of_decide_eq_true pA
    obtain ⟨ad386, e386, hx386_0, hx386_1, hx386_2, hx386_3, hx386_4, hx386_5⟩ := at_T63 HR0.out x7_1 p386 q386
    cases e386
    replace hx386_0 := (HB.out.cell (World.block_lt_of_cell? w _ hx386_0)).trans hx386_0
    replace hx386_1 := (HB.out.cell (World.block_lt_of_cell? w _ hx386_1)).trans hx386_1
    replace hx386_2 := (HB.out.cell (World.block_lt_of_cell? w _ hx386_2)).trans hx386_2
    replace hx386_3 := (HB.out.cell (World.block_lt_of_cell? w _ hx386_3)).trans hx386_3
    replace hx386_4 := (HB.out.cell (World.block_lt_of_cell? w _ hx386_4)).trans hx386_4
    replace hx386_5 := (HB.out.cell (World.block_lt_of_cell? w _ hx386_5)).trans hx386_5
    replace p386 := eq_true p386
    replace q386 := eq_true q386
    try go_wp2_with (first | ((with_reducible refine gate_dst (N := 4) rfl ?_); refine box_event ?hg (N := 4) ?hd (cs := #[.int .i64 0, .int .i64 0, .int .i64 0, .int .i64 0, .int .i64 0, .int .i64 0]) (t := 63) ?hr ?_; (case hd => rfl); (case hg => rfl); (case hr => first | (go_simp; done) | (go_simp; rfl)); intro gb387 hg w42 hbox hb; have n0_ := Aside0.mk (below_step pB hb); have n1_ := Aside0.mk (hbox); have n2_ := Aside0.mk ((by rw [hg]; exact (below_size pB) : w.heap.size ≤ gb387)); have n3_ := Aside0.mk ((by rw [hg]; exact (below_size pB) : w.heap.size ≤ gb387)); clear HB; have HB := n0_; have BK387 := n1_; have GW387 := n2_; have GE387 := n3_; clear n0_ n1_ n2_ n3_; clear hb hbox hg; have hcz43_0 : w42.cell? ⟨gb387, 0, none⟩ = some (.int .i64 0) := (blk_cell BK387.out 0).trans rfl; have hcz43_1 : w42.cell? ⟨gb387, 1, none⟩ = some (.int .i64 0) := (blk_cell BK387.out 1).trans rfl; have hcz43_2 : w42.cell? ⟨gb387, 2, none⟩ = some (.int .i64 0) := (blk_cell BK387.out 2).trans rfl; have hcz43_3 : w42.cell? ⟨gb387, 3, none⟩ = some (.int .i64 0) := (blk_cell BK387.out 3).trans rfl; have hcz43_4 : w42.cell? ⟨gb387, 4, none⟩ = some (.int .i64 0) := (blk_cell BK387.out 4).trans rfl; have hcz43_5 : w42.cell? ⟨gb387, 5, none⟩ = some (.int .i64 0) := (blk_cell BK387.out 5).trans rfl; have hfz43_0 := blk_frozen BK387.out 0; have hfz43_1 := blk_frozen BK387.out 1; have hfz43_2 := blk_frozen BK387.out 2; have hfz43_3 := blk_frozen BK387.out 3; have hfz43_4 := blk_frozen BK387.out 4; have hfz43_5 := blk_frozen BK387.out 5))
    have n0_ : Aside0 (((((((w42.setCell ⟨gb387, 0, none⟩ (.int .i64 ((rd_T63 l0 x7_1).f0))).setCell ⟨gb387, 1, none⟩ (.int .i64 ((rd_T63 l0 x7_1).f1))).setCell ⟨gb387, 2, none⟩ (.int .i64 ((rd_T63 l0 x7_1).f2))).setCell ⟨gb387, 3, none⟩ (.int .i64 ((rd_T63 l0 x7_1).f3))).setCell ⟨gb387, 4, none⟩ (.int .i64 ((rd_T63 l0 x7_1).f4))).setCell ⟨gb387, 5, none⟩ (.int .i64 ((rd_T63 l0 x7_1).f5))).heap[gb387]? = some (.cells #[.int .i64 ((rd_T63 l0 x7_1).f0), .int .i64 ((rd_T63 l0 x7_1).f1), .int .i64 ((rd_T63 l0 x7_1).f2), .int .i64 ((rd_T63 l0 x7_1).f3), .int .i64 ((rd_T63 l0 x7_1).f4), .int .i64 ((rd_T63 l0 x7_1).f5)] 63 (0, 0))) := ⟨by (with_reducible repeat (first | refine blk_drewN ?_ _ | refine blk_drew ?_ | refine blk_alloc ?_ _)); refine blk_put (cs := #[.int .i64 ((rd_T63 l0 x7_1).f0), .int .i64 ((rd_T63 l0 x7_1).f1), .int .i64 ((rd_T63 l0 x7_1).f2), .int .i64 ((rd_T63 l0 x7_1).f3), .int .i64 ((rd_T63 l0 x7_1).f4), .int .i64 0]) ?_ 5 _ rfl; (with_reducible repeat (first | refine blk_drewN ?_ _ | refine blk_drew ?_ | refine blk_alloc ?_ _)); refine blk_put (cs := #[.int .i64 ((rd_T63 l0 x7_1).f0), .int .i64 ((rd_T63 l0 x7_1).f1), .int .i64 ((rd_T63 l0 x7_1).f2), .int .i64 ((rd_T63 l0 x7_1).f3), .int .i64 0, .int .i64 0]) ?_ 4 _ rfl; (with_reducible repeat (first | refine blk_drewN ?_ _ | refine blk_drew ?_ | refine blk_alloc ?_ _)); refine blk_put (cs := #[.int .i64 ((rd_T63 l0 x7_1).f0), .int .i64 ((rd_T63 l0 x7_1).f1), .int .i64 ((rd_T63 l0 x7_1).f2), .int .i64 0, .int .i64 0, .int .i64 0]) ?_ 3 _ rfl; (with_reducible repeat (first | refine blk_drewN ?_ _ | refine blk_drew ?_ | refine blk_alloc ?_ _)); refine blk_put (cs := #[.int .i64 ((rd_T63 l0 x7_1).f0), .int .i64 ((rd_T63 l0 x7_1).f1), .int .i64 0, .int .i64 0, .int .i64 0, .int .i64 0]) ?_ 2 _ rfl; (with_reducible repeat (first | refine blk_drewN ?_ _ | refine blk_drew ?_ | refine blk_alloc ?_ _)); refine blk_put (cs := #[.int .i64 ((rd_T63 l0 x7_1).f0), .int .i64 0, .int .i64 0, .int .i64 0, .int .i64 0, .int .i64 0]) ?_ 1 _ rfl; (with_reducible repeat (first | refine blk_drewN ?_ _ | refine blk_drew ?_ | refine blk_alloc ?_ _)); refine blk_put (cs := #[.int .i64 0, .int .i64 0, .int .i64 0, .int .i64 0, .int .i64 0, .int .i64 0]) ?_ 0 _ rfl; (with_reducible repeat (first | refine blk_drewN ?_ _ | refine blk_drew ?_ | refine blk_alloc ?_ _)); exact BK387.out⟩
    have n1_ : Aside0 (Below w.heap.size w ((((((w42.setCell ⟨gb387, 0, none⟩ (.int .i64 ((rd_T63 l0 x7_1).f0))).setCell ⟨gb387, 1, none⟩ (.int .i64 ((rd_T63 l0 x7_1).f1))).setCell ⟨gb387, 2, none⟩ (.int .i64 ((rd_T63 l0 x7_1).f2))).setCell ⟨gb387, 3, none⟩ (.int .i64 ((rd_T63 l0 x7_1).f3))).setCell ⟨gb387, 4, none⟩ (.int .i64 ((rd_T63 l0 x7_1).f4))).setCell ⟨gb387, 5, none⟩ (.int .i64 ((rd_T63 l0 x7_1).f5)))) := ⟨pG GE387⟩
    (try clear BK387)
    (try clear HB)
    generalize ((((((w42.setCell ⟨gb387, 0, none⟩ (.int .i64 ((rd_T63 l0 x7_1).f0))).setCell ⟨gb387, 1, none⟩ (.int .i64 ((rd_T63 l0 x7_1).f1))).setCell ⟨gb387, 2, none⟩ (.int .i64 ((rd_T63 l0 x7_1).f2))).setCell ⟨gb387, 3, none⟩ (.int .i64 ((rd_T63 l0 x7_1).f3))).setCell ⟨gb387, 4, none⟩ (.int .i64 ((rd_T63 l0 x7_1).f4))).setCell ⟨gb387, 5, none⟩ (.int .i64 ((rd_T63 l0 x7_1).f5))) = w44 at n0_ n1_ ⊢
    have BK387 := n0_
    have HB := n1_
    clear n0_ n1_
    have n0_ := Aside0.mk (blk_drew BK387.out)
    have n1_ := Aside0.mk (below_drew1 HB.out)
    clear BK387
    clear HB
    have BK387 := n0_
    have HB := n1_
    clear n0_ n1_
    refine start_ (n := 49) (S := fun w' => w'.cell? ⟨gb387, 0, none⟩ = some (.int .i64 ((rd_T63 l0 x7_1).f0)) ∧ w'.cell? ⟨gb387, 1, none⟩ = some (.int .i64 ((rd_T63 l0 x7_1).f1)) ∧ w'.cell? ⟨gb387, 2, none⟩ = some (.int .i64 ((rd_T63 l0 x7_1).f2)) ∧ w'.cell? ⟨gb387, 3, none⟩ = some (.int .i64 ((rd_T63 l0 x7_1).f3)) ∧ w'.cell? ⟨gb387, 4, none⟩ = some (.int .i64 ((rd_T63 l0 x7_1).f4)) ∧ w'.cell? ⟨gb387, 5, none⟩ = some (.int .i64 ((rd_T63 l0 x7_1).f5))) (ds := []) #[false, false, false, false, false, false, false, false, false, false, false, false, false, false, false, false, false, false, false, false, false, false, false, false, false, false, false, false, false, false, false, false, false, false, false, false, false, false, false, false, false, false, false, false, false, false, false, false, false] pL rfl rfl ⟨(blk_cell BK387.out 0).trans rfl, (blk_cell BK387.out 1).trans rfl, (blk_cell BK387.out 2).trans rfl, (blk_cell BK387.out 3).trans rfl, (blk_cell BK387.out 4).trans rfl, (blk_cell BK387.out 5).trans rfl⟩ (fun hHeld => ?_); refine with_tabW impl_FoodsValid.tab4 impl_FoodsValid.bits4 (fun HT_ HW_ => ?_)
    generalize w44.drew = w45 at BK387 HB hHeld ⊢
    refine pv 0 (some 12) HT_ rfl rfl pL ?_
    refine tv 1 (some 13) HT_ HW_ rfl rfl pL (fun _ _ _ h => h) (by rfl) F79.q2 hHeld pP ?_
    refine one_ (i := 2) (N := some 14) F79.b0 rfl rfl (one_of HT_.out pL) (by decide) (fun K hK => ?_)
    refine goes_ Try.func80 pL rfl #[.int .i64 ((rd_T63 l0 x7_1).f0)] (by rfl) rfl rfl pM ?_
    with_reducible refine (impl_isId.calls ((rd_T63 l0 x7_1).f0) true _ A5.out).mono ?_
    rintro e w' ⟨rfl, ⟨nd, rfl⟩⟩
    refine ⟨_, rfl, ?_⟩
    refine hK.out _ _ F79.q1 (fun hHeld => ?_)
    clear hK K
    refine norm_ (a' := ?_) ?_ ?_
    rotate_left
    ·show Act.put _ (some 14) _ = _
     exact pP
    refine pv 3 (some 15) HT_ rfl rfl pL ?_
    refine pv 4 (some 16) HT_ rfl rfl pL ?_
    refine pv 5 (some 17) HT_ rfl rfl pL ?_
    refine tv 6 (some 18) HT_ HW_ rfl rfl pL (fun _ _ _ h => h) (by rfl) F79.q2 hHeld pP ?_
    refine one_ (i := 7) (N := some 19) F79.b1 rfl rfl (one_of HT_.out pL) (by decide) (fun K hK => ?_)
    refine goes_ Try.func76 pL rfl #[.int .i64 ((rd_T63 l0 x7_1).f1), .int .i64 1, .int .i64 3] (by rfl) rfl rfl pM ?_
    with_reducible refine (impl_within.calls ((rd_T63 l0 x7_1).f1) 1 3 true _ A7.out).mono ?_
    rintro e w' ⟨rfl, ⟨nd, rfl⟩⟩
    refine ⟨_, rfl, ?_⟩
    refine hK.out _ _ F79.q1 (fun hHeld => ?_)
    clear hK K
    refine norm_ (a' := ?_) ?_ ?_
    rotate_left
    ·show Act.put _ (some 19) _ = _
     exact pP
    refine pv 8 (some 20) HT_ rfl rfl pL ?_
    refine pv 9 (some 21) HT_ rfl rfl pL ?_
    refine pv 10 (some 22) HT_ rfl rfl pL ?_
    refine pv 11 (some 23) HT_ rfl rfl pL ?_
    refine tv 12 (some 24) HT_ HW_ rfl rfl pL (fun _ _ _ h => h) (by rfl) F79.q2 hHeld pP ?_
    refine one_ (i := 13) (N := some 25) F79.b2 rfl rfl (one_of HT_.out pL) (by decide) (fun K hK => ?_)
    refine goes_ Try.func86 pL rfl #[.int .i64 ((rd_T63 l0 x7_1).f2)] (by rfl) rfl rfl pM ?_
    with_reducible refine (impl_isSet.calls ((rd_T63 l0 x7_1).f2) true _ A9.out).mono ?_
    rintro e w' ⟨rfl, ⟨nd, rfl⟩⟩
    refine ⟨_, rfl, ?_⟩
    refine hK.out _ _ F79.q1 (fun hHeld => ?_)
    clear hK K
    refine norm_ (a' := ?_) ?_ ?_
    rotate_left
    ·show Act.put _ (some 25) _ = _
     exact pP
    refine pv 14 (some 26) HT_ rfl rfl pL ?_
    refine pv 15 (some 27) HT_ rfl rfl pL ?_
    refine pv 16 (some 28) HT_ rfl rfl pL ?_
    refine pv 17 (some 29) HT_ rfl rfl pL ?_
    refine tv 18 (some 30) HT_ HW_ rfl rfl pL (fun _ _ _ h => h) (by rfl) F79.q2 hHeld pP ?_
    refine one_ (i := 19) (N := some 31) F79.b3 rfl rfl (one_of HT_.out pL) (by decide) (fun K hK => ?_)
    refine goes_ Try.func94 pL rfl #[.int .i64 ((rd_T63 l0 x7_1).f3)] (by rfl) rfl rfl pM ?_
    with_reducible refine (impl_isKind.calls ((rd_T63 l0 x7_1).f3) false _ A11.out).mono ?_
    rintro e w' ⟨rfl, ⟨nd, rfl⟩⟩
    refine ⟨_, rfl, ?_⟩
    refine hK.out _ _ F79.q1 (fun hHeld => ?_)
    clear hK K
    refine norm_ (a' := ?_) ?_ ?_
    rotate_left
    ·show Act.put _ (some 31) _ = _
     exact pP
    refine pv 20 (some 32) HT_ rfl rfl pL ?_
    refine pv 21 (some 33) HT_ rfl rfl pL ?_
    refine pv 22 (some 34) HT_ rfl rfl pL ?_
    refine uv 23 (some 35) HT_ rfl rfl pL ?_
    refine uv 24 (some 36) HT_ rfl rfl pL ?_
    refine uv 25 (some 37) HT_ rfl rfl pL ?_
    refine uv 26 (some 38) HT_ rfl rfl pL ?_
    refine pv 27 (some 39) HT_ rfl rfl pL ?_
    refine pu 28 (some 40) #[true, true, true, true, true, true, true, true, true, true, true, true, true, true, true, true, true, true, true, true, true, true, true, true, true, true, true, true, true, false, false, false, false, false, false, false, false, false, false, false, false, false, false, false, false, false, false, false, false] HT_ rfl rfl pL (fun _ _ _ h => h) (by rfl) pY pP ?_
    refine uv 29 (some 41) HT_ rfl rfl pL ?_
    refine uv 30 (some 42) HT_ rfl rfl pL ?_
    refine uv 31 (some 43) HT_ rfl rfl pL ?_
    refine uv 32 (some 44) HT_ rfl rfl pL ?_
    refine pv 33 (some 45) HT_ rfl rfl pL ?_
    refine pv 34 (some 46) HT_ rfl rfl pL ?_
    refine uv 35 (some 47) HT_ rfl rfl pL ?_
    refine uv 36 (some 48) HT_ rfl rfl pL ?_
    refine un 37 (some 49) #[true, true, true, true, true, true, true, true, true, true, true, true, true, true, true, true, true, true, true, true, true, true, true, true, true, true, true, true, true, true, true, true, true, true, true, true, true, true, false, false, false, false, false, false, false, false, false, false, false] HT_ rfl rfl pL (fun _ _ _ h => h) (by rfl) pP ?_
    refine uv 38 (some 50) HT_ rfl rfl pL ?_
    refine uv 39 (some 51) HT_ rfl rfl pL ?_
    refine uv 40 (some 52) HT_ rfl rfl pL ?_
    refine uv 41 (some 53) HT_ rfl rfl pL ?_
    refine uv 42 (some 54) HT_ rfl rfl pL ?_
    refine uv 43 (some 55) HT_ rfl rfl pL ?_
    refine uv 44 (some 56) HT_ rfl rfl pL ?_
    refine uv 45 (some 57) HT_ rfl rfl pL ?_
    refine un 46 (some 58) #[true, true, true, true, true, true, true, true, true, true, true, true, true, true, true, true, true, true, true, true, true, true, true, true, true, true, true, true, true, true, true, true, true, true, true, true, true, true, true, true, true, true, true, true, true, true, true, false, false] HT_ rfl rfl pL (fun _ _ _ h => h) (by rfl) pP ?_
    refine uv 47 (some 59) HT_ rfl rfl pL ?_
    refine pv 48 (some 60) HT_ rfl rfl pL ?_
    refine done_ (done_of HT_.out pL) ?_
    try go_wp2
    go_ret
    exact ⟨pE, pG GE387⟩
   subst c12
   have H1 : ((impl_within.f ((rd_T63 l0 x7_1).f4) 0 999).bind fun t392 => (if t392 = true then ((impl_within.f ((rd_T63 l0 x7_1).f5) 0 999).bind fun t393 => (if t393 = true then (if x7_1 > 0 then (if 0 ≤ (wrap64 (x7_1 - 1)) then (if (wrap64 (x7_1 - 1)) < (l0.length : Int) then (if ((rd_T63 l0 (wrap64 (x7_1 - 1))).f0) ≥ ((rd_T63 l0 x7_1).f0) then (some false) else (impl_FoodsValid.l0 k1 l0 l0 (l0.length : Int) (wrap64 (x7_1 + 1)))) else (none)) else (none)) else (impl_FoodsValid.l0 k1 l0 l0 (l0.length : Int) (wrap64 (x7_1 + 1)))) else (some false))) else (some false))) = some r := by rw [if_pos rfl] at H; exact H
   clear H
   have H := H1
   clear H1
   replace H := Option.bind_eq_some_iff.mp H
   obtain ⟨t392, A130, H⟩ := H
   replace H : (if t392 = true then ((impl_within.f ((rd_T63 l0 x7_1).f5) 0 999).bind fun t393 => (if t393 = true then (if x7_1 > 0 then (if 0 ≤ (wrap64 (x7_1 - 1)) then (if (wrap64 (x7_1 - 1)) < (l0.length : Int) then (if ((rd_T63 l0 (wrap64 (x7_1 - 1))).f0) ≥ ((rd_T63 l0 x7_1).f0) then (some false) else (impl_FoodsValid.l0 k1 l0 l0 (l0.length : Int) (wrap64 (x7_1 + 1)))) else (none)) else (none)) else (impl_FoodsValid.l0 k1 l0 l0 (l0.length : Int) (wrap64 (x7_1 + 1)))) else (some false))) else (some false)) = some r := H
   have A13 := Aside0.mk A130
   clear A130
   rcases (Classical.em (t392 = true)).symm with c14 | c14
   ·replace c14 := Bool.eq_false_iff.mpr c14
    subst c14
    have H1 : (some false) = some r := by rw [if_neg (show ¬ (false = true) by decide)] at H; exact H
    clear H
    have H := H1
    clear H1
    obtain rfl := Option.some.inj H
    have p386 : 0 ≤ (x7_1 : Int) := of_decide_eq_true pA
    have q386 : x7_1 < (l0.length : Int) := of_decide_eq_true pA
    obtain ⟨ad386, e386, hx386_0, hx386_1, hx386_2, hx386_3, hx386_4, hx386_5⟩ := at_T63 HR0.out x7_1 p386 q386
    cases e386
    replace hx386_0 := (HB.out.cell (World.block_lt_of_cell? w _ hx386_0)).trans hx386_0
    replace hx386_1 := (HB.out.cell (World.block_lt_of_cell? w _ hx386_1)).trans hx386_1
    replace hx386_2 := (HB.out.cell (World.block_lt_of_cell? w _ hx386_2)).trans hx386_2
    replace hx386_3 := (HB.out.cell (World.block_lt_of_cell? w _ hx386_3)).trans hx386_3
    replace hx386_4 := (HB.out.cell (World.block_lt_of_cell? w _ hx386_4)).trans hx386_4
    replace hx386_5 := (HB.out.cell (World.block_lt_of_cell? w _ hx386_5)).trans hx386_5
    replace p386 := eq_true p386
    replace q386 := eq_true q386
    try go_wp2_with (first | ((with_reducible refine gate_dst (N := 4) rfl ?_); refine box_event ?hg (N := 4) ?hd (cs := #[.int .i64 0, .int .i64 0, .int .i64 0, .int .i64 0, .int .i64 0, .int .i64 0]) (t := 63) ?hr ?_; (case hd => rfl); (case hg => rfl); (case hr => first | (go_simp; done) | (go_simp; rfl)); intro gb387 hg w38 hbox hb; have n0_ := Aside0.mk (below_step pB hb); have n1_ := Aside0.mk (hbox); have n2_ := Aside0.mk ((by rw [hg]; exact (below_size pB) : w.heap.size ≤ gb387)); have n3_ := Aside0.mk ((by rw [hg]; exact (below_size pB) : w.heap.size ≤ gb387)); clear HB; have HB := n0_; have BK387 := n1_; have GW387 := n2_; have GE387 := n3_; clear n0_ n1_ n2_ n3_; clear hb hbox hg; have hcz39_0 : w38.cell? ⟨gb387, 0, none⟩ = some (.int .i64 0) := (blk_cell BK387.out 0).trans rfl; have hcz39_1 : w38.cell? ⟨gb387, 1, none⟩ = some (.int .i64 0) := (blk_cell BK387.out 1).trans rfl; have hcz39_2 : w38.cell? ⟨gb387, 2, none⟩ = some (.int .i64 0) := (blk_cell BK387.out 2).trans rfl; have hcz39_3 : w38.cell? ⟨gb387, 3, none⟩ = some (.int .i64 0) := (blk_cell BK387.out 3).trans rfl; have hcz39_4 : w38.cell? ⟨gb387, 4, none⟩ = some (.int .i64 0) := (blk_cell BK387.out 4).trans rfl; have hcz39_5 : w38.cell? ⟨gb387, 5, none⟩ = some (.int .i64 0) := (blk_cell BK387.out 5).trans rfl; have hfz39_0 := blk_frozen BK387.out 0; have hfz39_1 := blk_frozen BK387.out 1; have hfz39_2 := blk_frozen BK387.out 2; have hfz39_3 := blk_frozen BK387.out 3; have hfz39_4 := blk_frozen BK387.out 4; have hfz39_5 := blk_frozen BK387.out 5))
    have n0_ : Aside0 (((((((w38.setCell ⟨gb387, 0, none⟩ (.int .i64 ((rd_T63 l0 x7_1).f0))).setCell ⟨gb387, 1, none⟩ (.int .i64 ((rd_T63 l0 x7_1).f1))).setCell ⟨gb387, 2, none⟩ (.int .i64 ((rd_T63 l0 x7_1).f2))).setCell ⟨gb387, 3, none⟩ (.int .i64 ((rd_T63 l0 x7_1).f3))).setCell ⟨gb387, 4, none⟩ (.int .i64 ((rd_T63 l0 x7_1).f4))).setCell ⟨gb387, 5, none⟩ (.int .i64 ((rd_T63 l0 x7_1).f5))).heap[gb387]? = some (.cells #[.int .i64 ((rd_T63 l0 x7_1).f0), .int .i64 ((rd_T63 l0 x7_1).f1), .int .i64 ((rd_T63 l0 x7_1).f2), .int .i64 ((rd_T63 l0 x7_1).f3), .int .i64 ((rd_T63 l0 x7_1).f4), .int .i64 ((rd_T63 l0 x7_1).f5)] 63 (0, 0))) := ⟨by (with_reducible repeat (first | refine blk_drewN ?_ _ | refine blk_drew ?_ | refine blk_alloc ?_ _)); refine blk_put (cs := #[.int .i64 ((rd_T63 l0 x7_1).f0), .int .i64 ((rd_T63 l0 x7_1).f1), .int .i64 ((rd_T63 l0 x7_1).f2), .int .i64 ((rd_T63 l0 x7_1).f3), .int .i64 ((rd_T63 l0 x7_1).f4), .int .i64 0]) ?_ 5 _ rfl; (with_reducible repeat (first | refine blk_drewN ?_ _ | refine blk_drew ?_ | refine blk_alloc ?_ _)); refine blk_put (cs := #[.int .i64 ((rd_T63 l0 x7_1).f0), .int .i64 ((rd_T63 l0 x7_1).f1), .int .i64 ((rd_T63 l0 x7_1).f2), .int .i64 ((rd_T63 l0 x7_1).f3), .int .i64 0, .int .i64 0]) ?_ 4 _ rfl; (with_reducible repeat (first | refine blk_drewN ?_ _ | refine blk_drew ?_ | refine blk_alloc ?_ _)); refine blk_put (cs := #[.int .i64 ((rd_T63 l0 x7_1).f0), .int .i64 ((rd_T63 l0 x7_1).f1), .int .i64 ((rd_T63 l0 x7_1).f2), .int .i64 0, .int .i64 0, .int .i64 0]) ?_ 3 _ rfl; (with_reducible repeat (first | refine blk_drewN ?_ _ | refine blk_drew ?_ | refine blk_alloc ?_ _)); refine blk_put (cs := #[.int .i64 ((rd_T63 l0 x7_1).f0), .int .i64 ((rd_T63 l0 x7_1).f1), .int .i64 0, .int .i64 0, .int .i64 0, .int .i64 0]) ?_ 2 _ rfl; (with_reducible repeat (first | refine blk_drewN ?_ _ | refine blk_drew ?_ | refine blk_alloc ?_ _)); refine blk_put (cs := #[.int .i64 ((rd_T63 l0 x7_1).f0), .int .i64 0, .int .i64 0, .int .i64 0, .int .i64 0, .int .i64 0]) ?_ 1 _ rfl; (with_reducible repeat (first | refine blk_drewN ?_ _ | refine blk_drew ?_ | refine blk_alloc ?_ _)); refine blk_put (cs := #[.int .i64 0, .int .i64 0, .int .i64 0, .int .i64 0, .int .i64 0, .int .i64 0]) ?_ 0 _ rfl; (with_reducible repeat (first | refine blk_drewN ?_ _ | refine blk_drew ?_ | refine blk_alloc ?_ _)); exact BK387.out⟩
    have n1_ : Aside0 (Below w.heap.size w ((((((w38.setCell ⟨gb387, 0, none⟩ (.int .i64 ((rd_T63 l0 x7_1).f0))).setCell ⟨gb387, 1, none⟩ (.int .i64 ((rd_T63 l0 x7_1).f1))).setCell ⟨gb387, 2, none⟩ (.int .i64 ((rd_T63 l0 x7_1).f2))).setCell ⟨gb387, 3, none⟩ (.int .i64 ((rd_T63 l0 x7_1).f3))).setCell ⟨gb387, 4, none⟩ (.int .i64 ((rd_T63 l0 x7_1).f4))).setCell ⟨gb387, 5, none⟩ (.int .i64 ((rd_T63 l0 x7_1).f5)))) := ⟨pG GE387⟩
    (try clear BK387)
    (try clear HB)
    generalize ((((((w38.setCell ⟨gb387, 0, none⟩ (.int .i64 ((rd_T63 l0 x7_1).f0))).setCell ⟨gb387, 1, none⟩ (.int .i64 ((rd_T63 l0 x7_1).f1))).setCell ⟨gb387, 2, none⟩ (.int .i64 ((rd_T63 l0 x7_1).f2))).setCell ⟨gb387, 3, none⟩ (.int .i64 ((rd_T63 l0 x7_1).f3))).setCell ⟨gb387, 4, none⟩ (.int .i64 ((rd_T63 l0 x7_1).f4))).setCell ⟨gb387, 5, none⟩ (.int .i64 ((rd_T63 l0 x7_1).f5))) = w40 at n0_ n1_ ⊢
    have BK387 := n0_
    have HB := n1_
    clear n0_ n1_
    have n0_ := Aside0.mk (blk_drew BK387.out)
    have n1_ := Aside0.mk (below_drew1 HB.out)
    clear BK387
    clear HB
    have BK387 := n0_
    have HB := n1_
    clear n0_ n1_
    refine start_ (n := 49) (S := fun w' => w'.cell? ⟨gb387, 0, none⟩ = some (.int .i64 ((rd_T63 l0 x7_1).f0)) ∧ w'.cell? ⟨gb387, 1, none⟩ = some (.int .i64 ((rd_T63 l0 x7_1).f1)) ∧ w'.cell? ⟨gb387, 2, none⟩ = some (.int .i64 ((rd_T63 l0 x7_1).f2)) ∧ w'.cell? ⟨gb387, 3, none⟩ = some (.int .i64 ((rd_T63 l0 x7_1).f3)) ∧ w'.cell? ⟨gb387, 4, none⟩ = some (.int .i64 ((rd_T63 l0 x7_1).f4)) ∧ w'.cell? ⟨gb387, 5, none⟩ = some (.int .i64 ((rd_T63 l0 x7_1).f5))) (ds := []) #[false, false, false, false, false, false, false, false, false, false, false, false, false, false, false, false, false, false, false, false, false, false, false, false, false, false, false, false, false, false, false, false, false, false, false, false, false, false, false, false, false, false, false, false, false, false, false, false, false] pL rfl rfl ⟨(blk_cell BK387.out 0).trans rfl, (blk_cell BK387.out 1).trans rfl, (blk_cell BK387.out 2).trans rfl, (blk_cell BK387.out 3).trans rfl, (blk_cell BK387.out 4).trans rfl, (blk_cell BK387.out 5).trans rfl⟩ (fun hHeld => ?_); refine with_tabW impl_FoodsValid.tab4 impl_FoodsValid.bits4 (fun HT_ HW_ => ?_)
    generalize w40.drew = w41 at BK387 HB hHeld ⊢
    refine pv 0 (some 12) HT_ rfl rfl pL ?_
    refine tv 1 (some 13) HT_ HW_ rfl rfl pL (fun _ _ _ h => h) (by rfl) F79.q2 hHeld pP ?_
    refine one_ (i := 2) (N := some 14) F79.b0 rfl rfl (one_of HT_.out pL) (by decide) (fun K hK => ?_)
    refine goes_ Try.func80 pL rfl #[.int .i64 ((rd_T63 l0 x7_1).f0)] (by rfl) rfl rfl pM ?_
    with_reducible refine (impl_isId.calls ((rd_T63 l0 x7_1).f0) true _ A5.out).mono ?_
    rintro e w' ⟨rfl, ⟨nd, rfl⟩⟩
    refine ⟨_, rfl, ?_⟩
    refine hK.out _ _ F79.q1 (fun hHeld => ?_)
    clear hK K
    refine norm_ (a' := ?_) ?_ ?_
    rotate_left
    ·show Act.put _ (some 14) _ = _
     exact pP
    refine pv 3 (some 15) HT_ rfl rfl pL ?_
    refine pv 4 (some 16) HT_ rfl rfl pL ?_
    refine pv 5 (some 17) HT_ rfl rfl pL ?_
    refine tv 6 (some 18) HT_ HW_ rfl rfl pL (fun _ _ _ h => h) (by rfl) F79.q2 hHeld pP ?_
    refine one_ (i := 7) (N := some 19) F79.b1 rfl rfl (one_of HT_.out pL) (by decide) (fun K hK => ?_)
    refine goes_ Try.func76 pL rfl #[.int .i64 ((rd_T63 l0 x7_1).f1), .int .i64 1, .int .i64 3] (by rfl) rfl rfl pM ?_
    with_reducible refine (impl_within.calls ((rd_T63 l0 x7_1).f1) 1 3 true _ A7.out).mono ?_
    rintro e w' ⟨rfl, ⟨nd, rfl⟩⟩
    refine ⟨_, rfl, ?_⟩
    refine hK.out _ _ F79.q1 (fun hHeld => ?_)
    clear hK K
    refine norm_ (a' := ?_) ?_ ?_
    rotate_left
    ·show Act.put _ (some 19) _ = _
     exact pP
    refine pv 8 (some 20) HT_ rfl rfl pL ?_
    refine pv 9 (some 21) HT_ rfl rfl pL ?_
    refine pv 10 (some 22) HT_ rfl rfl pL ?_
    refine pv 11 (some 23) HT_ rfl rfl pL ?_
    refine tv 12 (some 24) HT_ HW_ rfl rfl pL (fun _ _ _ h => h) (by rfl) F79.q2 hHeld pP ?_
    refine one_ (i := 13) (N := some 25) F79.b2 rfl rfl (one_of HT_.out pL) (by decide) (fun K hK => ?_)
    refine goes_ Try.func86 pL rfl #[.int .i64 ((rd_T63 l0 x7_1).f2)] (by rfl) rfl rfl pM ?_
    with_reducible refine (impl_isSet.calls ((rd_T63 l0 x7_1).f2) true _ A9.out).mono ?_
    rintro e w' ⟨rfl, ⟨nd, rfl⟩⟩
    refine ⟨_, rfl, ?_⟩
    refine hK.out _ _ F79.q1 (fun hHeld => ?_)
    clear hK K
    refine norm_ (a' := ?_) ?_ ?_
    rotate_left
    ·show Act.put _ (some 25) _ = _
     exact pP
    refine pv 14 (some 26) HT_ rfl rfl pL ?_
    refine pv 15 (some 27) HT_ rfl rfl pL ?_
    refine pv 16 (some 28) HT_ rfl rfl pL ?_
    refine pv 17 (some 29) HT_ rfl rfl pL ?_
    refine tv 18 (some 30) HT_ HW_ rfl rfl pL (fun _ _ _ h => h) (by rfl) F79.q2 hHeld pP ?_
    refine one_ (i := 19) (N := some 31) F79.b3 rfl rfl (one_of HT_.out pL) (by decide) (fun K hK => ?_)
    refine goes_ Try.func94 pL rfl #[.int .i64 ((rd_T63 l0 x7_1).f3)] (by rfl) rfl rfl pM ?_
    with_reducible refine (impl_isKind.calls ((rd_T63 l0 x7_1).f3) true _ A11.out).mono ?_
    rintro e w' ⟨rfl, ⟨nd, rfl⟩⟩
    refine ⟨_, rfl, ?_⟩
    refine hK.out _ _ F79.q1 (fun hHeld => ?_)
    clear hK K
    refine norm_ (a' := ?_) ?_ ?_
    rotate_left
    ·show Act.put _ (some 31) _ = _
     exact pP
    refine pv 20 (some 32) HT_ rfl rfl pL ?_
    refine pv 21 (some 33) HT_ rfl rfl pL ?_
    refine pv 22 (some 34) HT_ rfl rfl pL ?_
    refine pv 23 (some 35) HT_ rfl rfl pL ?_
    refine tv 24 (some 36) HT_ HW_ rfl rfl pL (fun _ _ _ h => h) (by rfl) F79.q2 hHeld pP ?_
    refine one_ (i := 25) (N := some 37) F79.b4 rfl rfl (one_of HT_.out pL) (by decide) (fun K hK => ?_)
    refine goes_ Try.func76 pL rfl #[.int .i64 ((rd_T63 l0 x7_1).f4), .int .i64 0, .int .i64 999] (by rfl) rfl rfl pM ?_
    with_reducible refine (impl_within.calls ((rd_T63 l0 x7_1).f4) 0 999 false _ A13.out).mono ?_
    rintro e w' ⟨rfl, ⟨nd, rfl⟩⟩
    refine ⟨_, rfl, ?_⟩
    refine hK.out _ _ F79.q1 (fun hHeld => ?_)
    clear hK K
    refine norm_ (a' := ?_) ?_ ?_
    rotate_left
    ·show Act.put _ (some 37) _ = _
     exact pP
    refine pv 26 (some 38) HT_ rfl rfl pL ?_
    refine pv 27 (some 39) HT_ rfl rfl pL ?_
    refine pv 28 (some 40) HT_ rfl rfl pL ?_
    refine uv 29 (some 41) HT_ rfl rfl pL ?_
    refine uv 30 (some 42) HT_ rfl rfl pL ?_
    refine uv 31 (some 43) HT_ rfl rfl pL ?_
    refine uv 32 (some 44) HT_ rfl rfl pL ?_
    refine pv 33 (some 45) HT_ rfl rfl pL ?_
    refine pu 34 (some 46) F79.b7 HT_ rfl rfl pL (fun _ _ _ h => h) (by rfl) pY pP ?_
    refine uv 35 (some 47) HT_ rfl rfl pL ?_
    refine uv 36 (some 48) HT_ rfl rfl pL ?_
    refine uv 37 (some 49) HT_ rfl rfl pL ?_
    refine uv 38 (some 50) HT_ rfl rfl pL ?_
    refine uv 39 (some 51) HT_ rfl rfl pL ?_
    refine uv 40 (some 52) HT_ rfl rfl pL ?_
    refine uv 41 (some 53) HT_ rfl rfl pL ?_
    refine uv 42 (some 54) HT_ rfl rfl pL ?_
    refine un 43 (some 55) F79.b8 HT_ rfl rfl pL (fun _ _ _ h => h) (by rfl) pP ?_
    refine uv 44 (some 56) HT_ rfl rfl pL ?_
    refine uv 45 (some 57) HT_ rfl rfl pL ?_
    refine uv 46 (some 58) HT_ rfl rfl pL ?_
    refine uv 47 (some 59) HT_ rfl rfl pL ?_
    refine pv 48 (some 60) HT_ rfl rfl pL ?_
    refine done_ (done_of HT_.out pL) ?_
    try go_wp2
    go_ret
    exact ⟨pE, pG GE387⟩
   subst c14
   have H1 : ((impl_within.f ((rd_T63 l0 x7_1).f5) 0 999).bind fun t393 => (if t393 = true then (if x7_1 > 0 then (if 0 ≤ (wrap64 (x7_1 - 1)) then (if (wrap64 (x7_1 - 1)) < (l0.length : Int) then (if ((rd_T63 l0 (wrap64 (x7_1 - 1))).f0) ≥ ((rd_T63 l0 x7_1).f0) then (some false) else (impl_FoodsValid.l0 k1 l0 l0 (l0.length : Int) (wrap64 (x7_1 + 1)))) else (none)) else (none)) else (impl_FoodsValid.l0 k1 l0 l0 (l0.length : Int) (wrap64 (x7_1 + 1)))) else (some false))) = some r := by rw [if_pos rfl] at H; exact H
   clear H
   have H := H1
   clear H1
   replace H := Option.bind_eq_some_iff.mp H
   obtain ⟨t393, A150, H⟩ := H
   replace H : (if t393 = true then (if x7_1 > 0 then (if 0 ≤ (wrap64 (x7_1 - 1)) then (if (wrap64 (x7_1 - 1)) < (l0.length : Int) then (if ((rd_T63 l0 (wrap64 (x7_1 - 1))).f0) ≥ ((rd_T63 l0 x7_1).f0) then (some false) else (impl_FoodsValid.l0 k1 l0 l0 (l0.length : Int) (wrap64 (x7_1 + 1)))) else (none)) else (none)) else (impl_FoodsValid.l0 k1 l0 l0 (l0.length : Int) (wrap64 (x7_1 + 1)))) else (some false)) = some r := H
   have A15 := Aside0.mk A150
   clear A150
   rcases (Classical.em (t393 = true)).symm with c16 | c16
   ·replace c16 := Bool.eq_false_iff.mpr c16
    subst c16
    have H1 : (some false) = some r := by rw [if_neg (show ¬ (false = true) by decide)] at H; exact H
    clear H
    have H := H1
    clear H1
    obtain rfl := Option.some.inj H
    have p386 : 0 ≤ (x7_1 : Int) := of_decide_eq_true pA
    have q386 : x7_1 < (l0.length : Int) := of_decide_eq_true pA
    obtain ⟨ad386, e386, hx386_0, hx386_1, hx386_2, hx386_3, hx386_4, hx386_5⟩ := at_T63 HR0.out x7_1 p386 q386
    cases e386
    replace hx386_0 := (HB.out.cell (World.block_lt_of_cell? w _ hx386_0)).trans hx386_0
    replace hx386_1 := (HB.out.cell (World.block_lt_of_cell? w _ hx386_1)).trans hx386_1
    replace hx386_2 := (HB.out.cell (World.block_lt_of_cell? w _ hx386_2)).trans hx386_2
    replace hx386_3 := (HB.out.cell (World.block_lt_of_cell? w _ hx386_3)).trans hx386_3
    replace hx386_4 := (HB.out.cell (World.block_lt_of_cell? w _ hx386_4)).trans hx386_4
    replace hx386_5 := (HB.out.cell (World.block_lt_of_cell? w _ hx386_5)).trans hx386_5
    replace p386 := eq_true p386
    replace q386 := eq_true q386
    try go_wp2_with (first | ((with_reducible refine gate_dst (N := 4) rfl ?_); refine box_event ?hg (N := 4) ?hd (cs := #[.int .i64 0, .int .i64 0, .int .i64 0, .int .i64 0, .int .i64 0, .int .i64 0]) (t := 63) ?hr ?_; (case hd => rfl); (case hg => rfl); (case hr => first | (go_simp; done) | (go_simp; rfl)); intro gb387 hg w34 hbox hb; have n0_ := Aside0.mk (below_step pB hb); have n1_ := Aside0.mk (hbox); have n2_ := Aside0.mk ((by rw [hg]; exact (below_size pB) : w.heap.size ≤ gb387)); have n3_ := Aside0.mk ((by rw [hg]; exact (below_size pB) : w.heap.size ≤ gb387)); clear HB; have HB := n0_; have BK387 := n1_; have GW387 := n2_; have GE387 := n3_; clear n0_ n1_ n2_ n3_; clear hb hbox hg; have hcz35_0 : w34.cell? ⟨gb387, 0, none⟩ = some (.int .i64 0) := (blk_cell BK387.out 0).trans rfl; have hcz35_1 : w34.cell? ⟨gb387, 1, none⟩ = some (.int .i64 0) := (blk_cell BK387.out 1).trans rfl; have hcz35_2 : w34.cell? ⟨gb387, 2, none⟩ = some (.int .i64 0) := (blk_cell BK387.out 2).trans rfl; have hcz35_3 : w34.cell? ⟨gb387, 3, none⟩ = some (.int .i64 0) := (blk_cell BK387.out 3).trans rfl; have hcz35_4 : w34.cell? ⟨gb387, 4, none⟩ = some (.int .i64 0) := (blk_cell BK387.out 4).trans rfl; have hcz35_5 : w34.cell? ⟨gb387, 5, none⟩ = some (.int .i64 0) := (blk_cell BK387.out 5).trans rfl; have hfz35_0 := blk_frozen BK387.out 0; have hfz35_1 := blk_frozen BK387.out 1; have hfz35_2 := blk_frozen BK387.out 2; have hfz35_3 := blk_frozen BK387.out 3; have hfz35_4 := blk_frozen BK387.out 4; have hfz35_5 := blk_frozen BK387.out 5))
    have n0_ : Aside0 (((((((w34.setCell ⟨gb387, 0, none⟩ (.int .i64 ((rd_T63 l0 x7_1).f0))).setCell ⟨gb387, 1, none⟩ (.int .i64 ((rd_T63 l0 x7_1).f1))).setCell ⟨gb387, 2, none⟩ (.int .i64 ((rd_T63 l0 x7_1).f2))).setCell ⟨gb387, 3, none⟩ (.int .i64 ((rd_T63 l0 x7_1).f3))).setCell ⟨gb387, 4, none⟩ (.int .i64 ((rd_T63 l0 x7_1).f4))).setCell ⟨gb387, 5, none⟩ (.int .i64 ((rd_T63 l0 x7_1).f5))).heap[gb387]? = some (.cells #[.int .i64 ((rd_T63 l0 x7_1).f0), .int .i64 ((rd_T63 l0 x7_1).f1), .int .i64 ((rd_T63 l0 x7_1).f2), .int .i64 ((rd_T63 l0 x7_1).f3), .int .i64 ((rd_T63 l0 x7_1).f4), .int .i64 ((rd_T63 l0 x7_1).f5)] 63 (0, 0))) := ⟨by (with_reducible repeat (first | refine blk_drewN ?_ _ | refine blk_drew ?_ | refine blk_alloc ?_ _)); refine blk_put (cs := #[.int .i64 ((rd_T63 l0 x7_1).f0), .int .i64 ((rd_T63 l0 x7_1).f1), .int .i64 ((rd_T63 l0 x7_1).f2), .int .i64 ((rd_T63 l0 x7_1).f3), .int .i64 ((rd_T63 l0 x7_1).f4), .int .i64 0]) ?_ 5 _ rfl; (with_reducible repeat (first | refine blk_drewN ?_ _ | refine blk_drew ?_ | refine blk_alloc ?_ _)); refine blk_put (cs := #[.int .i64 ((rd_T63 l0 x7_1).f0), .int .i64 ((rd_T63 l0 x7_1).f1), .int .i64 ((rd_T63 l0 x7_1).f2), .int .i64 ((rd_T63 l0 x7_1).f3), .int .i64 0, .int .i64 0]) ?_ 4 _ rfl; (with_reducible repeat (first | refine blk_drewN ?_ _ | refine blk_drew ?_ | refine blk_alloc ?_ _)); refine blk_put (cs := #[.int .i64 ((rd_T63 l0 x7_1).f0), .int .i64 ((rd_T63 l0 x7_1).f1), .int .i64 ((rd_T63 l0 x7_1).f2), .int .i64 0, .int .i64 0, .int .i64 0]) ?_ 3 _ rfl; (with_reducible repeat (first | refine blk_drewN ?_ _ | refine blk_drew ?_ | refine blk_alloc ?_ _)); refine blk_put (cs := #[.int .i64 ((rd_T63 l0 x7_1).f0), .int .i64 ((rd_T63 l0 x7_1).f1), .int .i64 0, .int .i64 0, .int .i64 0, .int .i64 0]) ?_ 2 _ rfl; (with_reducible repeat (first | refine blk_drewN ?_ _ | refine blk_drew ?_ | refine blk_alloc ?_ _)); refine blk_put (cs := #[.int .i64 ((rd_T63 l0 x7_1).f0), .int .i64 0, .int .i64 0, .int .i64 0, .int .i64 0, .int .i64 0]) ?_ 1 _ rfl; (with_reducible repeat (first | refine blk_drewN ?_ _ | refine blk_drew ?_ | refine blk_alloc ?_ _)); refine blk_put (cs := #[.int .i64 0, .int .i64 0, .int .i64 0, .int .i64 0, .int .i64 0, .int .i64 0]) ?_ 0 _ rfl; (with_reducible repeat (first | refine blk_drewN ?_ _ | refine blk_drew ?_ | refine blk_alloc ?_ _)); exact BK387.out⟩
    have n1_ : Aside0 (Below w.heap.size w ((((((w34.setCell ⟨gb387, 0, none⟩ (.int .i64 ((rd_T63 l0 x7_1).f0))).setCell ⟨gb387, 1, none⟩ (.int .i64 ((rd_T63 l0 x7_1).f1))).setCell ⟨gb387, 2, none⟩ (.int .i64 ((rd_T63 l0 x7_1).f2))).setCell ⟨gb387, 3, none⟩ (.int .i64 ((rd_T63 l0 x7_1).f3))).setCell ⟨gb387, 4, none⟩ (.int .i64 ((rd_T63 l0 x7_1).f4))).setCell ⟨gb387, 5, none⟩ (.int .i64 ((rd_T63 l0 x7_1).f5)))) := ⟨pG GE387⟩
    (try clear BK387)
    (try clear HB)
    generalize ((((((w34.setCell ⟨gb387, 0, none⟩ (.int .i64 ((rd_T63 l0 x7_1).f0))).setCell ⟨gb387, 1, none⟩ (.int .i64 ((rd_T63 l0 x7_1).f1))).setCell ⟨gb387, 2, none⟩ (.int .i64 ((rd_T63 l0 x7_1).f2))).setCell ⟨gb387, 3, none⟩ (.int .i64 ((rd_T63 l0 x7_1).f3))).setCell ⟨gb387, 4, none⟩ (.int .i64 ((rd_T63 l0 x7_1).f4))).setCell ⟨gb387, 5, none⟩ (.int .i64 ((rd_T63 l0 x7_1).f5))) = w36 at n0_ n1_ ⊢
    have BK387 := n0_
    have HB := n1_
    clear n0_ n1_
    have n0_ := Aside0.mk (blk_drew BK387.out)
    have n1_ := Aside0.mk (below_drew1 HB.out)
    clear BK387
    clear HB
    have BK387 := n0_
    have HB := n1_
    clear n0_ n1_
    refine start_ (n := 49) (S := fun w' => w'.cell? ⟨gb387, 0, none⟩ = some (.int .i64 ((rd_T63 l0 x7_1).f0)) ∧ w'.cell? ⟨gb387, 1, none⟩ = some (.int .i64 ((rd_T63 l0 x7_1).f1)) ∧ w'.cell? ⟨gb387, 2, none⟩ = some (.int .i64 ((rd_T63 l0 x7_1).f2)) ∧ w'.cell? ⟨gb387, 3, none⟩ = some (.int .i64 ((rd_T63 l0 x7_1).f3)) ∧ w'.cell? ⟨gb387, 4, none⟩ = some (.int .i64 ((rd_T63 l0 x7_1).f4)) ∧ w'.cell? ⟨gb387, 5, none⟩ = some (.int .i64 ((rd_T63 l0 x7_1).f5))) (ds := []) #[false, false, false, false, false, false, false, false, false, false, false, false, false, false, false, false, false, false, false, false, false, false, false, false, false, false, false, false, false, false, false, false, false, false, false, false, false, false, false, false, false, false, false, false, false, false, false, false, false] pL rfl rfl ⟨(blk_cell BK387.out 0).trans rfl, (blk_cell BK387.out 1).trans rfl, (blk_cell BK387.out 2).trans rfl, (blk_cell BK387.out 3).trans rfl, (blk_cell BK387.out 4).trans rfl, (blk_cell BK387.out 5).trans rfl⟩ (fun hHeld => ?_); refine with_tabW impl_FoodsValid.tab4 impl_FoodsValid.bits4 (fun HT_ HW_ => ?_)
    generalize w36.drew = w37 at BK387 HB hHeld ⊢
    refine pv 0 (some 12) HT_ rfl rfl pL ?_
    refine tv 1 (some 13) HT_ HW_ rfl rfl pL (fun _ _ _ h => h) (by rfl) F79.q2 hHeld pP ?_
    refine one_ (i := 2) (N := some 14) F79.b0 rfl rfl (one_of HT_.out pL) (by decide) (fun K hK => ?_)
    refine goes_ Try.func80 pL rfl #[.int .i64 ((rd_T63 l0 x7_1).f0)] (by rfl) rfl rfl pM ?_
    with_reducible refine (impl_isId.calls ((rd_T63 l0 x7_1).f0) true _ A5.out).mono ?_
    rintro e w' ⟨rfl, ⟨nd, rfl⟩⟩
    refine ⟨_, rfl, ?_⟩
    refine hK.out _ _ F79.q1 (fun hHeld => ?_)
    clear hK K
    refine norm_ (a' := ?_) ?_ ?_
    rotate_left
    ·show Act.put _ (some 14) _ = _
     exact pP
    refine pv 3 (some 15) HT_ rfl rfl pL ?_
    refine pv 4 (some 16) HT_ rfl rfl pL ?_
    refine pv 5 (some 17) HT_ rfl rfl pL ?_
    refine tv 6 (some 18) HT_ HW_ rfl rfl pL (fun _ _ _ h => h) (by rfl) F79.q2 hHeld pP ?_
    refine one_ (i := 7) (N := some 19) F79.b1 rfl rfl (one_of HT_.out pL) (by decide) (fun K hK => ?_)
    refine goes_ Try.func76 pL rfl #[.int .i64 ((rd_T63 l0 x7_1).f1), .int .i64 1, .int .i64 3] (by rfl) rfl rfl pM ?_
    with_reducible refine (impl_within.calls ((rd_T63 l0 x7_1).f1) 1 3 true _ A7.out).mono ?_
    rintro e w' ⟨rfl, ⟨nd, rfl⟩⟩
    refine ⟨_, rfl, ?_⟩
    refine hK.out _ _ F79.q1 (fun hHeld => ?_)
    clear hK K
    refine norm_ (a' := ?_) ?_ ?_
    rotate_left
    ·show Act.put _ (some 19) _ = _
     exact pP
    refine pv 8 (some 20) HT_ rfl rfl pL ?_
    refine pv 9 (some 21) HT_ rfl rfl pL ?_
    refine pv 10 (some 22) HT_ rfl rfl pL ?_
    refine pv 11 (some 23) HT_ rfl rfl pL ?_
    refine tv 12 (some 24) HT_ HW_ rfl rfl pL (fun _ _ _ h => h) (by rfl) F79.q2 hHeld pP ?_
    refine one_ (i := 13) (N := some 25) F79.b2 rfl rfl (one_of HT_.out pL) (by decide) (fun K hK => ?_)
    refine goes_ Try.func86 pL rfl #[.int .i64 ((rd_T63 l0 x7_1).f2)] (by rfl) rfl rfl pM ?_
    with_reducible refine (impl_isSet.calls ((rd_T63 l0 x7_1).f2) true _ A9.out).mono ?_
    rintro e w' ⟨rfl, ⟨nd, rfl⟩⟩
    refine ⟨_, rfl, ?_⟩
    refine hK.out _ _ F79.q1 (fun hHeld => ?_)
    clear hK K
    refine norm_ (a' := ?_) ?_ ?_
    rotate_left
    ·show Act.put _ (some 25) _ = _
     exact pP
    refine pv 14 (some 26) HT_ rfl rfl pL ?_
    refine pv 15 (some 27) HT_ rfl rfl pL ?_
    refine pv 16 (some 28) HT_ rfl rfl pL ?_
    refine pv 17 (some 29) HT_ rfl rfl pL ?_
    refine tv 18 (some 30) HT_ HW_ rfl rfl pL (fun _ _ _ h => h) (by rfl) F79.q2 hHeld pP ?_
    refine one_ (i := 19) (N := some 31) F79.b3 rfl rfl (one_of HT_.out pL) (by decide) (fun K hK => ?_)
    refine goes_ Try.func94 pL rfl #[.int .i64 ((rd_T63 l0 x7_1).f3)] (by rfl) rfl rfl pM ?_
    with_reducible refine (impl_isKind.calls ((rd_T63 l0 x7_1).f3) true _ A11.out).mono ?_
    rintro e w' ⟨rfl, ⟨nd, rfl⟩⟩
    refine ⟨_, rfl, ?_⟩
    refine hK.out _ _ F79.q1 (fun hHeld => ?_)
    clear hK K
    refine norm_ (a' := ?_) ?_ ?_
    rotate_left
    ·show Act.put _ (some 31) _ = _
     exact pP
    refine pv 20 (some 32) HT_ rfl rfl pL ?_
    refine pv 21 (some 33) HT_ rfl rfl pL ?_
    refine pv 22 (some 34) HT_ rfl rfl pL ?_
    refine pv 23 (some 35) HT_ rfl rfl pL ?_
    refine tv 24 (some 36) HT_ HW_ rfl rfl pL (fun _ _ _ h => h) (by rfl) F79.q2 hHeld pP ?_
    refine one_ (i := 25) (N := some 37) F79.b4 rfl rfl (one_of HT_.out pL) (by decide) (fun K hK => ?_)
    refine goes_ Try.func76 pL rfl #[.int .i64 ((rd_T63 l0 x7_1).f4), .int .i64 0, .int .i64 999] (by rfl) rfl rfl pM ?_
    with_reducible refine (impl_within.calls ((rd_T63 l0 x7_1).f4) 0 999 true _ A13.out).mono ?_
    rintro e w' ⟨rfl, ⟨nd, rfl⟩⟩
    refine ⟨_, rfl, ?_⟩
    refine hK.out _ _ F79.q1 (fun hHeld => ?_)
    clear hK K
    refine norm_ (a' := ?_) ?_ ?_
    rotate_left
    ·show Act.put _ (some 37) _ = _
     exact pP
    refine pv 26 (some 38) HT_ rfl rfl pL ?_
    refine pv 27 (some 39) HT_ rfl rfl pL ?_
    refine pv 28 (some 40) HT_ rfl rfl pL ?_
    refine pv 29 (some 41) HT_ rfl rfl pL ?_
    refine tv 30 (some 42) HT_ HW_ rfl rfl pL (fun _ _ _ h => h) (by rfl) F79.q2 hHeld pP ?_
    refine one_ (i := 31) (N := some 43) F79.b5 rfl rfl (one_of HT_.out pL) (by decide) (fun K hK => ?_)
    refine goes_ Try.func76 pL rfl #[.int .i64 ((rd_T63 l0 x7_1).f5), .int .i64 0, .int .i64 999] (by rfl) rfl rfl pM ?_
    with_reducible refine (impl_within.calls ((rd_T63 l0 x7_1).f5) 0 999 false _ A15.out).mono ?_
    rintro e w' ⟨rfl, ⟨nd, rfl⟩⟩
    refine ⟨_, rfl, ?_⟩
    refine hK.out _ _ F79.q1 (fun hHeld => ?_)
    clear hK K
    refine norm_ (a' := ?_) ?_ ?_
    rotate_left
    ·show Act.put _ (some 43) _ = _
     exact pP
    refine pv 32 (some 44) HT_ rfl rfl pL ?_
    refine pv 33 (some 45) HT_ rfl rfl pL ?_
    refine pv 34 (some 46) HT_ rfl rfl pL ?_
    refine uv 35 (some 47) HT_ rfl rfl pL ?_
    refine uv 36 (some 48) HT_ rfl rfl pL ?_
    refine uv 37 (some 49) HT_ rfl rfl pL ?_
    refine uv 38 (some 50) HT_ rfl rfl pL ?_
    refine uv 39 (some 51) HT_ rfl rfl pL ?_
    refine un 40 (some 52) F79.b6 HT_ rfl rfl pL (fun _ _ _ h => h) (by rfl) pP ?_
    refine uv 41 (some 53) HT_ rfl rfl pL ?_
    refine uv 42 (some 54) HT_ rfl rfl pL ?_
    refine uv 43 (some 55) HT_ rfl rfl pL ?_
    refine uv 44 (some 56) HT_ rfl rfl pL ?_
    refine uv 45 (some 57) HT_ rfl rfl pL ?_
    refine uv 46 (some 58) HT_ rfl rfl pL ?_
    refine uv 47 (some 59) HT_ rfl rfl pL ?_
    refine pv 48 (some 60) HT_ rfl rfl pL ?_
    refine done_ (done_of HT_.out pL) ?_
    try go_wp2
    go_ret
    exact ⟨pE, pG GE387⟩
   subst c16
   have H1 : (if x7_1 > 0 then (if 0 ≤ (wrap64 (x7_1 - 1)) then (if (wrap64 (x7_1 - 1)) < (l0.length : Int) then (if ((rd_T63 l0 (wrap64 (x7_1 - 1))).f0) ≥ ((rd_T63 l0 x7_1).f0) then (some false) else (impl_FoodsValid.l0 k1 l0 l0 (l0.length : Int) (wrap64 (x7_1 + 1)))) else (none)) else (none)) else (impl_FoodsValid.l0 k1 l0 l0 (l0.length : Int) (wrap64 (x7_1 + 1)))) = some r := by rw [if_pos rfl] at H; exact H
   clear H
   have H := H1
   clear H1
   rcases (Classical.em (x7_1 > 0)).symm with c17 | c17
   ·rw [if_neg c17] at H
    have c17b0 : decide (0 < x7_1) = false := decide_eq_false c17
    clear c17
    have H' := Aside0.mk H
    clear H
    have p386 : 0 ≤ (x7_1 : Int) := of_decide_eq_true pA
    have q386 : x7_1 < (l0.length : Int) := of_decide_eq_true pA
    obtain ⟨ad386, e386, hx386_0, hx386_1, hx386_2, hx386_3, hx386_4, hx386_5⟩ := at_T63 HR0.out x7_1 p386 q386
    cases e386
    replace hx386_0 := (HB.out.cell (World.block_lt_of_cell? w _ hx386_0)).trans hx386_0
    replace hx386_1 := (HB.out.cell (World.block_lt_of_cell? w _ hx386_1)).trans hx386_1
    replace hx386_2 := (HB.out.cell (World.block_lt_of_cell? w _ hx386_2)).trans hx386_2
    replace hx386_3 := (HB.out.cell (World.block_lt_of_cell? w _ hx386_3)).trans hx386_3
    replace hx386_4 := (HB.out.cell (World.block_lt_of_cell? w _ hx386_4)).trans hx386_4
    replace hx386_5 := (HB.out.cell (World.block_lt_of_cell? w _ hx386_5)).trans hx386_5
    replace p386 := eq_true p386
    replace q386 := eq_true q386
    try go_wp2_with (first | ((with_reducible refine gate_dst (N := 4) rfl ?_); refine box_event ?hg (N := 4) ?hd (cs := #[.int .i64 0, .int .i64 0, .int .i64 0, .int .i64 0, .int .i64 0, .int .i64 0]) (t := 63) ?hr ?_; (case hd => rfl); (case hg => rfl); (case hr => first | (go_simp; done) | (go_simp; rfl)); intro gb387 hg w30 hbox hb; have n0_ := Aside0.mk (below_step pB hb); have n1_ := Aside0.mk (hbox); have n2_ := Aside0.mk ((by rw [hg]; exact (below_size pB) : w.heap.size ≤ gb387)); have n3_ := Aside0.mk ((by rw [hg]; exact (below_size pB) : w.heap.size ≤ gb387)); clear HB; have HB := n0_; have BK387 := n1_; have GW387 := n2_; have GE387 := n3_; clear n0_ n1_ n2_ n3_; clear hb hbox hg; have hcz31_0 : w30.cell? ⟨gb387, 0, none⟩ = some (.int .i64 0) := (blk_cell BK387.out 0).trans rfl; have hcz31_1 : w30.cell? ⟨gb387, 1, none⟩ = some (.int .i64 0) := (blk_cell BK387.out 1).trans rfl; have hcz31_2 : w30.cell? ⟨gb387, 2, none⟩ = some (.int .i64 0) := (blk_cell BK387.out 2).trans rfl; have hcz31_3 : w30.cell? ⟨gb387, 3, none⟩ = some (.int .i64 0) := (blk_cell BK387.out 3).trans rfl; have hcz31_4 : w30.cell? ⟨gb387, 4, none⟩ = some (.int .i64 0) := (blk_cell BK387.out 4).trans rfl; have hcz31_5 : w30.cell? ⟨gb387, 5, none⟩ = some (.int .i64 0) := (blk_cell BK387.out 5).trans rfl; have hfz31_0 := blk_frozen BK387.out 0; have hfz31_1 := blk_frozen BK387.out 1; have hfz31_2 := blk_frozen BK387.out 2; have hfz31_3 := blk_frozen BK387.out 3; have hfz31_4 := blk_frozen BK387.out 4; have hfz31_5 := blk_frozen BK387.out 5))
    have n0_ : Aside0 (((((((w30.setCell ⟨gb387, 0, none⟩ (.int .i64 ((rd_T63 l0 x7_1).f0))).setCell ⟨gb387, 1, none⟩ (.int .i64 ((rd_T63 l0 x7_1).f1))).setCell ⟨gb387, 2, none⟩ (.int .i64 ((rd_T63 l0 x7_1).f2))).setCell ⟨gb387, 3, none⟩ (.int .i64 ((rd_T63 l0 x7_1).f3))).setCell ⟨gb387, 4, none⟩ (.int .i64 ((rd_T63 l0 x7_1).f4))).setCell ⟨gb387, 5, none⟩ (.int .i64 ((rd_T63 l0 x7_1).f5))).heap[gb387]? = some (.cells #[.int .i64 ((rd_T63 l0 x7_1).f0), .int .i64 ((rd_T63 l0 x7_1).f1), .int .i64 ((rd_T63 l0 x7_1).f2), .int .i64 ((rd_T63 l0 x7_1).f3), .int .i64 ((rd_T63 l0 x7_1).f4), .int .i64 ((rd_T63 l0 x7_1).f5)] 63 (0, 0))) := ⟨by (with_reducible repeat (first | refine blk_drewN ?_ _ | refine blk_drew ?_ | refine blk_alloc ?_ _)); refine blk_put (cs := #[.int .i64 ((rd_T63 l0 x7_1).f0), .int .i64 ((rd_T63 l0 x7_1).f1), .int .i64 ((rd_T63 l0 x7_1).f2), .int .i64 ((rd_T63 l0 x7_1).f3), .int .i64 ((rd_T63 l0 x7_1).f4), .int .i64 0]) ?_ 5 _ rfl; (with_reducible repeat (first | refine blk_drewN ?_ _ | refine blk_drew ?_ | refine blk_alloc ?_ _)); refine blk_put (cs := #[.int .i64 ((rd_T63 l0 x7_1).f0), .int .i64 ((rd_T63 l0 x7_1).f1), .int .i64 ((rd_T63 l0 x7_1).f2), .int .i64 ((rd_T63 l0 x7_1).f3), .int .i64 0, .int .i64 0]) ?_ 4 _ rfl; (with_reducible repeat (first | refine blk_drewN ?_ _ | refine blk_drew ?_ | refine blk_alloc ?_ _)); refine blk_put (cs := #[.int .i64 ((rd_T63 l0 x7_1).f0), .int .i64 ((rd_T63 l0 x7_1).f1), .int .i64 ((rd_T63 l0 x7_1).f2), .int .i64 0, .int .i64 0, .int .i64 0]) ?_ 3 _ rfl; (with_reducible repeat (first | refine blk_drewN ?_ _ | refine blk_drew ?_ | refine blk_alloc ?_ _)); refine blk_put (cs := #[.int .i64 ((rd_T63 l0 x7_1).f0), .int .i64 ((rd_T63 l0 x7_1).f1), .int .i64 0, .int .i64 0, .int .i64 0, .int .i64 0]) ?_ 2 _ rfl; (with_reducible repeat (first | refine blk_drewN ?_ _ | refine blk_drew ?_ | refine blk_alloc ?_ _)); refine blk_put (cs := #[.int .i64 ((rd_T63 l0 x7_1).f0), .int .i64 0, .int .i64 0, .int .i64 0, .int .i64 0, .int .i64 0]) ?_ 1 _ rfl; (with_reducible repeat (first | refine blk_drewN ?_ _ | refine blk_drew ?_ | refine blk_alloc ?_ _)); refine blk_put (cs := #[.int .i64 0, .int .i64 0, .int .i64 0, .int .i64 0, .int .i64 0, .int .i64 0]) ?_ 0 _ rfl; (with_reducible repeat (first | refine blk_drewN ?_ _ | refine blk_drew ?_ | refine blk_alloc ?_ _)); exact BK387.out⟩
    have n1_ : Aside0 (Below w.heap.size w ((((((w30.setCell ⟨gb387, 0, none⟩ (.int .i64 ((rd_T63 l0 x7_1).f0))).setCell ⟨gb387, 1, none⟩ (.int .i64 ((rd_T63 l0 x7_1).f1))).setCell ⟨gb387, 2, none⟩ (.int .i64 ((rd_T63 l0 x7_1).f2))).setCell ⟨gb387, 3, none⟩ (.int .i64 ((rd_T63 l0 x7_1).f3))).setCell ⟨gb387, 4, none⟩ (.int .i64 ((rd_T63 l0 x7_1).f4))).setCell ⟨gb387, 5, none⟩ (.int .i64 ((rd_T63 l0 x7_1).f5)))) := ⟨pG GE387⟩
    (try clear BK387)
    (try clear HB)
    generalize ((((((w30.setCell ⟨gb387, 0, none⟩ (.int .i64 ((rd_T63 l0 x7_1).f0))).setCell ⟨gb387, 1, none⟩ (.int .i64 ((rd_T63 l0 x7_1).f1))).setCell ⟨gb387, 2, none⟩ (.int .i64 ((rd_T63 l0 x7_1).f2))).setCell ⟨gb387, 3, none⟩ (.int .i64 ((rd_T63 l0 x7_1).f3))).setCell ⟨gb387, 4, none⟩ (.int .i64 ((rd_T63 l0 x7_1).f4))).setCell ⟨gb387, 5, none⟩ (.int .i64 ((rd_T63 l0 x7_1).f5))) = w32 at n0_ n1_ ⊢
    have BK387 := n0_
    have HB := n1_
    clear n0_ n1_
    have n0_ := Aside0.mk (blk_drew BK387.out)
    have n1_ := Aside0.mk (below_drew1 HB.out)
    clear BK387
    clear HB
    have BK387 := n0_
    have HB := n1_
    clear n0_ n1_
    refine start_ (n := 49) (S := fun w' => w'.cell? ⟨gb387, 0, none⟩ = some (.int .i64 ((rd_T63 l0 x7_1).f0)) ∧ w'.cell? ⟨gb387, 1, none⟩ = some (.int .i64 ((rd_T63 l0 x7_1).f1)) ∧ w'.cell? ⟨gb387, 2, none⟩ = some (.int .i64 ((rd_T63 l0 x7_1).f2)) ∧ w'.cell? ⟨gb387, 3, none⟩ = some (.int .i64 ((rd_T63 l0 x7_1).f3)) ∧ w'.cell? ⟨gb387, 4, none⟩ = some (.int .i64 ((rd_T63 l0 x7_1).f4)) ∧ w'.cell? ⟨gb387, 5, none⟩ = some (.int .i64 ((rd_T63 l0 x7_1).f5))) (ds := []) #[false, false, false, false, false, false, false, false, false, false, false, false, false, false, false, false, false, false, false, false, false, false, false, false, false, false, false, false, false, false, false, false, false, false, false, false, false, false, false, false, false, false, false, false, false, false, false, false, false] pL rfl rfl ⟨(blk_cell BK387.out 0).trans rfl, (blk_cell BK387.out 1).trans rfl, (blk_cell BK387.out 2).trans rfl, (blk_cell BK387.out 3).trans rfl, (blk_cell BK387.out 4).trans rfl, (blk_cell BK387.out 5).trans rfl⟩ (fun hHeld => ?_); refine with_tabW impl_FoodsValid.tab4 impl_FoodsValid.bits4 (fun HT_ HW_ => ?_)
    generalize w32.drew = w33 at BK387 HB hHeld ⊢
    refine pv 0 (some 12) HT_ rfl rfl pL ?_
    refine tv 1 (some 13) HT_ HW_ rfl rfl pL (fun _ _ _ h => h) (by rfl) F79.q2 hHeld pP ?_
    refine one_ (i := 2) (N := some 14) F79.b0 rfl rfl (one_of HT_.out pL) (by decide) (fun K hK => ?_)
    refine goes_ Try.func80 pL rfl #[.int .i64 ((rd_T63 l0 x7_1).f0)] (by rfl) rfl rfl pM ?_
    with_reducible refine (impl_isId.calls ((rd_T63 l0 x7_1).f0) true _ A5.out).mono ?_
    rintro e w' ⟨rfl, ⟨nd, rfl⟩⟩
    refine ⟨_, rfl, ?_⟩
    refine hK.out _ _ F79.q1 (fun hHeld => ?_)
    clear hK K
    refine norm_ (a' := ?_) ?_ ?_
    rotate_left
    ·show Act.put _ (some 14) _ = _
     exact pP
    refine pv 3 (some 15) HT_ rfl rfl pL ?_
    refine pv 4 (some 16) HT_ rfl rfl pL ?_
    refine pv 5 (some 17) HT_ rfl rfl pL ?_
    refine tv 6 (some 18) HT_ HW_ rfl rfl pL (fun _ _ _ h => h) (by rfl) F79.q2 hHeld pP ?_
    refine one_ (i := 7) (N := some 19) F79.b1 rfl rfl (one_of HT_.out pL) (by decide) (fun K hK => ?_)
    refine goes_ Try.func76 pL rfl #[.int .i64 ((rd_T63 l0 x7_1).f1), .int .i64 1, .int .i64 3] (by rfl) rfl rfl pM ?_
    with_reducible refine (impl_within.calls ((rd_T63 l0 x7_1).f1) 1 3 true _ A7.out).mono ?_
    rintro e w' ⟨rfl, ⟨nd, rfl⟩⟩
    refine ⟨_, rfl, ?_⟩
    refine hK.out _ _ F79.q1 (fun hHeld => ?_)
    clear hK K
    refine norm_ (a' := ?_) ?_ ?_
    rotate_left
    ·show Act.put _ (some 19) _ = _
     exact pP
    refine pv 8 (some 20) HT_ rfl rfl pL ?_
    refine pv 9 (some 21) HT_ rfl rfl pL ?_
    refine pv 10 (some 22) HT_ rfl rfl pL ?_
    refine pv 11 (some 23) HT_ rfl rfl pL ?_
    refine tv 12 (some 24) HT_ HW_ rfl rfl pL (fun _ _ _ h => h) (by rfl) F79.q2 hHeld pP ?_
    refine one_ (i := 13) (N := some 25) F79.b2 rfl rfl (one_of HT_.out pL) (by decide) (fun K hK => ?_)
    refine goes_ Try.func86 pL rfl #[.int .i64 ((rd_T63 l0 x7_1).f2)] (by rfl) rfl rfl pM ?_
    with_reducible refine (impl_isSet.calls ((rd_T63 l0 x7_1).f2) true _ A9.out).mono ?_
    rintro e w' ⟨rfl, ⟨nd, rfl⟩⟩
    refine ⟨_, rfl, ?_⟩
    refine hK.out _ _ F79.q1 (fun hHeld => ?_)
    clear hK K
    refine norm_ (a' := ?_) ?_ ?_
    rotate_left
    ·show Act.put _ (some 25) _ = _
     exact pP
    refine pv 14 (some 26) HT_ rfl rfl pL ?_
    refine pv 15 (some 27) HT_ rfl rfl pL ?_
    refine pv 16 (some 28) HT_ rfl rfl pL ?_
    refine pv 17 (some 29) HT_ rfl rfl pL ?_
    refine tv 18 (some 30) HT_ HW_ rfl rfl pL (fun _ _ _ h => h) (by rfl) F79.q2 hHeld pP ?_
    refine one_ (i := 19) (N := some 31) F79.b3 rfl rfl (one_of HT_.out pL) (by decide) (fun K hK => ?_)
    refine goes_ Try.func94 pL rfl #[.int .i64 ((rd_T63 l0 x7_1).f3)] (by rfl) rfl rfl pM ?_
    with_reducible refine (impl_isKind.calls ((rd_T63 l0 x7_1).f3) true _ A11.out).mono ?_
    rintro e w' ⟨rfl, ⟨nd, rfl⟩⟩
    refine ⟨_, rfl, ?_⟩
    refine hK.out _ _ F79.q1 (fun hHeld => ?_)
    clear hK K
    refine norm_ (a' := ?_) ?_ ?_
    rotate_left
    ·show Act.put _ (some 31) _ = _
     exact pP
    refine pv 20 (some 32) HT_ rfl rfl pL ?_
    refine pv 21 (some 33) HT_ rfl rfl pL ?_
    refine pv 22 (some 34) HT_ rfl rfl pL ?_
    refine pv 23 (some 35) HT_ rfl rfl pL ?_
    refine tv 24 (some 36) HT_ HW_ rfl rfl pL (fun _ _ _ h => h) (by rfl) F79.q2 hHeld pP ?_
    refine one_ (i := 25) (N := some 37) F79.b4 rfl rfl (one_of HT_.out pL) (by decide) (fun K hK => ?_)
    refine goes_ Try.func76 pL rfl #[.int .i64 ((rd_T63 l0 x7_1).f4), .int .i64 0, .int .i64 999] (by rfl) rfl rfl pM ?_
    with_reducible refine (impl_within.calls ((rd_T63 l0 x7_1).f4) 0 999 true _ A13.out).mono ?_
    rintro e w' ⟨rfl, ⟨nd, rfl⟩⟩
    refine ⟨_, rfl, ?_⟩
    refine hK.out _ _ F79.q1 (fun hHeld => ?_)
    clear hK K
    refine norm_ (a' := ?_) ?_ ?_
    rotate_left
    ·show Act.put _ (some 37) _ = _
     exact pP
    refine pv 26 (some 38) HT_ rfl rfl pL ?_
    refine pv 27 (some 39) HT_ rfl rfl pL ?_
    refine pv 28 (some 40) HT_ rfl rfl pL ?_
    refine pv 29 (some 41) HT_ rfl rfl pL ?_
    refine tv 30 (some 42) HT_ HW_ rfl rfl pL (fun _ _ _ h => h) (by rfl) F79.q2 hHeld pP ?_
    refine one_ (i := 31) (N := some 43) F79.b5 rfl rfl (one_of HT_.out pL) (by decide) (fun K hK => ?_)
    refine goes_ Try.func76 pL rfl #[.int .i64 ((rd_T63 l0 x7_1).f5), .int .i64 0, .int .i64 999] (by rfl) rfl rfl pM ?_
    with_reducible refine (impl_within.calls ((rd_T63 l0 x7_1).f5) 0 999 true _ A15.out).mono ?_
    rintro e w' ⟨rfl, ⟨nd, rfl⟩⟩
    refine ⟨_, rfl, ?_⟩
    refine hK.out _ _ F79.q1 (fun hHeld => ?_)
    clear hK K
    refine norm_ (a' := ?_) ?_ ?_
    rotate_left
    ·show Act.put _ (some 43) _ = _
     exact pP
    refine pv 32 (some 44) HT_ rfl rfl pL ?_
    refine pv 33 (some 45) HT_ rfl rfl pL ?_
    refine pv 34 (some 46) HT_ rfl rfl pL ?_
    refine pv 35 (some 47) HT_ rfl rfl pL ?_
    refine pv 36 (some 48) HT_ rfl rfl pL ?_
    refine pv 37 (some 49) HT_ rfl rfl pL ?_
    refine uv 38 (some 50) HT_ rfl rfl pL ?_
    refine uv 39 (some 51) HT_ rfl rfl pL ?_
    refine un 40 (some 52) F79.b6 HT_ rfl rfl pL (fun _ _ _ h => h) (by rfl) pP ?_
    refine uv 41 (some 53) HT_ rfl rfl pL ?_
    refine uv 42 (some 54) HT_ rfl rfl pL ?_
    refine uv 43 (some 55) HT_ rfl rfl pL ?_
    refine uv 44 (some 56) HT_ rfl rfl pL ?_
    refine uv 45 (some 57) HT_ rfl rfl pL ?_
    refine uv 46 (some 58) HT_ rfl rfl pL ?_
    refine pv 47 (some 59) HT_ rfl rfl pL ?_
    refine pv 48 (some 60) HT_ rfl rfl pL ?_
    refine done_ (done_of HT_.out pL) ?_
    try go_wp2
    go_roundg k1
    case measure => have := HK1.out; omega
    case rel => exact ⟨(wrap64 (x7_1 + 1)), pF, H', ⟨by have := HK1.out; omega⟩, ⟨pG GE387⟩⟩
   rw [if_pos c17] at H
   have c17b0 : decide (0 < x7_1) = true := decide_eq_true c17
   clear c17
   obtain ⟨ji18, hji18⟩ : ∃ j_ : Int, (wrap64 (x7_1 - 1)) = j_ := ⟨_, rfl⟩
   replace H : (if 0 ≤ (ji18) then (if (ji18) < (l0.length : Int) then (if ((rd_T63 l0 (ji18)).f0) ≥ ((rd_T63 l0 x7_1).f0) then (some false) else (impl_FoodsValid.l0 k1 l0 l0 (l0.length : Int) (wrap64 (x7_1 + 1)))) else (none)) else (none)) = some r := by first | (rw [hji18] at H; exact H) | (simp only [hji18] at H ⊢; exact H)
   (try rw [hji18] at A5)
   (try rw [hji18] at A7)
   (try rw [hji18] at A9)
   (try rw [hji18] at A11)
   (try rw [hji18] at A13)
   (try rw [hji18] at A15)
   have hji18w : (IntKind.i64.wrap (x7_1 - 1)) = ji18 := (i64_w _).trans hji18
   rcases (Classical.em (0 ≤ (ji18))).symm with c19 | c19
   ·rw [if_neg c19] at H
    exact absurd H (by simp)
   rw [if_pos c19] at H
   have c19b0 : decide (0 ≤ (ji18)) = true := decide_eq_true c19
   clear c19
   rcases (Classical.em ((ji18) < (l0.length : Int))).symm with c20 | c20
   ·rw [if_neg c20] at H
    exact absurd H (by simp)
   rw [if_pos c20] at H
   have c20b0 : decide ((ji18) < (l0.length : Int)) = true := decide_eq_true c20
   clear c20
   by_cases c21 : ((rd_T63 l0 (ji18)).f0) ≥ ((rd_T63 l0 x7_1).f0)
   ·rw [if_pos c21] at H
    have c21b0 : decide (((rd_T63 l0 x7_1).f0) ≤ ((rd_T63 l0 (ji18)).f0)) = true := decide_eq_true c21
    clear c21
    obtain rfl := Option.some.inj H
    have p386 : 0 ≤ (x7_1 : Int) := of_decide_eq_true pA
    have q386 : x7_1 < (l0.length : Int) := of_decide_eq_true pA
    obtain ⟨ad386, e386, hx386_0, hx386_1, hx386_2, hx386_3, hx386_4, hx386_5⟩ := at_T63 HR0.out x7_1 p386 q386
    cases e386
    replace hx386_0 := (HB.out.cell (World.block_lt_of_cell? w _ hx386_0)).trans hx386_0
    replace hx386_1 := (HB.out.cell (World.block_lt_of_cell? w _ hx386_1)).trans hx386_1
    replace hx386_2 := (HB.out.cell (World.block_lt_of_cell? w _ hx386_2)).trans hx386_2
    replace hx386_3 := (HB.out.cell (World.block_lt_of_cell? w _ hx386_3)).trans hx386_3
    replace hx386_4 := (HB.out.cell (World.block_lt_of_cell? w _ hx386_4)).trans hx386_4
    replace hx386_5 := (HB.out.cell (World.block_lt_of_cell? w _ hx386_5)).trans hx386_5
    replace p386 := eq_true p386
    replace q386 := eq_true q386
    try go_wp2_with (first | ((with_reducible refine gate_dst (N := 4) rfl ?_); refine box_event ?hg (N := 4) ?hd (cs := #[.int .i64 0, .int .i64 0, .int .i64 0, .int .i64 0, .int .i64 0, .int .i64 0]) (t := 63) ?hr ?_; (case hd => rfl); (case hg => rfl); (case hr => first | (go_simp; done) | (go_simp; rfl)); intro gb387 hg w22 hbox hb; have n0_ := Aside0.mk (below_step pB hb); have n1_ := Aside0.mk (hbox); have n2_ := Aside0.mk ((by rw [hg]; exact (below_size pB) : w.heap.size ≤ gb387)); have n3_ := Aside0.mk ((by rw [hg]; exact (below_size pB) : w.heap.size ≤ gb387)); clear HB; have HB := n0_; have BK387 := n1_; have GW387 := n2_; have GE387 := n3_; clear n0_ n1_ n2_ n3_; clear hb hbox hg; have hcz23_0 : w22.cell? ⟨gb387, 0, none⟩ = some (.int .i64 0) := (blk_cell BK387.out 0).trans rfl; have hcz23_1 : w22.cell? ⟨gb387, 1, none⟩ = some (.int .i64 0) := (blk_cell BK387.out 1).trans rfl; have hcz23_2 : w22.cell? ⟨gb387, 2, none⟩ = some (.int .i64 0) := (blk_cell BK387.out 2).trans rfl; have hcz23_3 : w22.cell? ⟨gb387, 3, none⟩ = some (.int .i64 0) := (blk_cell BK387.out 3).trans rfl; have hcz23_4 : w22.cell? ⟨gb387, 4, none⟩ = some (.int .i64 0) := (blk_cell BK387.out 4).trans rfl; have hcz23_5 : w22.cell? ⟨gb387, 5, none⟩ = some (.int .i64 0) := (blk_cell BK387.out 5).trans rfl; have hfz23_0 := blk_frozen BK387.out 0; have hfz23_1 := blk_frozen BK387.out 1; have hfz23_2 := blk_frozen BK387.out 2; have hfz23_3 := blk_frozen BK387.out 3; have hfz23_4 := blk_frozen BK387.out 4; have hfz23_5 := blk_frozen BK387.out 5))
    have n0_ : Aside0 (((((((w22.setCell ⟨gb387, 0, none⟩ (.int .i64 ((rd_T63 l0 x7_1).f0))).setCell ⟨gb387, 1, none⟩ (.int .i64 ((rd_T63 l0 x7_1).f1))).setCell ⟨gb387, 2, none⟩ (.int .i64 ((rd_T63 l0 x7_1).f2))).setCell ⟨gb387, 3, none⟩ (.int .i64 ((rd_T63 l0 x7_1).f3))).setCell ⟨gb387, 4, none⟩ (.int .i64 ((rd_T63 l0 x7_1).f4))).setCell ⟨gb387, 5, none⟩ (.int .i64 ((rd_T63 l0 x7_1).f5))).heap[gb387]? = some (.cells #[.int .i64 ((rd_T63 l0 x7_1).f0), .int .i64 ((rd_T63 l0 x7_1).f1), .int .i64 ((rd_T63 l0 x7_1).f2), .int .i64 ((rd_T63 l0 x7_1).f3), .int .i64 ((rd_T63 l0 x7_1).f4), .int .i64 ((rd_T63 l0 x7_1).f5)] 63 (0, 0))) := ⟨by (with_reducible repeat (first | refine blk_drewN ?_ _ | refine blk_drew ?_ | refine blk_alloc ?_ _)); refine blk_put (cs := #[.int .i64 ((rd_T63 l0 x7_1).f0), .int .i64 ((rd_T63 l0 x7_1).f1), .int .i64 ((rd_T63 l0 x7_1).f2), .int .i64 ((rd_T63 l0 x7_1).f3), .int .i64 ((rd_T63 l0 x7_1).f4), .int .i64 0]) ?_ 5 _ rfl; (with_reducible repeat (first | refine blk_drewN ?_ _ | refine blk_drew ?_ | refine blk_alloc ?_ _)); refine blk_put (cs := #[.int .i64 ((rd_T63 l0 x7_1).f0), .int .i64 ((rd_T63 l0 x7_1).f1), .int .i64 ((rd_T63 l0 x7_1).f2), .int .i64 ((rd_T63 l0 x7_1).f3), .int .i64 0, .int .i64 0]) ?_ 4 _ rfl; (with_reducible repeat (first | refine blk_drewN ?_ _ | refine blk_drew ?_ | refine blk_alloc ?_ _)); refine blk_put (cs := #[.int .i64 ((rd_T63 l0 x7_1).f0), .int .i64 ((rd_T63 l0 x7_1).f1), .int .i64 ((rd_T63 l0 x7_1).f2), .int .i64 0, .int .i64 0, .int .i64 0]) ?_ 3 _ rfl; (with_reducible repeat (first | refine blk_drewN ?_ _ | refine blk_drew ?_ | refine blk_alloc ?_ _)); refine blk_put (cs := #[.int .i64 ((rd_T63 l0 x7_1).f0), .int .i64 ((rd_T63 l0 x7_1).f1), .int .i64 0, .int .i64 0, .int .i64 0, .int .i64 0]) ?_ 2 _ rfl; (with_reducible repeat (first | refine blk_drewN ?_ _ | refine blk_drew ?_ | refine blk_alloc ?_ _)); refine blk_put (cs := #[.int .i64 ((rd_T63 l0 x7_1).f0), .int .i64 0, .int .i64 0, .int .i64 0, .int .i64 0, .int .i64 0]) ?_ 1 _ rfl; (with_reducible repeat (first | refine blk_drewN ?_ _ | refine blk_drew ?_ | refine blk_alloc ?_ _)); refine blk_put (cs := #[.int .i64 0, .int .i64 0, .int .i64 0, .int .i64 0, .int .i64 0, .int .i64 0]) ?_ 0 _ rfl; (with_reducible repeat (first | refine blk_drewN ?_ _ | refine blk_drew ?_ | refine blk_alloc ?_ _)); exact BK387.out⟩
    have n1_ : Aside0 (Below w.heap.size w ((((((w22.setCell ⟨gb387, 0, none⟩ (.int .i64 ((rd_T63 l0 x7_1).f0))).setCell ⟨gb387, 1, none⟩ (.int .i64 ((rd_T63 l0 x7_1).f1))).setCell ⟨gb387, 2, none⟩ (.int .i64 ((rd_T63 l0 x7_1).f2))).setCell ⟨gb387, 3, none⟩ (.int .i64 ((rd_T63 l0 x7_1).f3))).setCell ⟨gb387, 4, none⟩ (.int .i64 ((rd_T63 l0 x7_1).f4))).setCell ⟨gb387, 5, none⟩ (.int .i64 ((rd_T63 l0 x7_1).f5)))) := ⟨pG GE387⟩
    (try clear BK387)
    (try clear HB)
    generalize ((((((w22.setCell ⟨gb387, 0, none⟩ (.int .i64 ((rd_T63 l0 x7_1).f0))).setCell ⟨gb387, 1, none⟩ (.int .i64 ((rd_T63 l0 x7_1).f1))).setCell ⟨gb387, 2, none⟩ (.int .i64 ((rd_T63 l0 x7_1).f2))).setCell ⟨gb387, 3, none⟩ (.int .i64 ((rd_T63 l0 x7_1).f3))).setCell ⟨gb387, 4, none⟩ (.int .i64 ((rd_T63 l0 x7_1).f4))).setCell ⟨gb387, 5, none⟩ (.int .i64 ((rd_T63 l0 x7_1).f5))) = w24 at n0_ n1_ ⊢
    have BK387 := n0_
    have HB := n1_
    clear n0_ n1_
    have n0_ := Aside0.mk (blk_drew BK387.out)
    have n1_ := Aside0.mk (below_drew1 HB.out)
    clear BK387
    clear HB
    have BK387 := n0_
    have HB := n1_
    clear n0_ n1_
    have p394 : 0 ≤ ((ji18) : Int) := of_decide_eq_true pA
    have q394 : (ji18) < (l0.length : Int) := of_decide_eq_true pA
    obtain ⟨ad394, e394, hx394_0, hx394_1, hx394_2, hx394_3, hx394_4, hx394_5⟩ := at_T63 HR0.out (ji18) p394 q394
    have hw394_5 := hx394_5
    have hw394_4 := hx394_4
    have hw394_3 := hx394_3
    have hw394_2 := hx394_2
    have hw394_1 := hx394_1
    have hw394_0 := hx394_0
    obtain rfl : ad386 = ad394 := (by injection e394)
    replace hx394_0 := (HB.out.cell (World.block_lt_of_cell? w _ hx394_0)).trans hx394_0
    replace hx394_1 := (HB.out.cell (World.block_lt_of_cell? w _ hx394_1)).trans hx394_1
    replace hx394_2 := (HB.out.cell (World.block_lt_of_cell? w _ hx394_2)).trans hx394_2
    replace hx394_3 := (HB.out.cell (World.block_lt_of_cell? w _ hx394_3)).trans hx394_3
    replace hx394_4 := (HB.out.cell (World.block_lt_of_cell? w _ hx394_4)).trans hx394_4
    replace hx394_5 := (HB.out.cell (World.block_lt_of_cell? w _ hx394_5)).trans hx394_5
    replace p394 := eq_true p394
    replace q394 := eq_true q394
    refine start_ (n := 49) (S := fun w' => w'.cell? ⟨gb387, 0, none⟩ = some (.int .i64 ((rd_T63 l0 x7_1).f0)) ∧ w'.cell? ⟨gb387, 1, none⟩ = some (.int .i64 ((rd_T63 l0 x7_1).f1)) ∧ w'.cell? ⟨gb387, 2, none⟩ = some (.int .i64 ((rd_T63 l0 x7_1).f2)) ∧ w'.cell? ⟨gb387, 3, none⟩ = some (.int .i64 ((rd_T63 l0 x7_1).f3)) ∧ w'.cell? ⟨gb387, 4, none⟩ = some (.int .i64 ((rd_T63 l0 x7_1).f4)) ∧ w'.cell? ⟨gb387, 5, none⟩ = some (.int .i64 ((rd_T63 l0 x7_1).f5)) ∧ w'.cell? (ad386.add (((ji18)).toNat * 6)) = some (.int .i64 ((rd_T63 l0 (ji18)).f0)) ∧ w'.cell? ⟨(ad386.add (((ji18)).toNat * 6)).block, (ad386.add (((ji18)).toNat * 6)).off + 1, none⟩ = some (.int .i64 ((rd_T63 l0 (ji18)).f1)) ∧ w'.cell? ⟨(ad386.add (((ji18)).toNat * 6)).block, (ad386.add (((ji18)).toNat * 6)).off + 2, none⟩ = some (.int .i64 ((rd_T63 l0 (ji18)).f2)) ∧ w'.cell? ⟨(ad386.add (((ji18)).toNat * 6)).block, (ad386.add (((ji18)).toNat * 6)).off + 3, none⟩ = some (.int .i64 ((rd_T63 l0 (ji18)).f3)) ∧ w'.cell? ⟨(ad386.add (((ji18)).toNat * 6)).block, (ad386.add (((ji18)).toNat * 6)).off + 4, none⟩ = some (.int .i64 ((rd_T63 l0 (ji18)).f4)) ∧ w'.cell? ⟨(ad386.add (((ji18)).toNat * 6)).block, (ad386.add (((ji18)).toNat * 6)).off + 5, none⟩ = some (.int .i64 ((rd_T63 l0 (ji18)).f5))) (ds := []) #[false, false, false, false, false, false, false, false, false, false, false, false, false, false, false, false, false, false, false, false, false, false, false, false, false, false, false, false, false, false, false, false, false, false, false, false, false, false, false, false, false, false, false, false, false, false, false, false, false] pL rfl rfl ⟨(blk_cell BK387.out 0).trans rfl, (blk_cell BK387.out 1).trans rfl, (blk_cell BK387.out 2).trans rfl, (blk_cell BK387.out 3).trans rfl, (blk_cell BK387.out 4).trans rfl, (blk_cell BK387.out 5).trans rfl, ((HB.out.cell (World.block_lt_of_cell? w _ hw394_0)).trans hw394_0), ((HB.out.cell (World.block_lt_of_cell? w _ hw394_1)).trans hw394_1), ((HB.out.cell (World.block_lt_of_cell? w _ hw394_2)).trans hw394_2), ((HB.out.cell (World.block_lt_of_cell? w _ hw394_3)).trans hw394_3), ((HB.out.cell (World.block_lt_of_cell? w _ hw394_4)).trans hw394_4), ((HB.out.cell (World.block_lt_of_cell? w _ hw394_5)).trans hw394_5)⟩ (fun hHeld => ?_); refine with_tabW impl_FoodsValid.tab4 impl_FoodsValid.bits4 (fun HT_ HW_ => ?_)
    generalize w24.drew = w25 at BK387 HB hx394_0 hx394_1 hx394_2 hx394_3 hx394_4 hx394_5 hHeld ⊢
    refine pv 0 (some 12) HT_ rfl rfl pL ?_
    refine tv 1 (some 13) HT_ HW_ rfl rfl pL (fun _ _ _ h => h) (by rfl) F79.q3 hHeld pP ?_
    refine one_ (i := 2) (N := some 14) F79.b0 rfl rfl (one_of HT_.out pL) (by decide) (fun K hK => ?_)
    refine goes_ Try.func80 pL rfl #[.int .i64 ((rd_T63 l0 x7_1).f0)] (by rfl) rfl rfl pM ?_
    with_reducible refine (impl_isId.calls ((rd_T63 l0 x7_1).f0) true _ A5.out).mono ?_
    rintro e w' ⟨rfl, ⟨nd, rfl⟩⟩
    refine ⟨_, rfl, ?_⟩
    refine hK.out _ _ F79.q0 (fun hHeld => ?_)
    clear hK K
    refine norm_ (a' := ?_) ?_ ?_
    rotate_left
    ·show Act.put _ (some 14) _ = _
     exact pP
    refine pv 3 (some 15) HT_ rfl rfl pL ?_
    refine pv 4 (some 16) HT_ rfl rfl pL ?_
    refine pv 5 (some 17) HT_ rfl rfl pL ?_
    refine tv 6 (some 18) HT_ HW_ rfl rfl pL (fun _ _ _ h => h) (by rfl) F79.q3 hHeld pP ?_
    refine one_ (i := 7) (N := some 19) F79.b1 rfl rfl (one_of HT_.out pL) (by decide) (fun K hK => ?_)
    refine goes_ Try.func76 pL rfl #[.int .i64 ((rd_T63 l0 x7_1).f1), .int .i64 1, .int .i64 3] (by rfl) rfl rfl pM ?_
    with_reducible refine (impl_within.calls ((rd_T63 l0 x7_1).f1) 1 3 true _ A7.out).mono ?_
    rintro e w' ⟨rfl, ⟨nd, rfl⟩⟩
    refine ⟨_, rfl, ?_⟩
    refine hK.out _ _ F79.q0 (fun hHeld => ?_)
    clear hK K
    refine norm_ (a' := ?_) ?_ ?_
    rotate_left
    ·show Act.put _ (some 19) _ = _
     exact pP
    refine pv 8 (some 20) HT_ rfl rfl pL ?_
    refine pv 9 (some 21) HT_ rfl rfl pL ?_
    refine pv 10 (some 22) HT_ rfl rfl pL ?_
    refine pv 11 (some 23) HT_ rfl rfl pL ?_
    refine tv 12 (some 24) HT_ HW_ rfl rfl pL (fun _ _ _ h => h) (by rfl) F79.q3 hHeld pP ?_
    refine one_ (i := 13) (N := some 25) F79.b2 rfl rfl (one_of HT_.out pL) (by decide) (fun K hK => ?_)
    refine goes_ Try.func86 pL rfl #[.int .i64 ((rd_T63 l0 x7_1).f2)] (by rfl) rfl rfl pM ?_
    with_reducible refine (impl_isSet.calls ((rd_T63 l0 x7_1).f2) true _ A9.out).mono ?_
    rintro e w' ⟨rfl, ⟨nd, rfl⟩⟩
    refine ⟨_, rfl, ?_⟩
    refine hK.out _ _ F79.q0 (fun hHeld => ?_)
    clear hK K
    refine norm_ (a' := ?_) ?_ ?_
    rotate_left
    ·show Act.put _ (some 25) _ = _
     exact pP
    refine pv 14 (some 26) HT_ rfl rfl pL ?_
    refine pv 15 (some 27) HT_ rfl rfl pL ?_
    refine pv 16 (some 28) HT_ rfl rfl pL ?_
    refine pv 17 (some 29) HT_ rfl rfl pL ?_
    refine tv 18 (some 30) HT_ HW_ rfl rfl pL (fun _ _ _ h => h) (by rfl) F79.q3 hHeld pP ?_
    refine one_ (i := 19) (N := some 31) F79.b3 rfl rfl (one_of HT_.out pL) (by decide) (fun K hK => ?_)
    refine goes_ Try.func94 pL rfl #[.int .i64 ((rd_T63 l0 x7_1).f3)] (by rfl) rfl rfl pM ?_
    with_reducible refine (impl_isKind.calls ((rd_T63 l0 x7_1).f3) true _ A11.out).mono ?_
    rintro e w' ⟨rfl, ⟨nd, rfl⟩⟩
    refine ⟨_, rfl, ?_⟩
    refine hK.out _ _ F79.q0 (fun hHeld => ?_)
    clear hK K
    refine norm_ (a' := ?_) ?_ ?_
    rotate_left
    ·show Act.put _ (some 31) _ = _
     exact pP
    refine pv 20 (some 32) HT_ rfl rfl pL ?_
    refine pv 21 (some 33) HT_ rfl rfl pL ?_
    refine pv 22 (some 34) HT_ rfl rfl pL ?_
    refine pv 23 (some 35) HT_ rfl rfl pL ?_
    refine tv 24 (some 36) HT_ HW_ rfl rfl pL (fun _ _ _ h => h) (by rfl) F79.q3 hHeld pP ?_
    refine one_ (i := 25) (N := some 37) F79.b4 rfl rfl (one_of HT_.out pL) (by decide) (fun K hK => ?_)
    refine goes_ Try.func76 pL rfl #[.int .i64 ((rd_T63 l0 x7_1).f4), .int .i64 0, .int .i64 999] (by rfl) rfl rfl pM ?_
    with_reducible refine (impl_within.calls ((rd_T63 l0 x7_1).f4) 0 999 true _ A13.out).mono ?_
    rintro e w' ⟨rfl, ⟨nd, rfl⟩⟩
    refine ⟨_, rfl, ?_⟩
    refine hK.out _ _ F79.q0 (fun hHeld => ?_)
    clear hK K
    refine norm_ (a' := ?_) ?_ ?_
    rotate_left
    ·show Act.put _ (some 37) _ = _
     exact pP
    refine pv 26 (some 38) HT_ rfl rfl pL ?_
    refine pv 27 (some 39) HT_ rfl rfl pL ?_
    refine pv 28 (some 40) HT_ rfl rfl pL ?_
    refine pv 29 (some 41) HT_ rfl rfl pL ?_
    refine tv 30 (some 42) HT_ HW_ rfl rfl pL (fun _ _ _ h => h) (by rfl) F79.q3 hHeld pP ?_
    refine one_ (i := 31) (N := some 43) F79.b5 rfl rfl (one_of HT_.out pL) (by decide) (fun K hK => ?_)
    refine goes_ Try.func76 pL rfl #[.int .i64 ((rd_T63 l0 x7_1).f5), .int .i64 0, .int .i64 999] (by rfl) rfl rfl pM ?_
    with_reducible refine (impl_within.calls ((rd_T63 l0 x7_1).f5) 0 999 true _ A15.out).mono ?_
    rintro e w' ⟨rfl, ⟨nd, rfl⟩⟩
    refine ⟨_, rfl, ?_⟩
    refine hK.out _ _ F79.q0 (fun hHeld => ?_)
    clear hK K
    refine norm_ (a' := ?_) ?_ ?_
    rotate_left
    ·show Act.put _ (some 43) _ = _
     exact pP
    refine pv 32 (some 44) HT_ rfl rfl pL ?_
    refine pv 33 (some 45) HT_ rfl rfl pL ?_
    refine pv 34 (some 46) HT_ rfl rfl pL ?_
    refine pv 35 (some 47) HT_ rfl rfl pL ?_
    refine pv 36 (some 48) HT_ rfl rfl pL ?_
    refine pv 37 (some 49) HT_ rfl rfl pL ?_
    refine pv 38 (some 50) HT_ rfl rfl pL ?_
    refine pv 39 (some 51) HT_ rfl rfl pL ?_
    refine pu 40 (some 52) F79.b6 HT_ rfl rfl pL (fun _ _ _ h => h) (by rfl) pY pP ?_
    refine pv 41 (some 53) HT_ rfl rfl pL ?_
    refine pv 42 (some 54) HT_ rfl rfl pL ?_
    refine pv 44 (some 56) HT_ rfl rfl pL ?_
    refine tv 43 (some 55) HT_ HW_ rfl rfl pL (fun _ _ _ h => h) (by rfl) F79.q3 hHeld pP ?_
    refine tv 45 (some 57) HT_ HW_ rfl rfl pL (fun _ _ _ h => h) (by rfl) F79.q3 hHeld pP ?_
    refine pv 46 (some 58) HT_ rfl rfl pL ?_
    refine pv 47 (some 59) HT_ rfl rfl pL ?_
    refine pv 48 (some 60) HT_ rfl rfl pL ?_
    refine done_ (done_of HT_.out pL) ?_
    try go_wp2
    go_ret
    exact ⟨by first | rfl | (simp [errW_none, errW_some] <;> rfl) | (simp only [← hji18]; first | rfl | (simp [errW_none, errW_some] <;> rfl)) | (simp [*, errW_none, errW_some] <;> rfl), pG GE387⟩
   rw [if_neg c21] at H
   have c21b0 : decide (((rd_T63 l0 x7_1).f0) ≤ ((rd_T63 l0 (ji18)).f0)) = false := decide_eq_false c21
   clear c21
   have H' := Aside0.mk H
   clear H
   have p386 : 0 ≤ (x7_1 : Int) := of_decide_eq_true pA
   have q386 : x7_1 < (l0.length : Int) := of_decide_eq_true pA
   obtain ⟨ad386, e386, hx386_0, hx386_1, hx386_2, hx386_3, hx386_4, hx386_5⟩ := at_T63 HR0.out x7_1 p386 q386
   cases e386
   replace hx386_0 := (HB.out.cell (World.block_lt_of_cell? w _ hx386_0)).trans hx386_0
   replace hx386_1 := (HB.out.cell (World.block_lt_of_cell? w _ hx386_1)).trans hx386_1
   replace hx386_2 := (HB.out.cell (World.block_lt_of_cell? w _ hx386_2)).trans hx386_2
   replace hx386_3 := (HB.out.cell (World.block_lt_of_cell? w _ hx386_3)).trans hx386_3
   replace hx386_4 := (HB.out.cell (World.block_lt_of_cell? w _ hx386_4)).trans hx386_4
   replace hx386_5 := (HB.out.cell (World.block_lt_of_cell? w _ hx386_5)).trans hx386_5
   replace p386 := eq_true p386
   replace q386 := eq_true q386
   try go_wp2_with (first | ((with_reducible refine gate_dst (N := 4) rfl ?_); refine box_event ?hg (N := 4) ?hd (cs := #[.int .i64 0, .int .i64 0, .int .i64 0, .int .i64 0, .int .i64 0, .int .i64 0]) (t := 63) ?hr ?_; (case hd => rfl); (case hg => rfl); (case hr => first | (go_simp; done) | (go_simp; rfl)); intro gb387 hg w26 hbox hb; have n0_ := Aside0.mk (below_step pB hb); have n1_ := Aside0.mk (hbox); have n2_ := Aside0.mk ((by rw [hg]; exact (below_size pB) : w.heap.size ≤ gb387)); have n3_ := Aside0.mk ((by rw [hg]; exact (below_size pB) : w.heap.size ≤ gb387)); clear HB; have HB := n0_; have BK387 := n1_; have GW387 := n2_; have GE387 := n3_; clear n0_ n1_ n2_ n3_; clear hb hbox hg; have hcz27_0 : w26.cell? ⟨gb387, 0, none⟩ = some (.int .i64 0) := (blk_cell BK387.out 0).trans rfl; have hcz27_1 : w26.cell? ⟨gb387, 1, none⟩ = some (.int .i64 0) := (blk_cell BK387.out 1).trans rfl; have hcz27_2 : w26.cell? ⟨gb387, 2, none⟩ = some (.int .i64 0) := (blk_cell BK387.out 2).trans rfl; have hcz27_3 : w26.cell? ⟨gb387, 3, none⟩ = some (.int .i64 0) := (blk_cell BK387.out 3).trans rfl; have hcz27_4 : w26.cell? ⟨gb387, 4, none⟩ = some (.int .i64 0) := (blk_cell BK387.out 4).trans rfl; have hcz27_5 : w26.cell? ⟨gb387, 5, none⟩ = some (.int .i64 0) := (blk_cell BK387.out 5).trans rfl; have hfz27_0 := blk_frozen BK387.out 0; have hfz27_1 := blk_frozen BK387.out 1; have hfz27_2 := blk_frozen BK387.out 2; have hfz27_3 := blk_frozen BK387.out 3; have hfz27_4 := blk_frozen BK387.out 4; have hfz27_5 := blk_frozen BK387.out 5))
   have n0_ : Aside0 (((((((w26.setCell ⟨gb387, 0, none⟩ (.int .i64 ((rd_T63 l0 x7_1).f0))).setCell ⟨gb387, 1, none⟩ (.int .i64 ((rd_T63 l0 x7_1).f1))).setCell ⟨gb387, 2, none⟩ (.int .i64 ((rd_T63 l0 x7_1).f2))).setCell ⟨gb387, 3, none⟩ (.int .i64 ((rd_T63 l0 x7_1).f3))).setCell ⟨gb387, 4, none⟩ (.int .i64 ((rd_T63 l0 x7_1).f4))).setCell ⟨gb387, 5, none⟩ (.int .i64 ((rd_T63 l0 x7_1).f5))).heap[gb387]? = some (.cells #[.int .i64 ((rd_T63 l0 x7_1).f0), .int .i64 ((rd_T63 l0 x7_1).f1), .int .i64 ((rd_T63 l0 x7_1).f2), .int .i64 ((rd_T63 l0 x7_1).f3), .int .i64 ((rd_T63 l0 x7_1).f4), .int .i64 ((rd_T63 l0 x7_1).f5)] 63 (0, 0))) := ⟨by (with_reducible repeat (first | refine blk_drewN ?_ _ | refine blk_drew ?_ | refine blk_alloc ?_ _)); refine blk_put (cs := #[.int .i64 ((rd_T63 l0 x7_1).f0), .int .i64 ((rd_T63 l0 x7_1).f1), .int .i64 ((rd_T63 l0 x7_1).f2), .int .i64 ((rd_T63 l0 x7_1).f3), .int .i64 ((rd_T63 l0 x7_1).f4), .int .i64 0]) ?_ 5 _ rfl; (with_reducible repeat (first | refine blk_drewN ?_ _ | refine blk_drew ?_ | refine blk_alloc ?_ _)); refine blk_put (cs := #[.int .i64 ((rd_T63 l0 x7_1).f0), .int .i64 ((rd_T63 l0 x7_1).f1), .int .i64 ((rd_T63 l0 x7_1).f2), .int .i64 ((rd_T63 l0 x7_1).f3), .int .i64 0, .int .i64 0]) ?_ 4 _ rfl; (with_reducible repeat (first | refine blk_drewN ?_ _ | refine blk_drew ?_ | refine blk_alloc ?_ _)); refine blk_put (cs := #[.int .i64 ((rd_T63 l0 x7_1).f0), .int .i64 ((rd_T63 l0 x7_1).f1), .int .i64 ((rd_T63 l0 x7_1).f2), .int .i64 0, .int .i64 0, .int .i64 0]) ?_ 3 _ rfl; (with_reducible repeat (first | refine blk_drewN ?_ _ | refine blk_drew ?_ | refine blk_alloc ?_ _)); refine blk_put (cs := #[.int .i64 ((rd_T63 l0 x7_1).f0), .int .i64 ((rd_T63 l0 x7_1).f1), .int .i64 0, .int .i64 0, .int .i64 0, .int .i64 0]) ?_ 2 _ rfl; (with_reducible repeat (first | refine blk_drewN ?_ _ | refine blk_drew ?_ | refine blk_alloc ?_ _)); refine blk_put (cs := #[.int .i64 ((rd_T63 l0 x7_1).f0), .int .i64 0, .int .i64 0, .int .i64 0, .int .i64 0, .int .i64 0]) ?_ 1 _ rfl; (with_reducible repeat (first | refine blk_drewN ?_ _ | refine blk_drew ?_ | refine blk_alloc ?_ _)); refine blk_put (cs := #[.int .i64 0, .int .i64 0, .int .i64 0, .int .i64 0, .int .i64 0, .int .i64 0]) ?_ 0 _ rfl; (with_reducible repeat (first | refine blk_drewN ?_ _ | refine blk_drew ?_ | refine blk_alloc ?_ _)); exact BK387.out⟩
   have n1_ : Aside0 (Below w.heap.size w ((((((w26.setCell ⟨gb387, 0, none⟩ (.int .i64 ((rd_T63 l0 x7_1).f0))).setCell ⟨gb387, 1, none⟩ (.int .i64 ((rd_T63 l0 x7_1).f1))).setCell ⟨gb387, 2, none⟩ (.int .i64 ((rd_T63 l0 x7_1).f2))).setCell ⟨gb387, 3, none⟩ (.int .i64 ((rd_T63 l0 x7_1).f3))).setCell ⟨gb387, 4, none⟩ (.int .i64 ((rd_T63 l0 x7_1).f4))).setCell ⟨gb387, 5, none⟩ (.int .i64 ((rd_T63 l0 x7_1).f5)))) := ⟨pG GE387⟩
   (try clear BK387)
   (try clear HB)
   generalize ((((((w26.setCell ⟨gb387, 0, none⟩ (.int .i64 ((rd_T63 l0 x7_1).f0))).setCell ⟨gb387, 1, none⟩ (.int .i64 ((rd_T63 l0 x7_1).f1))).setCell ⟨gb387, 2, none⟩ (.int .i64 ((rd_T63 l0 x7_1).f2))).setCell ⟨gb387, 3, none⟩ (.int .i64 ((rd_T63 l0 x7_1).f3))).setCell ⟨gb387, 4, none⟩ (.int .i64 ((rd_T63 l0 x7_1).f4))).setCell ⟨gb387, 5, none⟩ (.int .i64 ((rd_T63 l0 x7_1).f5))) = w28 at n0_ n1_ ⊢
   have BK387 := n0_
   have HB := n1_
   clear n0_ n1_
   have n0_ := Aside0.mk (blk_drew BK387.out)
   have n1_ := Aside0.mk (below_drew1 HB.out)
   clear BK387
   clear HB
   have BK387 := n0_
   have HB := n1_
   clear n0_ n1_
   have p394 : 0 ≤ ((ji18) : Int) := of_decide_eq_true pA
   have q394 : (ji18) < (l0.length : Int) := of_decide_eq_true pA
   obtain ⟨ad394, e394, hx394_0, hx394_1, hx394_2, hx394_3, hx394_4, hx394_5⟩ := at_T63 HR0.out (ji18) p394 q394
   have hw394_5 := hx394_5
   have hw394_4 := hx394_4
   have hw394_3 := hx394_3
   have hw394_2 := hx394_2
   have hw394_1 := hx394_1
   have hw394_0 := hx394_0
   obtain rfl : ad386 = ad394 := (by injection e394)
   replace hx394_0 := (HB.out.cell (World.block_lt_of_cell? w _ hx394_0)).trans hx394_0
   replace hx394_1 := (HB.out.cell (World.block_lt_of_cell? w _ hx394_1)).trans hx394_1
   replace hx394_2 := (HB.out.cell (World.block_lt_of_cell? w _ hx394_2)).trans hx394_2
   replace hx394_3 := (HB.out.cell (World.block_lt_of_cell? w _ hx394_3)).trans hx394_3
   replace hx394_4 := (HB.out.cell (World.block_lt_of_cell? w _ hx394_4)).trans hx394_4
   replace hx394_5 := (HB.out.cell (World.block_lt_of_cell? w _ hx394_5)).trans hx394_5
   replace p394 := eq_true p394
   replace q394 := eq_true q394
   refine start_ (n := 49) (S := fun w' => w'.cell? ⟨gb387, 0, none⟩ = some (.int .i64 ((rd_T63 l0 x7_1).f0)) ∧ w'.cell? ⟨gb387, 1, none⟩ = some (.int .i64 ((rd_T63 l0 x7_1).f1)) ∧ w'.cell? ⟨gb387, 2, none⟩ = some (.int .i64 ((rd_T63 l0 x7_1).f2)) ∧ w'.cell? ⟨gb387, 3, none⟩ = some (.int .i64 ((rd_T63 l0 x7_1).f3)) ∧ w'.cell? ⟨gb387, 4, none⟩ = some (.int .i64 ((rd_T63 l0 x7_1).f4)) ∧ w'.cell? ⟨gb387, 5, none⟩ = some (.int .i64 ((rd_T63 l0 x7_1).f5)) ∧ w'.cell? (ad386.add (((ji18)).toNat * 6)) = some (.int .i64 ((rd_T63 l0 (ji18)).f0)) ∧ w'.cell? ⟨(ad386.add (((ji18)).toNat * 6)).block, (ad386.add (((ji18)).toNat * 6)).off + 1, none⟩ = some (.int .i64 ((rd_T63 l0 (ji18)).f1)) ∧ w'.cell? ⟨(ad386.add (((ji18)).toNat * 6)).block, (ad386.add (((ji18)).toNat * 6)).off + 2, none⟩ = some (.int .i64 ((rd_T63 l0 (ji18)).f2)) ∧ w'.cell? ⟨(ad386.add (((ji18)).toNat * 6)).block, (ad386.add (((ji18)).toNat * 6)).off + 3, none⟩ = some (.int .i64 ((rd_T63 l0 (ji18)).f3)) ∧ w'.cell? ⟨(ad386.add (((ji18)).toNat * 6)).block, (ad386.add (((ji18)).toNat * 6)).off + 4, none⟩ = some (.int .i64 ((rd_T63 l0 (ji18)).f4)) ∧ w'.cell? ⟨(ad386.add (((ji18)).toNat * 6)).block, (ad386.add (((ji18)).toNat * 6)).off + 5, none⟩ = some (.int .i64 ((rd_T63 l0 (ji18)).f5))) (ds := []) #[false, false, false, false, false, false, false, false, false, false, false, false, false, false, false, false, false, false, false, false, false, false, false, false, false, false, false, false, false, false, false, false, false, false, false, false, false, false, false, false, false, false, false, false, false, false, false, false, false] pL rfl rfl ⟨(blk_cell BK387.out 0).trans rfl, (blk_cell BK387.out 1).trans rfl, (blk_cell BK387.out 2).trans rfl, (blk_cell BK387.out 3).trans rfl, (blk_cell BK387.out 4).trans rfl, (blk_cell BK387.out 5).trans rfl, ((HB.out.cell (World.block_lt_of_cell? w _ hw394_0)).trans hw394_0), ((HB.out.cell (World.block_lt_of_cell? w _ hw394_1)).trans hw394_1), ((HB.out.cell (World.block_lt_of_cell? w _ hw394_2)).trans hw394_2), ((HB.out.cell (World.block_lt_of_cell? w _ hw394_3)).trans hw394_3), ((HB.out.cell (World.block_lt_of_cell? w _ hw394_4)).trans hw394_4), ((HB.out.cell (World.block_lt_of_cell? w _ hw394_5)).trans hw394_5)⟩ (fun hHeld => ?_); refine with_tabW impl_FoodsValid.tab4 impl_FoodsValid.bits4 (fun HT_ HW_ => ?_)
   generalize w28.drew = w29 at BK387 HB hx394_0 hx394_1 hx394_2 hx394_3 hx394_4 hx394_5 hHeld ⊢
   refine pv 0 (some 12) HT_ rfl rfl pL ?_
   refine tv 1 (some 13) HT_ HW_ rfl rfl pL (fun _ _ _ h => h) (by rfl) F79.q3 hHeld pP ?_
   refine one_ (i := 2) (N := some 14) F79.b0 rfl rfl (one_of HT_.out pL) (by decide) (fun K hK => ?_)
   refine goes_ Try.func80 pL rfl #[.int .i64 ((rd_T63 l0 x7_1).f0)] (by rfl) rfl rfl pM ?_
   with_reducible refine (impl_isId.calls ((rd_T63 l0 x7_1).f0) true _ A5.out).mono ?_
   rintro e w' ⟨rfl, ⟨nd, rfl⟩⟩
   refine ⟨_, rfl, ?_⟩
   refine hK.out _ _ F79.q0 (fun hHeld => ?_)
   clear hK K
   refine norm_ (a' := ?_) ?_ ?_
   rotate_left
   ·show Act.put _ (some 14) _ = _
    exact pP
   refine pv 3 (some 15) HT_ rfl rfl pL ?_
   refine pv 4 (some 16) HT_ rfl rfl pL ?_
   refine pv 5 (some 17) HT_ rfl rfl pL ?_
   refine tv 6 (some 18) HT_ HW_ rfl rfl pL (fun _ _ _ h => h) (by rfl) F79.q3 hHeld pP ?_
   refine one_ (i := 7) (N := some 19) F79.b1 rfl rfl (one_of HT_.out pL) (by decide) (fun K hK => ?_)
   refine goes_ Try.func76 pL rfl #[.int .i64 ((rd_T63 l0 x7_1).f1), .int .i64 1, .int .i64 3] (by rfl) rfl rfl pM ?_
   with_reducible refine (impl_within.calls ((rd_T63 l0 x7_1).f1) 1 3 true _ A7.out).mono ?_
   rintro e w' ⟨rfl, ⟨nd, rfl⟩⟩
   refine ⟨_, rfl, ?_⟩
   refine hK.out _ _ F79.q0 (fun hHeld => ?_)
   clear hK K
   refine norm_ (a' := ?_) ?_ ?_
   rotate_left
   ·show Act.put _ (some 19) _ = _
    exact pP
   refine pv 8 (some 20) HT_ rfl rfl pL ?_
   refine pv 9 (some 21) HT_ rfl rfl pL ?_
   refine pv 10 (some 22) HT_ rfl rfl pL ?_
   refine pv 11 (some 23) HT_ rfl rfl pL ?_
   refine tv 12 (some 24) HT_ HW_ rfl rfl pL (fun _ _ _ h => h) (by rfl) F79.q3 hHeld pP ?_
   refine one_ (i := 13) (N := some 25) F79.b2 rfl rfl (one_of HT_.out pL) (by decide) (fun K hK => ?_)
   refine goes_ Try.func86 pL rfl #[.int .i64 ((rd_T63 l0 x7_1).f2)] (by rfl) rfl rfl pM ?_
   with_reducible refine (impl_isSet.calls ((rd_T63 l0 x7_1).f2) true _ A9.out).mono ?_
   rintro e w' ⟨rfl, ⟨nd, rfl⟩⟩
   refine ⟨_, rfl, ?_⟩
   refine hK.out _ _ F79.q0 (fun hHeld => ?_)
   clear hK K
   refine norm_ (a' := ?_) ?_ ?_
   rotate_left
   ·show Act.put _ (some 25) _ = _
    exact pP
   refine pv 14 (some 26) HT_ rfl rfl pL ?_
   refine pv 15 (some 27) HT_ rfl rfl pL ?_
   refine pv 16 (some 28) HT_ rfl rfl pL ?_
   refine pv 17 (some 29) HT_ rfl rfl pL ?_
   refine tv 18 (some 30) HT_ HW_ rfl rfl pL (fun _ _ _ h => h) (by rfl) F79.q3 hHeld pP ?_
   refine one_ (i := 19) (N := some 31) F79.b3 rfl rfl (one_of HT_.out pL) (by decide) (fun K hK => ?_)
   refine goes_ Try.func94 pL rfl #[.int .i64 ((rd_T63 l0 x7_1).f3)] (by rfl) rfl rfl pM ?_
   with_reducible refine (impl_isKind.calls ((rd_T63 l0 x7_1).f3) true _ A11.out).mono ?_
   rintro e w' ⟨rfl, ⟨nd, rfl⟩⟩
   refine ⟨_, rfl, ?_⟩
   refine hK.out _ _ F79.q0 (fun hHeld => ?_)
   clear hK K
   refine norm_ (a' := ?_) ?_ ?_
   rotate_left
   ·show Act.put _ (some 31) _ = _
    exact pP
   refine pv 20 (some 32) HT_ rfl rfl pL ?_
   refine pv 21 (some 33) HT_ rfl rfl pL ?_
   refine pv 22 (some 34) HT_ rfl rfl pL ?_
   refine pv 23 (some 35) HT_ rfl rfl pL ?_
   refine tv 24 (some 36) HT_ HW_ rfl rfl pL (fun _ _ _ h => h) (by rfl) F79.q3 hHeld pP ?_
   refine one_ (i := 25) (N := some 37) F79.b4 rfl rfl (one_of HT_.out pL) (by decide) (fun K hK => ?_)
   refine goes_ Try.func76 pL rfl #[.int .i64 ((rd_T63 l0 x7_1).f4), .int .i64 0, .int .i64 999] (by rfl) rfl rfl pM ?_
   with_reducible refine (impl_within.calls ((rd_T63 l0 x7_1).f4) 0 999 true _ A13.out).mono ?_
   rintro e w' ⟨rfl, ⟨nd, rfl⟩⟩
   refine ⟨_, rfl, ?_⟩
   refine hK.out _ _ F79.q0 (fun hHeld => ?_)
   clear hK K
   refine norm_ (a' := ?_) ?_ ?_
   rotate_left
   ·show Act.put _ (some 37) _ = _
    exact pP
   refine pv 26 (some 38) HT_ rfl rfl pL ?_
   refine pv 27 (some 39) HT_ rfl rfl pL ?_
   refine pv 28 (some 40) HT_ rfl rfl pL ?_
   refine pv 29 (some 41) HT_ rfl rfl pL ?_
   refine tv 30 (some 42) HT_ HW_ rfl rfl pL (fun _ _ _ h => h) (by rfl) F79.q3 hHeld pP ?_
   refine one_ (i := 31) (N := some 43) F79.b5 rfl rfl (one_of HT_.out pL) (by decide) (fun K hK => ?_)
   refine goes_ Try.func76 pL rfl #[.int .i64 ((rd_T63 l0 x7_1).f5), .int .i64 0, .int .i64 999] (by rfl) rfl rfl pM ?_
   with_reducible refine (impl_within.calls ((rd_T63 l0 x7_1).f5) 0 999 true _ A15.out).mono ?_
   rintro e w' ⟨rfl, ⟨nd, rfl⟩⟩
   refine ⟨_, rfl, ?_⟩
   refine hK.out _ _ F79.q0 (fun hHeld => ?_)
   clear hK K
   refine norm_ (a' := ?_) ?_ ?_
   rotate_left
   ·show Act.put _ (some 43) _ = _
    exact pP
   refine pv 32 (some 44) HT_ rfl rfl pL ?_
   refine pv 33 (some 45) HT_ rfl rfl pL ?_
   refine pv 34 (some 46) HT_ rfl rfl pL ?_
   refine pv 35 (some 47) HT_ rfl rfl pL ?_
   refine pv 36 (some 48) HT_ rfl rfl pL ?_
   refine pv 37 (some 49) HT_ rfl rfl pL ?_
   refine pv 38 (some 50) HT_ rfl rfl pL ?_
   refine pv 39 (some 51) HT_ rfl rfl pL ?_
   refine pu 40 (some 52) F79.b6 HT_ rfl rfl pL (fun _ _ _ h => h) (by rfl) pY pP ?_
   refine pv 41 (some 53) HT_ rfl rfl pL ?_
   refine pv 42 (some 54) HT_ rfl rfl pL ?_
   refine pv 44 (some 56) HT_ rfl rfl pL ?_
   refine tv 43 (some 55) HT_ HW_ rfl rfl pL (fun _ _ _ h => h) (by rfl) F79.q3 hHeld pP ?_
   refine tv 45 (some 57) HT_ HW_ rfl rfl pL (fun _ _ _ h => h) (by rfl) F79.q3 hHeld pP ?_
   refine pv 46 (some 58) HT_ rfl rfl pL ?_
   refine pv 47 (some 59) HT_ rfl rfl pL ?_
   refine pv 48 (some 60) HT_ rfl rfl pL ?_
   refine done_ (done_of HT_.out pL) ?_
   try go_wp2
   go_roundg k1
   case measure => have := HK1.out; omega
   case rel => exact ⟨(wrap64 (x7_1 + 1)), pF, H', ⟨by have := HK1.out; omega⟩, ⟨pG GE387⟩⟩
-- NOT PRINTED: function 95 (impl_Food)

/-! ### impl_foodPlace: function 81 -/
-- by hand
set_option maxHeartbeats 4000000 in
set_option maxRecDepth 100000 in
/-- slices.IndexFunc: the first element of which the predicate holds. -/
theorem indexFood (p : S63 → Bool) (g : Nat) (lb : Array Value) (eg : ∀ args w, (callFunc g args).run Try.prog w = .ok (.enter g args) w) (A0 : Option Addr) (c0 : Nat) (l0 : List (S63)) (w : World) (hr0 : Kd.C k63 w A0 l0.length l0) (hc0 : l0.length ≤ c0)
    (hp : ∀ (W : World) (x : S63), Below w.heap.size w W → Calls Try.prog g (#[.agg #[.int .i64 x.f0, .int .i64 x.f1, .int .i64 x.f2, .int .i64 x.f3, .int .i64 x.f4, .int .i64 x.f5]] ++ lb) W fun e w' => e = .returned (.bool (p x)) ∧ Below w.heap.size w w') :
    Calls Try.prog 95 #[.slice A0 l0.length c0, .func (.func g) #[] lb] w fun e w' => e = .returned (.int .i64 (idxOf p l0)) ∧ Below w.heap.size w w' := by
  have hu63 := Try.underlying63
  have HR0 := Aside0.mk hr0
  have HC0 := Aside0.mk hc0
  have HP := Aside0.mk hp
  have hn : l0.length ≤ 9223372036854775807 := hr0.2.1
  clear hr0 hc0 hp
  go_enter Try.func95, Try.ntmps95
  go_wp2
  go_loopg [5, 8] l0.length (fun gg _ s8 wr => ∃ x : Int, Aside0 (0 ≤ x ∧ x ≤ (l0.length : Int)) ∧ Aside0 (((l0.length : Int) - x).toNat ≤ gg) ∧ s8 = .int .i64 x ∧ Aside0 (Below w.heap.size w wr) ∧ Aside0 (∀ j : Nat, (j : Int) < x → p (l0.getD j z63) = false))
  case atStart => exact ⟨0, ⟨by omega⟩, ⟨by omega⟩, rfl, ⟨Below.refl _ w⟩, ⟨fun j hj => absurd hj (by omega)⟩⟩
  case round =>
    obtain ⟨x, HX, HG, rfl, HB, HQ⟩ := hrel
    by_cases hlt : x < (l0.length : Int)
    · have c3b0 : decide (x < (l0.length : Int)) = true := decide_eq_true hlt
      have HLT := Aside0.mk hlt
      have p1 : 0 ≤ x := HX.out.1
      obtain ⟨ad, ea, hx0, hx1, hx2, hx3, hx4, hx5⟩ := at_T63 (Kd.C_below HR0.out HB.out) x p1 hlt
      cases ea
      have hcall := HP.out wr (rd_T63 l0 x) HB.out
      have HY : Aside0 (rd_T63 l0 x = l0.getD x.toNat z63) := ⟨rfl⟩
      have ew : wrap64 (x + 1) = x + 1 := by unfold wrap64; omega
      have EW := Aside0.mk ew
      clear ew
      replace p1 := eq_true p1
      replace hlt := eq_true hlt
      generalize rd_T63 l0 x = y at hx0 hx1 hx2 hx3 hx4 hx5 hcall HY
      cases hq : p y with
      | true =>
        rw [hq] at hcall
        have HQQ := Aside0.mk hq
        clear hq
        go_wp2_with fail
        refine hcall.mono ?_
        rintro e w' ⟨rfl, hb'⟩
        go_wp2
        go_ret
        refine ⟨?_, hb'⟩
        show Ending.returned (.int .i64 x) = _
        rw [idxOf_hit p l0 z63 x.toNat (by have := HX.out; have := HLT.out; omega) (by rw [← HY.out]; exact HQQ.out) (fun j hj => HQ.out j (by have := HX.out; omega)), Int.toNat_of_nonneg HX.out.1]
      | false =>
        rw [hq] at hcall
        have HQQ := Aside0.mk hq
        clear hq
        go_wp2_with fail
        refine hcall.mono ?_
        rintro e w' ⟨rfl, hb'⟩
        go_wp2
        go_roundg ((l0.length : Int) - (x + 1)).toNat
        case measure => have := HX.out; have := HG.out; have := HLT.out; omega
        case rel =>
          refine ⟨x + 1, ⟨by have := HX.out; have := HLT.out; omega⟩, ⟨Nat.le_refl _⟩, by first | rfl | (rw [EW.out]; done), ⟨hb'⟩, ⟨fun j hj => ?_⟩⟩
          by_cases e : (j : Int) = x
          · obtain rfl : x.toNat = j := by omega
            rw [← HY.out]; exact HQQ.out
          · exact HQ.out j (by omega)
    · have c3b0 : decide (x < (l0.length : Int)) = false := decide_eq_false hlt
      have HLT := Aside0.mk hlt
      clear hlt
      go_wp2
      go_ret
      refine ⟨?_, HB.out⟩
      show Ending.returned (.int .i64 (-1)) = _
      rw [idxOf_miss p l0 z63 (fun j hj => HQ.out j (by have := HX.out; have := HLT.out; omega))]
def impl_foodPlace.f (l0 : List S63) (a1 : Int) : Option Int := some (idxOf (fun x => x.f0 == a1) l0)
set_option maxHeartbeats 4000000 in
set_option maxRecDepth 100000 in
theorem impl_foodPlace.lit (x : S63) (a : Int) (B : Nat) (W : World) (hc : W.cell? ⟨B, 0, none⟩ = some (.int .i64 a)) :
    Calls Try.prog 96 #[.agg #[.int .i64 x.f0, .int .i64 x.f1, .int .i64 x.f2, .int .i64 x.f3, .int .i64 x.f4, .int .i64 x.f5], .pointer (some ⟨B, 0, none⟩)] W fun e w' => e = .returned (.bool (x.f0 == a)) ∧ Below W.heap.size W w' := by
  have hu63 := Try.underlying63
  have hb : B < W.heap.size := World.block_lt_of_cell? W ⟨B, 0, none⟩ hc
  go_enter Try.func96, Try.ntmps96
  go_wp2
  go_ret
  exact ⟨rfl, below_alloc (Below.refl _ _) _⟩
theorem impl_foodPlace.enters : ∀ args w, (callFunc 96 args).run Try.prog w = .ok (.enter 96 args) w := by
  intro args w
  have h1 : Try.f96.name ≠ "runtime.NumGoroutine" := of_decide_eq_true pL
  have hb : ∃ c, Try.f96.body = some c := ⟨_, rfl⟩
  obtain ⟨c, hb⟩ := hb
  simp [callFunc, Try.func96, h1, hb, mark]
set_option maxHeartbeats 4000000 in
set_option maxRecDepth 100000 in
theorem impl_foodPlace.calls (A0 : Option Addr) (c0 : Nat) (l0 : List (S63)) (a1 : Int) (r : Int) (w : World) (hr0 : Kd.C k63 w A0 l0.length l0) (hc0 : l0.length ≤ c0) (h : impl_foodPlace.f l0 a1 = some r) :
    Calls Try.prog 81 #[.slice A0 l0.length c0, .int .i64 a1] w fun e w' => e = .returned (.int .i64 r) ∧ Below w.heap.size w w' := by
  obtain rfl := Option.some.inj h
  have HR0 := Aside0.mk hr0
  have HC0 := Aside0.mk hc0
  clear hr0 hc0 h
  go_enter Try.func81, Try.ntmps81
  go_wp2_with fail
  refine (indexFood (fun x => x.f0 == a1) 96 #[.pointer (some ⟨w.heap.size, 0, none⟩)] impl_foodPlace.enters A0 c0 l0 _ (Kd.C_below HR0.out (below_alloc (Below.refl _ _) _)) HC0.out ?_).mono ?_
  · intro W x hb
    refine (impl_foodPlace.lit x a1 w.heap.size W ?_).mono fun e w' ⟨he, hb'⟩ => ⟨he, Below.trans hb (hb'.mono ?_)⟩
    · rw [hb.cell (p := ⟨w.heap.size, 0, none⟩) (by simp)]
      simp
    · exact hb.size
  rintro e w' ⟨rfl, hb'⟩
  go_wp2
  go_ret
  exact ⟨rfl, below_then (below_alloc (Below.refl _ _) _) (by simp) hb'⟩

end Go.Proofs.Ytclldijjbmnkeaa.Q
