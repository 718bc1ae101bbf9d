-- Written by the kit's print.py for all laws of the seat at once (one namespace), by a program of this session.
import Derived.Test.YtclldijjbmnkeaaQx0
import Derived.Test.YtclldijjbmnkeaaQx1
namespace Go.Proofs.Ytclldijjbmnkeaa.Q
open Go.RowKit Go.Proofs.YtclldijjbmnkeaaW.PrintWords Go.Proofs.YtclldijjbmnkeaaW.PrintLast Go.Proofs.YtclldijjbmnkeaaW.PrintMore
attribute [local go_sem] max2_int min2_int max_two min_two max_three min_three max_four min_four   -- for this text's walks alone
set_option linter.unusedVariables false
set_option linter.unusedSimpArgs false

/-! ### spec_l91Dish: function 99 -/
mutual
def spec_l91Dish.l0 : Nat → List (S29) → List (S63) → Int → Int → List Int → Int → Int → Int → List (S55) → Option (Int × Int × (List (S55)) × Int)
 | 0, _, _, _, _, _, _, _, _, _ => none
 | k + 1, x2, x3, x10, x11, x1000, x1001, x160000, x160001, x160002 => if x11 < x10 then (if (x2.length : Int) > 0 then ((spec_l6Rd_pick.f k x1000 x1001 3).bind fun bt162 => (spec_l91Dish.j1 k x2 x3 x10 x11 (bt162.1 == 0) x1000 bt162.2 x160000 x160001 x160002)) else (spec_l91Dish.j1 k x2 x3 x10 x11 false x1000 x1001 x160000 x160001 x160002)) else (some (x160000, x160001, x160002, x1001))
def spec_l91Dish.j1 : Nat → List (S29) → List (S63) → Int → Int → Bool → List Int → Int → Int → Int → List (S55) → Option (Int × Int × (List (S55)) × Int)
 | 0, _, _, _, _, _, _, _, _, _, _ => none
 | k + 1, x2, x3, x10, x11, x33, x1000, x1001, x160000, x160001, x160002 => if x33 = true then ((spec_l6Rd_pick.f k x1000 x1001 (x2.length : Int)).bind fun bt164 => (if 0 ≤ bt164.1 then (if bt164.1 < (x2.length : Int) then ((spec_l6Rd_pick.f k x1000 bt164.2 9).bind fun bt167 => (if x160002.length < 5864062014805 then (spec_l91Dish.l0 k x2 x3 x10 (wrap64 (x11 + 1)) x1000 bt167.2 x160000 x160001 (x160002 ++ [(⟨0, (rd_T29 x2 bt164.1).f0, wrap64 (1 + bt167.1)⟩ : S55)])) else (none))) else (none)) else (none))) else (if (x3.length : Int) > 0 then ((spec_l6Rd_pick.f k x1000 x1001 (x3.length : Int)).bind fun bt172 => (if 0 ≤ bt172.1 then (if bt172.1 < (x3.length : Int) then ((spec_l6Rd_pick.f k x1000 bt172.2 200).bind fun bt175 => (if x160002.length < 5864062014805 then (spec_l91Dish.l0 k x2 x3 x10 (wrap64 (x11 + 1)) x1000 bt175.2 x160000 x160001 (x160002 ++ [(⟨(rd_T63 x3 bt172.1).f0, 0, wrap64 (1 + bt175.1)⟩ : S55)])) else (none))) else (none)) else (none))) else (spec_l91Dish.l0 k x2 x3 x10 (wrap64 (x11 + 1)) x1000 x1001 x160000 x160001 x160002))
end
def spec_l91Dish.f (k : Nat) (s0_0 : List Int) (s0_1 : Int) (a1 : Int) (l2 : List (S29)) (l3 : List (S63)) : Option (Int × Int × (List (S55)) × Int) := (spec_l6Rd_pick.f k s0_0 s0_1 12).bind fun bt154 => ((spec_l6Rd_pick.f k s0_0 bt154.2 4).bind fun bt160 => (spec_l91Dish.l0 k l2 l3 (wrap64 (1 + bt160.1)) 0 s0_0 bt160.2 a1 (wrap64 (1 + bt154.1)) (([] : List (S55)))))
theorem spec_l91Dish.mono_l : ∀ k, (∀ y0 y1 y2 y3 y4 y5 y6 y7 y8, LeO (spec_l91Dish.l0 k y0 y1 y2 y3 y4 y5 y6 y7 y8) (spec_l91Dish.l0 (k + 1) y0 y1 y2 y3 y4 y5 y6 y7 y8)) ∧ (∀ y0 y1 y2 y3 y4 y5 y6 y7 y8 y9, LeO (spec_l91Dish.j1 k y0 y1 y2 y3 y4 y5 y6 y7 y8 y9) (spec_l91Dish.j1 (k + 1) y0 y1 y2 y3 y4 y5 y6 y7 y8 y9))
 | 0 => ⟨fun _ _ _ _ _ _ _ _ _ r h => by simp [spec_l91Dish.l0] at h, fun _ _ _ _ _ _ _ _ _ _ r h => by simp [spec_l91Dish.j1] at h⟩
 | k + 1 => by
  obtain ⟨ih0, ih1⟩ := spec_l91Dish.mono_l k
  refine ⟨?_, ?_⟩
  ·intro y0 y1 y2 y3 y4 y5 y6 y7 y8
   unfold spec_l91Dish.l0
   repeat' first
   | (with_reducible exact ih0 _ _ _ _ _ _ _ _ _)
   | (with_reducible exact ih1 _ _ _ _ _ _ _ _ _ _)
   | (with_reducible exact spec_l6Rd_pick.mono _ _ _ _)
   | (with_reducible exact LeO.refl _)
   | (with_reducible exact LeO.none _)
   | (with_reducible refine LeO.ite ?_ ?_)
   | (with_reducible refine LeO.bind ?_ (fun _ => ?_))
   | exact ih0 _ _ _ _ _ _ _ _ _
   | exact ih1 _ _ _ _ _ _ _ _ _ _
   | exact spec_l6Rd_pick.mono _ _ _ _
   | exact LeO.none _
   | refine LeO.ite ?_ ?_
   | refine LeO.bind ?_ (fun _ => ?_)
  ·intro y0 y1 y2 y3 y4 y5 y6 y7 y8 y9
   unfold spec_l91Dish.j1
   repeat' first
   | (with_reducible exact ih0 _ _ _ _ _ _ _ _ _)
   | (with_reducible exact ih1 _ _ _ _ _ _ _ _ _ _)
   | (with_reducible exact spec_l6Rd_pick.mono _ _ _ _)
   | (with_reducible exact LeO.refl _)
   | (with_reducible exact LeO.none _)
   | (with_reducible refine LeO.ite ?_ ?_)
   | (with_reducible refine LeO.bind ?_ (fun _ => ?_))
   | exact ih0 _ _ _ _ _ _ _ _ _
   | exact ih1 _ _ _ _ _ _ _ _ _ _
   | exact spec_l6Rd_pick.mono _ _ _ _
   | exact LeO.none _
   | refine LeO.ite ?_ ?_
   | refine LeO.bind ?_ (fun _ => ?_)
theorem spec_l91Dish.mono : ∀ a0 a1 a2 a3 a4 k, LeO (spec_l91Dish.f k a0 a1 a2 a3 a4) (spec_l91Dish.f (k + 1) a0 a1 a2 a3 a4) := by
 intro a0 a1 a2 a3 a4 k
 obtain ⟨ih0, ih1⟩ := spec_l91Dish.mono_l k
 unfold spec_l91Dish.f
 repeat' first
   | (with_reducible exact ih0 _ _ _ _ _ _ _ _ _)
   | (with_reducible exact ih1 _ _ _ _ _ _ _ _ _ _)
   | (with_reducible exact spec_l6Rd_pick.mono _ _ _ _)
   | (with_reducible exact LeO.refl _)
   | (with_reducible exact LeO.none _)
   | (with_reducible refine LeO.ite ?_ ?_)
   | (with_reducible refine LeO.bind ?_ (fun _ => ?_))
   | exact ih0 _ _ _ _ _ _ _ _ _
   | exact ih1 _ _ _ _ _ _ _ _ _ _
   | exact spec_l6Rd_pick.mono _ _ _ _
   | exact LeO.none _
   | refine LeO.ite ?_ ?_
   | refine LeO.bind ?_ (fun _ => ?_)
def spec_l91Dish.T7 : Bool × List (List Nat × List Nat) := (true, [([], []), ([0], [0]), ([], []), ([], []), ([], []), ([4], [4]), ([3, 5], [3, 5]), ([2, 6], [2, 6]), ([7], [7]), ([8], [8]), ([], []), ([10, 6], [10]), ([11], [11]), ([9, 12], [9, 12]), ([13], [13]), ([1, 14, 11], [1, 14]), ([0, 1, 2, 3, 4, 5, 6, 7, 8, 9, 10, 11, 12, 13, 14, 15], []), ([16, 15, 15, 0, 1, 2, 3, 4, 5, 6, 7, 8, 9, 10, 11, 12, 13, 14, 15], [15, 16])])
def spec_l91Dish.B7 : List Nat := [0, 1, 0, 0, 0, 16, 56, 124, 252, 508, 0, 1144, 3192, 8188, 16380, 32767, 65535, 131071]
theorem spec_l91Dish.tab7 : rtab .any (opsOf Try.f99 7) = spec_l91Dish.T7 := by kernel_rfl
theorem spec_l91Dish.bits7 : waitsOk spec_l91Dish.T7.2 spec_l91Dish.B7 = true := by kernel_rfl
def spec_l91Dish.T9 : Bool × List (List Nat × List Nat) := (true, [([], []), ([0], [0]), ([], []), ([], []), ([], []), ([4], [4]), ([3, 5], [3, 5]), ([2, 6], [2, 6]), ([7], [7]), ([8], [8]), ([], []), ([10, 6], [10]), ([11], [11]), ([9, 12], [9, 12]), ([13], [13]), ([1, 14, 11], [1, 14]), ([0, 1, 2, 3, 4, 5, 6, 7, 8, 9, 10, 11, 12, 13, 14, 15], []), ([16, 15, 15, 0, 1, 2, 3, 4, 5, 6, 7, 8, 9, 10, 11, 12, 13, 14, 15], [15, 16])])
def spec_l91Dish.B9 : List Nat := [0, 1, 0, 0, 0, 16, 56, 124, 252, 508, 0, 1144, 3192, 8188, 16380, 32767, 65535, 131071]
theorem spec_l91Dish.tab9 : rtab .any (opsOf Try.f99 9) = spec_l91Dish.T9 := by kernel_rfl
theorem spec_l91Dish.bits9 : waitsOk spec_l91Dish.T9.2 spec_l91Dish.B9 = true := by kernel_rfl
@[reducible] def F99.b0 : Array Bool := #[true, true, true, true, true, true, true, false, false, false, true, false, false, false, false, false, false, false]
@[reducible] def F99.b1 : Array Bool := #[true, true, true, true, true, true, true, true, true, true, true, true, false, false, false, false, false, false]
@[reducible] def F99.b2 : Array Bool := #[true, true, true, true, true, true, true, true, true, true, true, true, true, true, true, false, false, false]
theorem F99.q0 {P : Prop} (h : P := by repeat (first | (with_reducible first | exact HK.out | apply KeepBut.set_ | apply keep_drewN | apply keep_drew | apply keep_alloc | refine keep_far ?_ GW153.out _ | refine keep_far ?_ GW159.out _) | exact HK.out)) : P := h
theorem F99.q1 {P : Prop} (h : P := by repeat (first | (with_reducible first | exact HB.out | apply below_alloc | apply pw_below_drewN | apply below_drew1 | refine below_set ?_ (IsS99.ge HI0.out) | refine below_set ?_ GE153.out | refine below_set ?_ GE159.out) | exact HB.out)) : P := h
theorem F99.q2 {P : Prop} (h : P := by repeat (first | (with_reducible first | exact HI0.out | apply IsS99.alloc | apply IsS99.drewN | apply IsS99.drew | apply IsS99.set_1 | refine IsS99.far ?_ NB0_153.out _ | refine IsS99.far ?_ NB0_159.out _) | exact HI0.out)) : P := h
theorem F99.q3 {P : Prop} (h : P := by repeat (first | (with_reducible first | exact HK.out | apply KeepBut.set_ | apply keep_drewN | apply keep_drew | apply keep_alloc | refine keep_far ?_ GW153.out _) | exact HK.out)) : P := h
set_option maxHeartbeats 8000000 in
set_option maxRecDepth 100000 in
theorem spec_l91Dish.calls (k : Nat) (g : Nat) (s0_0 : List Int) (s0_1 : Int) (a1 : Int) (A2 : Option Addr) (c2 : Nat) (l2 : List (S29)) (A3 : Option Addr) (c3 : Nat) (l3 : List (S63)) (r1 : Int) (r2 : Int) (r3 : List (S55)) (r4 : Int) (w0 w : World) (hI : IsS99 w0 w g s0_0 s0_1) (hB : Below w0.heap.size w0 w) (hr2 : ∀ W_, KeepBut w W_ g none → Kd.C k29 W_ A2 l2.length l2) (hc2 : l2.length ≤ c2) (hr3 : ∀ W_, KeepBut w W_ g none → Kd.C k63 W_ A3 l3.length l3) (hc3 : l3.length ≤ c3) (h : spec_l91Dish.f k s0_0 s0_1 a1 l2 l3 = some (r1, r2, r3, r4)) :
  Calls Try.prog 99 #[.pointer (some ⟨g, 0, none⟩), .int .i64 a1, .slice A2 l2.length c2, .slice A3 l3.length c3] w fun e w' => ∃ v2_ : Value, e = .returned (.agg #[.int .i64 r1, .int .i64 r2, v2_]) ∧ Kd.R k55 55 w' w.heap.size (fun _ => True) v2_ r3 ∧ IsS99 w0 w' g s0_0 r4 ∧ Below w0.heap.size w0 w' ∧ KeepBut w w' g none := by
 have hu29 := Try.underlying29
 have hu55 := Try.underlying55
 have HR2 := Aside0.mk hr2
 have HC2 := Aside0.mk hc2
 clear hr2 hc2
 have HR3 := Aside0.mk hr3
 have HC3 := Aside0.mk hc3
 clear hr3 hc3
 have HI0 := Aside0.mk hI
 have HK := Aside0.mk (KeepBut.refl w g none)
 have HL := Aside0.mk hB.size
 clear hI
 have HW0 := Aside0.mk hB.size
 have HB := Aside0.mk hB
 clear hB
 have H : ((spec_l6Rd_pick.f k s0_0 s0_1 12).bind fun bt154 => ((spec_l6Rd_pick.f k s0_0 bt154.2 4).bind fun bt160 => (spec_l91Dish.l0 k l2 l3 (wrap64 (1 + bt160.1)) 0 s0_0 bt160.2 a1 (wrap64 (1 + bt154.1)) (([] : List (S55)))))) = some (r1, r2, r3, r4) := h
 clear h
 replace H := Option.bind_eq_some_iff.mp H
 obtain ⟨⟨t154, t155⟩, A50, H⟩ := H
 replace H : ((spec_l6Rd_pick.f k s0_0 t155 4).bind fun bt160 => (spec_l91Dish.l0 k l2 l3 (wrap64 (1 + bt160.1)) 0 s0_0 bt160.2 a1 (wrap64 (1 + t154)) (([] : List (S55))))) = some (r1, r2, r3, r4) := H
 have A5 := Aside0.mk A50
 clear A50
 obtain ⟨y156, hy156⟩ : ∃ y_ : List (S55), y_ = (([] : List (S55))) := ⟨_, rfl⟩
 replace H : ((spec_l6Rd_pick.f k s0_0 t155 4).bind fun bt160 => (spec_l91Dish.l0 k l2 l3 (wrap64 (1 + bt160.1)) 0 s0_0 bt160.2 a1 (wrap64 (1 + t154)) y156)) = some (r1, r2, r3, r4) := pJ hy156 H
 have Ny156 := Aside0.mk hy156
 clear hy156
 replace H := Option.bind_eq_some_iff.mp H
 obtain ⟨⟨t160, t161⟩, A60, H⟩ := H
 replace H : (spec_l91Dish.l0 k l2 l3 (wrap64 (1 + t160)) 0 s0_0 t161 a1 (wrap64 (1 + t154)) y156) = some (r1, r2, r3, r4) := H
 have A6 := Aside0.mk A60
 clear A60
 have H' := Aside0.mk H
 clear H
 go_enter Try.func99, Try.ntmps99
 go_wp2_with (first | ((with_reducible refine gate_dst (N := 8) rfl ?_); refine box_event ?hg (N := 8) ?hd (cs := #[.int .i64 0, .int .i64 0, .slice none 0 0]) (t := 29) ?hr ?_; (case hd => rfl); (case hg => rfl); (case hr => first | (go_simp; done) | (go_simp; rfl)); intro gb153 hg w7 hbox hb; have n0_ := Aside0.mk (IsS99.below (by repeat (first | (with_reducible first | exact HI0.out | apply IsS99.alloc | apply IsS99.drewN | apply IsS99.drew | apply IsS99.set_1) | exact HI0.out)) hb); have n1_ := Aside0.mk (KeepBut.trans pK (KeepBut.of_below hb g none) (.inl rfl)); have n2_ := Aside0.mk (below_step (by repeat (first | (with_reducible first | exact HB.out | apply below_alloc | apply pw_below_drewN | apply below_drew1 | refine below_set ?_ (IsS99.ge HI0.out)) | exact HB.out)) hb); have n3_ := Aside0.mk (hbox); have n4_ := Aside0.mk ((by rw [hg]; exact (keep_size (w := w) (g := g) (row := none) pK) : w.heap.size ≤ gb153)); have n5_ := Aside0.mk ((Nat.le_trans HW0.out (by rw [hg]; exact (keep_size (w := w) (g := g) (row := none) pK) : w.heap.size ≤ gb153) : w0.heap.size ≤ gb153)); have n6_ := Aside0.mk ((by rw [hg]; exact Nat.ne_of_lt (IsS99.lt (show IsS99 w0 _ g s0_0 s0_1 from by repeat (first | (with_reducible first | exact HI0.out | apply IsS99.alloc | apply IsS99.drewN | apply IsS99.drew | apply IsS99.set_1) | exact HI0.out))) : g ≠ gb153)); have n7_ := Aside0.mk ((by rw [hg]; exact Nat.ne_of_gt (IsS99.lt (show IsS99 w0 _ g s0_0 s0_1 from by repeat (first | (with_reducible first | exact HI0.out | apply IsS99.alloc | apply IsS99.drewN | apply IsS99.drew | apply IsS99.set_1) | exact HI0.out))) : gb153 ≠ g)); clear HI0; clear HK; clear HB; have HI0 := n0_; have HK := n1_; have HB := n2_; have BK153 := n3_; have GW153 := n4_; have GE153 := n5_; have NB0_153 := n6_; have NB153_0 := n7_; clear n0_ n1_ n2_ n3_ n4_ n5_ n6_ n7_; clear hb hbox hg) | ((with_reducible refine gate_callee (f := 55) rfl ?_); refine goesL_ (some 14) rfl rfl Try.func55 pL rfl #[.pointer (some ⟨g, 0, none⟩), .int .i64 12] rfl pM ?_; (with_reducible refine (spec_l6Rd_pick.calls k g s0_0 s0_1 12 t154 t155 w0 _ ?side1 ?side2 A5.out).mono ?_); (case side1 => repeat (first | (with_reducible first | exact HI0.out | apply IsS99.alloc | apply IsS99.drewN | apply IsS99.drew | apply IsS99.set_1 | refine IsS99.far ?_ NB0_153.out _) | exact HI0.out)); (case side2 => repeat (first | (with_reducible first | exact HB.out | apply below_alloc | apply pw_below_drewN | apply below_drew1 | refine below_set ?_ (IsS99.ge HI0.out) | refine below_set ?_ GE153.out) | exact HB.out)); rintro e w8 ⟨rfl, hi, hb, hk⟩; refine ⟨_, rfl, ?_⟩; have n0_ := Aside0.mk (KeepBut.blk hk (g' := gb153) (o := .cells #[.int .i64 0, .int .i64 0, .slice none 0 0] 29 (0, 0)) (pC BK153) NB153_0.out (by simp)); have n1_ := Aside0.mk (KeepBut.trans F99.q3 hk (.inl rfl)); have n2_ := Aside0.mk (hb); have n3_ := Aside0.mk (hi); clear BK153; clear HK; clear HB; clear HI0; have BK153 := n0_; have HK := n1_; have HB := n2_; have HI0 := n3_; clear n0_ n1_ n2_ n3_; (try clear hb); (try clear hb2); (try clear hk); (try clear hi)) | ((with_reducible refine gate_dst (N := 16) rfl ?_); refine Kd.R_lit k55 _ 55 ?hg (N := 16) ?hd (xs := ([] : List (S55))) (inner := []) (ok := fun _ => True) (okp := fun _ => True) ?hr ?hp (fun _ hk => hk) trivial (Below.refl _ _) (Nat.le_refl _) (by simp) ?_; (case hd => rfl); (case hg => rfl); (case hr => first | (go_simp; done) | (go_simp; rfl)); (case hp => exact (Reps.none _ _)); intro v157 w9 ho10 hb hg_ hnew_; clear hg_ hnew_; (first | rw [← Ny156.out] at ho10 | (simp only [Int.reduceToNat] at ho10; rw [← Ny156.out] at ho10)); have n0_ := Aside0.mk (Kd.R_lower ho10 (keep_size (w := w) (g := g) (row := none) F99.q3)); have n1_ := Aside0.mk (IsS99.below (by repeat (first | (with_reducible first | exact HI0.out | apply IsS99.alloc | apply IsS99.drewN | apply IsS99.drew | apply IsS99.set_1 | refine IsS99.far ?_ NB0_153.out _) | exact HI0.out)) hb); have n2_ := Aside0.mk (blk_below (g := gb153) (o := .cells #[.int .i64 0, .int .i64 0, .slice none 0 0] 29 (0, 0)) (pC BK153) hb); have n3_ := Aside0.mk (KeepBut.trans F99.q3 (KeepBut.of_below hb g none) (.inl rfl)); have n4_ := Aside0.mk (below_step (by repeat (first | (with_reducible first | exact HB.out | apply below_alloc | apply pw_below_drewN | apply below_drew1 | refine below_set ?_ (IsS99.ge HI0.out) | refine below_set ?_ GE153.out) | exact HB.out)) hb); clear HI0; clear BK153; clear HK; clear HB; have HO158 := n0_; have HI0 := n1_; have BK153 := n2_; have HK := n3_; have HB := n4_; clear n0_ n1_ n2_ n3_ n4_; clear hb ho10; obtain ⟨Ao11, co11, eo11⟩ := Kd.R_slice HO158.out; subst eo11) | ((with_reducible refine gate_dst (N := 9) rfl ?_); refine box_event ?hg (N := 9) ?hd (cs := #[.int .i64 0, .int .i64 0, .slice none 0 0]) (t := 29) ?hr ?_; (case hd => rfl); (case hg => rfl); (case hr => first | (go_simp; done) | (go_simp; rfl)); intro gb159 hg w12 hbox hb; have n0_ := Aside0.mk (Kd.R_below (pR HO158) hb); have n1_ := Aside0.mk (IsS99.below (by repeat (first | (with_reducible first | exact HI0.out | apply IsS99.alloc | apply IsS99.drewN | apply IsS99.drew | apply IsS99.set_1 | refine IsS99.far ?_ NB0_153.out _) | exact HI0.out)) hb); have n2_ := Aside0.mk (blk_below (g := gb153) (o := .cells #[.int .i64 0, .int .i64 0, .slice none 0 0] 29 (0, 0)) (pC BK153) hb); have n3_ := Aside0.mk (KeepBut.trans F99.q3 (KeepBut.of_below hb g none) (.inl rfl)); have n4_ := Aside0.mk (below_step (by repeat (first | (with_reducible first | exact HB.out | apply below_alloc | apply pw_below_drewN | apply below_drew1 | refine below_set ?_ (IsS99.ge HI0.out) | refine below_set ?_ GE153.out) | exact HB.out)) hb); have n5_ := Aside0.mk (hbox); have n6_ := Aside0.mk ((by rw [hg]; exact (keep_size (w := w) (g := g) (row := none) F99.q3) : w.heap.size ≤ gb159)); have n7_ := Aside0.mk ((Nat.le_trans HW0.out (by rw [hg]; exact (keep_size (w := w) (g := g) (row := none) F99.q3) : w.heap.size ≤ gb159) : w0.heap.size ≤ gb159)); have n8_ := Aside0.mk ((by rw [hg]; exact Nat.ne_of_lt (blk_lt (g := gb153) (o := .cells #[.int .i64 0, .int .i64 0, .slice none 0 0] 29 (0, 0)) (pC BK153)) : gb153 ≠ gb159)); have n9_ := Aside0.mk ((by rw [hg]; exact Nat.ne_of_gt (blk_lt (g := gb153) (o := .cells #[.int .i64 0, .int .i64 0, .slice none 0 0] 29 (0, 0)) (pC BK153)) : gb159 ≠ gb153)); have n10_ := Aside0.mk ((by rw [hg]; exact Nat.ne_of_lt (IsS99.lt (show IsS99 w0 _ g s0_0 t155 from by repeat (first | (with_reducible first | exact HI0.out | apply IsS99.alloc | apply IsS99.drewN | apply IsS99.drew | apply IsS99.set_1 | refine IsS99.far ?_ NB0_153.out _) | exact HI0.out))) : g ≠ gb159)); have n11_ := Aside0.mk ((by rw [hg]; exact Nat.ne_of_gt (IsS99.lt (show IsS99 w0 _ g s0_0 t155 from by repeat (first | (with_reducible first | exact HI0.out | apply IsS99.alloc | apply IsS99.drewN | apply IsS99.drew | apply IsS99.set_1 | refine IsS99.far ?_ NB0_153.out _) | exact HI0.out))) : gb159 ≠ g)); clear HO158; clear HI0; clear BK153; clear HK; clear HB; have HO158 := n0_; have HI0 := n1_; have BK153 := n2_; have HK := n3_; have HB := n4_; have BK159 := n5_; have GW159 := n6_; have GE159 := n7_; have NB153_159 := n8_; have NB159_153 := n9_; have NB0_159 := n10_; have NB159_0 := n11_; clear n0_ n1_ n2_ n3_ n4_ n5_ n6_ n7_ n8_ n9_ n10_ n11_; clear hb hbox hg; have hnb13 := NB159_153.out; have hnc13 := NB153_159.out; have hnb14 := NB159_0.out; have hnc14 := NB0_159.out; have hcz15_0 : w12.cell? ⟨gb159, 0, none⟩ = some (.int .i64 0) := (blk_cell BK159.out 0).trans rfl; have hcz15_1 : w12.cell? ⟨gb159, 1, none⟩ = some (.int .i64 0) := (blk_cell BK159.out 1).trans rfl; have hcz15_2 : w12.cell? ⟨gb159, 2, none⟩ = some (.slice none 0 0) := (blk_cell BK159.out 2).trans rfl; have hfz15_0 := blk_frozen BK159.out 0; have hfz15_1 := blk_frozen BK159.out 1; have hfz15_2 := blk_frozen BK159.out 2) | ((with_reducible refine gate_callee (f := 55) rfl ?_); refine goesL_ (some 19) rfl rfl Try.func55 pL rfl #[.pointer (some ⟨g, 0, none⟩), .int .i64 4] rfl pM ?_; (with_reducible refine (spec_l6Rd_pick.calls k g s0_0 t155 4 t160 t161 w0 _ ?side1 ?side2 A6.out).mono ?_); (case side1 => exact F99.q2); (case side2 => exact F99.q1); rintro e w16 ⟨rfl, hi, hb, hk⟩; refine ⟨_, rfl, ?_⟩; have n0_ := Aside0.mk (KeepBut.blk hk (g' := gb153) (o := .cells #[.int .i64 0, .int .i64 0, .slice none 0 0] 29 (0, 0)) (by (with_reducible repeat (first | refine blk_drewN ?_ _ | refine blk_drew ?_ | refine blk_alloc ?_ _)); refine blk_far ?_ NB153_159.out _; (with_reducible repeat (first | refine blk_drewN ?_ _ | refine blk_drew ?_ | refine blk_alloc ?_ _)); refine blk_far ?_ NB153_159.out _; (with_reducible repeat (first | refine blk_drewN ?_ _ | refine blk_drew ?_ | refine blk_alloc ?_ _)); refine blk_far ?_ NB153_159.out _; (with_reducible repeat (first | refine blk_drewN ?_ _ | refine blk_drew ?_ | refine blk_alloc ?_ _)); exact BK153.out) NB153_0.out (by simp)); have n1_ := Aside0.mk (Kd.R_mono (Kd.R_keep (IsS99.apart (show IsS99 w0 _ g s0_0 t155 from F99.q2) (by (with_reducible repeat (first | apply Kd.R_alloc | apply Kd.R_drewN | apply Kd.R_drew)); exact (Kd.R_mono (Kd.R_far (p := ⟨gb159, 2, none⟩) (Kd.R_far (p := ⟨gb159, 1, none⟩) (Kd.R_far (p := ⟨gb159, 0, none⟩) (Kd.R_types HO158.out BK159.out (by decide)) (fun _ hk => hk.2) (.int .i64 a1)) (fun _ hk => hk.2) (.int .i64 (wrap64 (1 + t154)))) (fun _ hk => hk.2) (.slice Ao11 y156.length co11)) (fun _ h_ => h_.1))) (by decide)) hk (fun _ h => h.2)) (fun _ h => h.1)); have n2_ := Aside0.mk (KeepBut.blk hk (g' := gb159) (o := .cells #[.int .i64 a1, .int .i64 (wrap64 (1 + t154)), .slice Ao11 y156.length co11] 29 (0, 0)) (by (with_reducible repeat (first | refine blk_drewN ?_ _ | refine blk_drew ?_ | refine blk_alloc ?_ _)); refine blk_put (cs := #[.int .i64 a1, .int .i64 (wrap64 (1 + t154)), .slice none 0 0]) ?_ 2 _ rfl; (with_reducible repeat (first | refine blk_drewN ?_ _ | refine blk_drew ?_ | refine blk_alloc ?_ _)); refine blk_put (cs := #[.int .i64 a1, .int .i64 0, .slice none 0 0]) ?_ 1 _ rfl; (with_reducible repeat (first | refine blk_drewN ?_ _ | refine blk_drew ?_ | refine blk_alloc ?_ _)); refine blk_put (cs := #[.int .i64 0, .int .i64 0, .slice none 0 0]) ?_ 0 _ rfl; (with_reducible repeat (first | refine blk_drewN ?_ _ | refine blk_drew ?_ | refine blk_alloc ?_ _)); exact BK159.out) NB159_0.out (by simp)); have n3_ := Aside0.mk (KeepBut.trans F99.q0 hk (.inl rfl)); have n4_ := Aside0.mk (hb); have n5_ := Aside0.mk (hi); clear BK153; clear HO158; clear BK159; clear HK; clear HB; clear HI0; have BK153 := n0_; have HO158 := n1_; have BK159 := n2_; have HK := n3_; have HB := n4_; have HI0 := n5_; clear n0_ n1_ n2_ n3_ n4_ n5_; (try clear hb); (try clear hb2); (try clear hk); (try clear hi)))
 go_loopg [11] k (fun kq v11 w' => ∃ (x11_1 : Int) (x1001_1 : Int) (x160002_1 : List (S55)) (u160002 : Value), v11 = .int .i64 x11_1 ∧ Aside0 (spec_l91Dish.l0 kq l2 l3 (wrap64 (1 + t160)) x11_1 s0_0 x1001_1 a1 (wrap64 (1 + t154)) x160002_1 = some (r1, r2, r3, r4)) ∧ Aside0 (kq ≤ k) ∧ Aside0 (Kd.R k55 55 w' w.heap.size (fun _ => True) u160002 x160002_1) ∧ Aside0 (w'.heap[gb153]? = some (.cells #[.int .i64 0, .int .i64 0, (.slice none 0 0)] 29 (0, 0))) ∧ Aside0 (w'.heap[gb159]? = some (.cells #[.int .i64 a1, .int .i64 (wrap64 (1 + t154)), u160002] 29 (0, 0))) ∧ Aside0 (IsS99 w0 w' g s0_0 x1001_1) ∧ Aside0 (KeepBut w w' g none) ∧ Aside0 (Below w0.heap.size w0 w'))
 case atStart => exact ⟨(0), (t161), (y156), (.slice Ao11 y156.length co11), pF, H', ⟨Nat.le_refl _⟩, ⟨pR HO158⟩, ⟨pC BK153⟩, ⟨pC BK159⟩, ⟨by repeat (first | (with_reducible first | exact HI0.out | apply IsS99.alloc | apply IsS99.drewN | apply IsS99.drew | apply IsS99.set_1 | refine IsS99.far ?_ NB0_153.out _ | refine IsS99.far ?_ NB0_159.out _) | exact HI0.out)⟩, ⟨by repeat (first | (with_reducible first | exact HK.out | apply KeepBut.set_ | apply keep_drewN | apply keep_drew | apply keep_alloc | refine keep_far ?_ GW153.out _ | refine keep_far ?_ GW159.out _) | exact HK.out)⟩, ⟨by repeat (first | (with_reducible first | exact HB.out | apply below_alloc | apply pw_below_drewN | apply below_drew1 | refine below_set ?_ (IsS99.ge HI0.out) | refine below_set ?_ GE153.out | refine below_set ?_ GE159.out) | exact HB.out)⟩⟩
 case round =>
  clear H'
  try clear c1
  try clear c2
  try clear p2
  try clear c3
  try clear c5
  try clear p6
  try clear c9
  try clear c13
  try clear c14
  try clear hcz15_0
  try clear hcz15_1
  try clear hcz15_2
  try clear hfz15_0
  try clear hfz15_1
  try clear hfz15_2
  obtain ⟨x11_1, x1001_1, x160002_1, u160002, rfl, HA, HK1, HO_160002, BK153, BK159, HI0, HK, HB⟩ := hrel
  cases gk with
  | zero => exact absurd HA.out (by simp [spec_l91Dish.l0])
  | succ k1 =>
   have H := HA.out
   clear HA
   simp only [spec_l91Dish.l0] at H
   rcases (Classical.em (x11_1 < (wrap64 (1 + t160)))).symm with c17 | c17
   ·rw [if_neg c17] at H
    have c17b0 : decide (x11_1 < (wrap64 (1 + t160))) = false := decide_eq_false c17
    clear c17
    simp only [Option.some.injEq, Prod.mk.injEq] at H
    obtain ⟨rfl, rfl, rfl, rfl⟩ := H
    have hnb46 := NB159_153.out
    have hnc46 := NB153_159.out
    have hnb47 := NB159_0.out
    have hnc47 := NB0_159.out
    have hcz48_0 : wr.cell? ⟨gb159, 0, none⟩ = some (.int .i64 a1) := (blk_cell BK159.out 0).trans rfl
    have hcz48_1 : wr.cell? ⟨gb159, 1, none⟩ = some (.int .i64 (wrap64 (1 + t154))) := (blk_cell BK159.out 1).trans rfl
    have hcz48_2 : wr.cell? ⟨gb159, 2, none⟩ = some (u160002) := (blk_cell BK159.out 2).trans rfl
    have hfz48_0 := blk_frozen BK159.out 0
    have hfz48_1 := blk_frozen BK159.out 1
    have hfz48_2 := blk_frozen BK159.out 2
    have hnb49 := NB153_0.out
    have hnc49 := NB0_153.out
    have hcz50_0 : wr.cell? ⟨gb153, 0, none⟩ = some (.int .i64 0) := (blk_cell BK153.out 0).trans rfl
    have hcz50_1 : wr.cell? ⟨gb153, 1, none⟩ = some (.int .i64 0) := (blk_cell BK153.out 1).trans rfl
    have hcz50_2 : wr.cell? ⟨gb153, 2, none⟩ = some (.slice none 0 0) := (blk_cell BK153.out 2).trans rfl
    have hfz50_0 := blk_frozen BK153.out 0
    have hfz50_1 := blk_frozen BK153.out 1
    have hfz50_2 := blk_frozen BK153.out 2
    obtain ⟨Ao51, co51, eo51⟩ := Kd.R_slice HO_160002.out
    subst eo51
    go_wp2
    refine bodyPost_ret (results_cell_row rfl _ _ gb153 29 #[.int .i64 a1, .int .i64 (wrap64 (1 + t154)), .slice Ao51 x160002_1.length co51] (0, 0) _ rfl (by (with_reducible repeat (first | refine blk_drewN ?_ _ | refine blk_drew ?_ | refine blk_alloc ?_ _)); refine blk_put (cs := #[.int .i64 a1, .int .i64 (wrap64 (1 + t154)), .slice none 0 0]) ?_ 2 _ rfl; (with_reducible repeat (first | refine blk_drewN ?_ _ | refine blk_drew ?_ | refine blk_alloc ?_ _)); refine blk_put (cs := #[.int .i64 a1, .int .i64 0, .slice none 0 0]) ?_ 1 _ rfl; (with_reducible repeat (first | refine blk_drewN ?_ _ | refine blk_drew ?_ | refine blk_alloc ?_ _)); refine blk_put (cs := #[.int .i64 0, .int .i64 0, .slice none 0 0]) ?_ 0 _ rfl; (with_reducible repeat (first | refine blk_drewN ?_ _ | refine blk_drew ?_ | refine blk_alloc ?_ _)); exact BK153.out) Try.underlying29 rfl pL) rfl ?_
    exact ⟨_, pE, by (with_reducible repeat (first | apply Kd.R_alloc | apply Kd.R_drewN | apply Kd.R_drew)); exact Kd.R_mono (Kd.R_far (p := ⟨gb153, 2, none⟩) (Kd.R_far (p := ⟨gb153, 1, none⟩) (Kd.R_far (p := ⟨gb153, 0, none⟩) (Kd.R_types HO_160002.out BK153.out (by decide)) (fun _ hk => hk.2) (.int .i64 a1)) (fun _ hk => hk.2) (.int .i64 (wrap64 (1 + t154)))) (fun _ hk => hk.2) (.slice Ao51 x160002_1.length co51)) (fun _ hk => trivial), by repeat (first | (with_reducible first | exact HI0.out | apply IsS99.alloc | apply IsS99.drewN | apply IsS99.drew | apply IsS99.set_1 | refine IsS99.far ?_ NB0_153.out _ | refine IsS99.far ?_ NB0_159.out _) | exact HI0.out), by repeat (first | (with_reducible first | exact HB.out | apply below_alloc | apply pw_below_drewN | apply below_drew1 | refine below_set ?_ (IsS99.ge HI0.out) | refine below_set ?_ GE153.out | refine below_set ?_ GE159.out) | exact HB.out), by repeat (first | (with_reducible first | exact HK.out | apply KeepBut.set_ | apply keep_drewN | apply keep_drew | apply keep_alloc | refine keep_far ?_ GW153.out _ | refine keep_far ?_ GW159.out _) | exact HK.out)⟩

   rw [if_pos c17] at H
   have c17b0 : decide (x11_1 < (wrap64 (1 + t160))) = true := decide_eq_true c17
   clear c17
   have HC18 := Aside0.mk H
   clear H
   go_upto_region 6 with (fail)
   go_cut [33] (fun v33 wc => ∃ (kq : Nat) (x33_17 : Bool) (x1001_17 : Int), v33 = .bool x33_17 ∧ Aside0 (spec_l91Dish.j1 kq l2 l3 (wrap64 (1 + t160)) x11_1 x33_17 s0_0 x1001_17 a1 (wrap64 (1 + t154)) x160002_1 = some (r1, r2, r3, r4)) ∧ Aside0 (kq ≤ k1) ∧ Aside0 (Kd.R k55 55 wc w.heap.size (fun _ => True) u160002 x160002_1) ∧ Aside0 (wc.heap[gb153]? = some (.cells #[.int .i64 0, .int .i64 0, (.slice none 0 0)] 29 (0, 0))) ∧ Aside0 (wc.heap[gb159]? = some (.cells #[.int .i64 a1, .int .i64 (wrap64 (1 + t154)), u160002] 29 (0, 0))) ∧ Aside0 (IsS99 w0 wc g s0_0 x1001_17) ∧ Aside0 (KeepBut w wc g none) ∧ Aside0 (Below w0.heap.size w0 wc))
   case first =>
    have H := HC18.out
    clear HC18
    rcases (Classical.em ((l2.length : Int) > 0)).symm with c19 | c19
    ·rw [if_neg c19] at H
     have c19b0 : decide (0 < (l2.length : Int)) = false := decide_eq_false c19
     have c19b1 : decide (0 < l2.length) = false := decide_eq_false (by omega)
     clear c19
     (first | rw [c19b0] | (simp only [i64_w, i32_w]; rw [c19b0]) | skip)
     have H' := Aside0.mk H
     clear H
     go_wp2
     go_meet
     case rel => exact ⟨_, (false), (x1001_1), pF, H', ⟨by have := HK1.out; first | omega | exact Nat.le_refl _⟩, ⟨pR HO_160002⟩, ⟨pC BK153⟩, ⟨pC BK159⟩, ⟨by repeat (first | (with_reducible first | exact HI0.out | apply IsS99.alloc | apply IsS99.drewN | apply IsS99.drew | apply IsS99.set_1 | refine IsS99.far ?_ NB0_153.out _ | refine IsS99.far ?_ NB0_159.out _) | exact HI0.out)⟩, ⟨by repeat (first | (with_reducible first | exact HK.out | apply KeepBut.set_ | apply keep_drewN | apply keep_drew | apply keep_alloc | refine keep_far ?_ GW153.out _ | refine keep_far ?_ GW159.out _) | exact HK.out)⟩, ⟨by repeat (first | (with_reducible first | exact HB.out | apply below_alloc | apply pw_below_drewN | apply below_drew1 | refine below_set ?_ (IsS99.ge HI0.out) | refine below_set ?_ GE153.out | refine below_set ?_ GE159.out) | exact HB.out)⟩⟩
    rw [if_pos c19] at H
    have c19b0 : decide (0 < (l2.length : Int)) = true := decide_eq_true c19
    have c19b1 : decide (0 < l2.length) = true := decide_eq_true (by omega)
    clear c19
    (first | rw [c19b0] | (simp only [i64_w, i32_w]; rw [c19b0]) | skip)
    replace H := Option.bind_eq_some_iff.mp H
    obtain ⟨⟨t162, t163⟩, A200, H⟩ := H
    replace H : (spec_l91Dish.j1 k1 l2 l3 (wrap64 (1 + t160)) x11_1 (t162 == 0) s0_0 t163 a1 (wrap64 (1 + t154)) x160002_1) = some (r1, r2, r3, r4) := H
    have A20 := Aside0.mk A200
    clear A200
    have H' := Aside0.mk H
    clear H
    go_wp2_with (first | (go_at_call 55; (with_reducible refine (spec_l6Rd_pick.calls k1 g s0_0 x1001_1 3 t162 t163 w0 _ ?side1 ?side2 A20.out).mono ?_); (case side1 => exact F99.q2); (case side2 => exact F99.q1); rintro e w21 ⟨rfl, hi, hb, hk⟩; have n0_ := Aside0.mk (Kd.R_mono (Kd.R_keep (IsS99.apart (show IsS99 w0 _ g s0_0 x1001_1 from F99.q2) (pR HO_160002) (by decide)) hk (fun _ h => h.2)) (fun _ h => h.1)); have n1_ := Aside0.mk (KeepBut.blk hk (g' := gb153) (o := .cells #[.int .i64 0, .int .i64 0, .slice none 0 0] 29 (0, 0)) (pC BK153) NB153_0.out (by simp)); have n2_ := Aside0.mk (KeepBut.blk hk (g' := gb159) (o := .cells #[.int .i64 a1, .int .i64 (wrap64 (1 + t154)), u160002] 29 (0, 0)) (pC BK159) NB159_0.out (by simp)); have n3_ := Aside0.mk (KeepBut.trans F99.q0 hk (.inl rfl)); have n4_ := Aside0.mk (hb); have n5_ := Aside0.mk (hi); clear HO_160002; clear BK153; clear BK159; clear HK; clear HB; clear HI0; have HO_160002 := n0_; have BK153 := n1_; have BK159 := n2_; have HK := n3_; have HB := n4_; have HI0 := n5_; clear n0_ n1_ n2_ n3_ n4_ n5_; (try clear hb); (try clear hb2); (try clear hk); (try clear hi)))
    go_meet
    case rel => exact ⟨_, ((t162 == 0)), (t163), pF, H', ⟨by have := HK1.out; first | omega | exact Nat.le_refl _⟩, ⟨pR HO_160002⟩, ⟨pC BK153⟩, ⟨pC BK159⟩, ⟨by repeat (first | (with_reducible first | exact HI0.out | apply IsS99.alloc | apply IsS99.drewN | apply IsS99.drew | apply IsS99.set_1 | refine IsS99.far ?_ NB0_153.out _ | refine IsS99.far ?_ NB0_159.out _) | exact HI0.out)⟩, ⟨by repeat (first | (with_reducible first | exact HK.out | apply KeepBut.set_ | apply keep_drewN | apply keep_drew | apply keep_alloc | refine keep_far ?_ GW153.out _ | refine keep_far ?_ GW159.out _) | exact HK.out)⟩, ⟨by repeat (first | (with_reducible first | exact HB.out | apply below_alloc | apply pw_below_drewN | apply below_drew1 | refine below_set ?_ (IsS99.ge HI0.out) | refine below_set ?_ GE153.out | refine below_set ?_ GE159.out) | exact HB.out)⟩⟩
   case rest =>
    clear HC18
    try clear c1
    try clear c2
    try clear p2
    try clear c3
    try clear c5
    try clear p6
    try clear c9
    try clear c13
    try clear c14
    try clear c17
    try clear c17b0
    try clear c19
    try clear c19b0
    try clear c19b1
    try clear hcz15_0
    try clear hcz15_1
    try clear hcz15_2
    try clear hfz15_0
    try clear hfz15_1
    try clear hfz15_2
    try clear p2
    try clear p6
    obtain ⟨kq, x33_17, x1001_17, rfl, HA, HJ17, HO_160002, BK153, BK159, HI0, HK, HB⟩ := hcut
    cases kq with
    | zero => exact absurd HA.out (by simp [spec_l91Dish.j1])
    | succ kj17 =>
     have H := HA.out
     clear HA
     simp only [spec_l91Dish.j1] at H
     by_cases c22 : x33_17 = true
     ·subst c22
      have H1 : ((spec_l6Rd_pick.f kj17 s0_0 x1001_17 (l2.length : Int)).bind fun bt164 => (if 0 ≤ bt164.1 then (if bt164.1 < (l2.length : Int) then ((spec_l6Rd_pick.f kj17 s0_0 bt164.2 9).bind fun bt167 => (if x160002_1.length < 5864062014805 then (spec_l91Dish.l0 kj17 l2 l3 (wrap64 (1 + t160)) (wrap64 (x11_1 + 1)) s0_0 bt167.2 a1 (wrap64 (1 + t154)) (x160002_1 ++ [(⟨0, (rd_T29 l2 bt164.1).f0, wrap64 (1 + bt167.1)⟩ : S55)])) else (none))) else (none)) else (none))) = some (r1, r2, r3, r4) := by rw [if_pos rfl] at H; exact H
      clear H
      have H := H1
      clear H1
      replace H := Option.bind_eq_some_iff.mp H
      obtain ⟨⟨t164, t165⟩, A230, H⟩ := H
      replace H : (if 0 ≤ t164 then (if t164 < (l2.length : Int) then ((spec_l6Rd_pick.f kj17 s0_0 t165 9).bind fun bt167 => (if x160002_1.length < 5864062014805 then (spec_l91Dish.l0 kj17 l2 l3 (wrap64 (1 + t160)) (wrap64 (x11_1 + 1)) s0_0 bt167.2 a1 (wrap64 (1 + t154)) (x160002_1 ++ [(⟨0, (rd_T29 l2 t164).f0, wrap64 (1 + bt167.1)⟩ : S55)])) else (none))) else (none)) else (none)) = some (r1, r2, r3, r4) := H
      have A23 := Aside0.mk A230
      clear A230
      rcases (Classical.em (0 ≤ t164)).symm with c24 | c24
      ·rw [if_neg c24] at H
       exact absurd H (by simp)
      rw [if_pos c24] at H
      have c24b0 : decide (0 ≤ t164) = true := decide_eq_true c24
      clear c24
      rcases (Classical.em (t164 < (l2.length : Int))).symm with c25 | c25
      ·rw [if_neg c25] at H
       exact absurd H (by simp)
      rw [if_pos c25] at H
      have c25b0 : decide (t164 < (l2.length : Int)) = true := decide_eq_true c25
      clear c25
      replace H := Option.bind_eq_some_iff.mp H
      obtain ⟨⟨t167, t168⟩, A260, H⟩ := H
      replace H : (if x160002_1.length < 5864062014805 then (spec_l91Dish.l0 kj17 l2 l3 (wrap64 (1 + t160)) (wrap64 (x11_1 + 1)) s0_0 t168 a1 (wrap64 (1 + t154)) (x160002_1 ++ [(⟨0, (rd_T29 l2 t164).f0, wrap64 (1 + t167)⟩ : S55)])) else (none)) = some (r1, r2, r3, r4) := H
      have A26 := Aside0.mk A260
      clear A260
      rcases (Classical.em (x160002_1.length < 5864062014805)).symm with c27 | c27
      ·rw [if_neg c27] at H
       exact absurd H (by simp)
      rw [if_pos c27] at H
      have LMc27 := Aside0.mk c27
      clear c27
      obtain ⟨y169, hy169⟩ : ∃ y_ : List (S55), y_ = (x160002_1 ++ [(⟨0, (rd_T29 l2 t164).f0, wrap64 (1 + t167)⟩ : S55)]) := ⟨_, rfl⟩
      replace H : (spec_l91Dish.l0 kj17 l2 l3 (wrap64 (1 + t160)) (wrap64 (x11_1 + 1)) s0_0 t168 a1 (wrap64 (1 + t154)) y169) = some (r1, r2, r3, r4) := pJ hy169 H
      have Ny169 := Aside0.mk hy169
      clear hy169
      have H' := Aside0.mk H
      clear H
      try go_wp2
      have n0_ := Aside0.mk (Kd.R_drew HO_160002.out)
      have n1_ := Aside0.mk (blk_drew BK153.out)
      have n2_ := Aside0.mk (blk_drew BK159.out)
      have n3_ := Aside0.mk (IsS99.drew HI0.out)
      have n4_ := Aside0.mk (keep_drew HK.out)
      have n5_ := Aside0.mk (below_drew1 HB.out)
      clear HO_160002
      clear BK153
      clear BK159
      clear HI0
      clear HK
      clear HB
      have HO_160002 := n0_
      have BK153 := n1_
      have BK159 := n2_
      have HI0 := n3_
      have HK := n4_
      have HB := n5_
      clear n0_ n1_ n2_ n3_ n4_ n5_
      have p166 : 0 ≤ (t164 : Int) := of_decide_eq_true pA
      have q166 : t164 < (l2.length : Int) := of_decide_eq_true pA
      obtain ⟨ad166, A166_2, c166_2, e166, hx166_0, hx166_1, hx166_2, hl166_2, hi166_2⟩ := at_T29 (Kd.C_foot_now HR2.out HK.out) t164 p166 q166
      have hw166_2 := hx166_2
      have hw166_1 := hx166_1
      have hw166_0 := hx166_0
      cases e166
      have hne166_2 := (show (⟨(ad166.add ((t164).toNat * 3)).block, (ad166.add ((t164).toNat * 3)).off + 2, none⟩ : Addr).block ≠ g from by first | (rw [add_block]; exact Kd.foot_ne HR2.out (by omega) (by decide)) | (show (Addr.add _ _).block ≠ _; rw [add_block]; exact Kd.foot_ne HR2.out (by omega) (by decide)) | exact Kd.foot_ne HR2.out (by omega) (by decide) | (dsimp only; exact Kd.foot_ne HR2.out (by omega) (by decide)))
      have hlt166_2 := (Kd.foot_lt HR2.out (by omega) (by decide))
      have hne166_1 := (show (⟨(ad166.add ((t164).toNat * 3)).block, (ad166.add ((t164).toNat * 3)).off + 1, none⟩ : Addr).block ≠ g from by first | (rw [add_block]; exact Kd.foot_ne HR2.out (by omega) (by decide)) | (show (Addr.add _ _).block ≠ _; rw [add_block]; exact Kd.foot_ne HR2.out (by omega) (by decide)) | exact Kd.foot_ne HR2.out (by omega) (by decide) | (dsimp only; exact Kd.foot_ne HR2.out (by omega) (by decide)))
      have hlt166_1 := (Kd.foot_lt HR2.out (by omega) (by decide))
      have hne166_0 := (show ((ad166.add ((t164).toNat * 3)) : Addr).block ≠ g from by first | (rw [add_block]; exact Kd.foot_ne HR2.out (by omega) (by decide)) | (show (Addr.add _ _).block ≠ _; rw [add_block]; exact Kd.foot_ne HR2.out (by omega) (by decide)) | exact Kd.foot_ne HR2.out (by omega) (by decide) | (dsimp only; exact Kd.foot_ne HR2.out (by omega) (by decide)))
      have hlt166_0 := (Kd.foot_lt HR2.out (by omega) (by decide))
      have HR166_2 := Aside0.mk (hi166_2)
      have HC166_2 := Aside0.mk hl166_2
      clear hi166_2 hl166_2
      replace p166 := eq_true p166
      replace q166 := eq_true q166
      refine start_ (n := 18) (S := fun w' => w'.cell? ⟨gb159, 0, none⟩ = some (.int .i64 a1) ∧ w'.cell? ⟨gb159, 1, none⟩ = some (.int .i64 (wrap64 (1 + t154))) ∧ w'.cell? ⟨gb159, 2, none⟩ = some (u160002) ∧ w'.cell? (ad166.add ((t164).toNat * 3)) = some (.int .i64 ((rd_T29 l2 t164).f0)) ∧ w'.cell? ⟨(ad166.add ((t164).toNat * 3)).block, (ad166.add ((t164).toNat * 3)).off + 1, none⟩ = some (.int .i64 ((rd_T29 l2 t164).f1)) ∧ w'.cell? ⟨(ad166.add ((t164).toNat * 3)).block, (ad166.add ((t164).toNat * 3)).off + 2, none⟩ = some (.slice A166_2 ((rd_T29 l2 t164).f2).length c166_2)) (ds := [15, 17]) #[false, false, false, false, false, false, false, false, false, false, false, false, false, false, false, false, false, false] pL rfl rfl ⟨(blk_cell BK159.out 0).trans rfl, (blk_cell BK159.out 1).trans rfl, (blk_cell BK159.out 2).trans rfl, hx166_0, hx166_1, hx166_2⟩ (fun hHeld => ?_); refine with_tabW spec_l91Dish.tab7 spec_l91Dish.bits7 (fun HT_ HW_ => ?_)
      generalize wc.drew = w28 at HO_160002 BK153 BK159 HI0 HK HB HR166_2 hx166_0 hx166_1 hx166_2 hHeld ⊢
      refine pv 0 (some 34) HT_ rfl rfl pL ?_
      refine pv 2 (some 36) HT_ rfl rfl pL ?_
      refine pv 3 (some 37) HT_ rfl rfl pL ?_
      refine pv 4 (some 38) HT_ rfl rfl pL ?_
      refine pv 5 (some 39) HT_ rfl rfl pL ?_
      refine pv 10 (some 44) HT_ rfl rfl pL ?_
      refine tv 1 (some 35) HT_ HW_ rfl rfl pL (fun _ _ _ h => h) (by rfl) (by rintro w' ⟨s0, s1, s2, s3, s4, s5⟩; go_simp; with_reducible rfl) hHeld pP ?_
      refine one_ (i := 6) (N := some 40) F99.b0 rfl rfl (one_of HT_.out pL) (by decide) (fun K hK => ?_)
      refine goes_ Try.func55 pL rfl #[.pointer (some ⟨g, 0, none⟩), .int .i64 (l2.length : Int)] (by rfl) rfl rfl pM ?_
      with_reducible refine (spec_l6Rd_pick.calls kj17 g s0_0 x1001_17 (l2.length : Int) t164 t165 w0 _ ?side1 ?side2 A23.out).mono ?_
      (case side1 => exact F99.q2)
      (case side2 => exact F99.q1)
      rintro e w29 ⟨rfl, hi, hb, hk⟩
      have HS3_ := keep_cell hk (hHeld.2.2.2.1) (by first | (rw [add_block]; exact hne166_0) | (show (Addr.add _ _).block ≠ _; rw [add_block]; exact hne166_0) | exact hne166_0)
      have HS4_ := keep_cell hk (hHeld.2.2.2.2.1) (by first | (rw [add_block]; exact hne166_1) | (show (Addr.add _ _).block ≠ _; rw [add_block]; exact hne166_1) | exact hne166_1)
      have HS5_ := keep_cell hk (hHeld.2.2.2.2.2) (by first | (rw [add_block]; exact hne166_2) | (show (Addr.add _ _).block ≠ _; rw [add_block]; exact hne166_2) | exact hne166_2)
      refine ⟨_, rfl, ?_⟩
      have n0_ := Aside0.mk (Kd.R_mono (Kd.R_keep (IsS99.apart (show IsS99 w0 _ g s0_0 x1001_17 from F99.q2) (pR HO_160002) (by decide)) hk (fun _ h => h.2)) (fun _ h => h.1))
      have n1_ := Aside0.mk (KeepBut.blk hk (g' := gb153) (o := .cells #[.int .i64 0, .int .i64 0, .slice none 0 0] 29 (0, 0)) (pC BK153) NB153_0.out (by simp))
      have n2_ := Aside0.mk (KeepBut.blk hk (g' := gb159) (o := .cells #[.int .i64 a1, .int .i64 (wrap64 (1 + t154)), u160002] 29 (0, 0)) (pC BK159) NB159_0.out (by simp))
      have n3_ := Aside0.mk (KeepBut.trans F99.q0 hk (.inl rfl))
      have n4_ := Aside0.mk (hb)
      have n5_ := Aside0.mk (hi)
      clear HO_160002
      clear BK153
      clear BK159
      clear HK
      clear HB
      clear HI0
      have HO_160002 := n0_
      have BK153 := n1_
      have BK159 := n2_
      have HK := n3_
      have HB := n4_
      have HI0 := n5_
      clear n0_ n1_ n2_ n3_ n4_ n5_
      (try clear hb)
      (try clear hb2)
      (try clear hk)
      (try clear hi)
      refine hK.out _ _ ⟨(blk_cell BK159.out 0).trans rfl, (blk_cell BK159.out 1).trans rfl, (blk_cell BK159.out 2).trans rfl, HS3_, HS4_, HS5_⟩ (fun hHeld => ?_)
      clear hK K
      refine norm_ (a' := ?_) ?_ ?_
      rotate_left
      ·show Act.put _ (some 40) _ = _
       exact pP
      refine pv 7 (some 41) HT_ rfl rfl pL ?_
      refine pv 8 (some 42) HT_ rfl rfl pL ?_
      refine tv 9 (some 43) HT_ HW_ rfl rfl pL (fun _ _ _ h => h) (by rfl) (by rintro w' ⟨s0, s1, s2, s3, s4, s5⟩; go_simp; with_reducible rfl) hHeld pP ?_
      refine one_ (i := 11) (N := some 45) F99.b1 rfl rfl (one_of HT_.out pL) (by decide) (fun K hK => ?_)
      refine goes_ Try.func55 pL rfl #[.pointer (some ⟨g, 0, none⟩), .int .i64 9] (by rfl) rfl rfl pM ?_
      with_reducible refine (spec_l6Rd_pick.calls kj17 g s0_0 t165 9 t167 t168 w0 _ ?side1 ?side2 A26.out).mono ?_
      (case side1 => exact F99.q2)
      (case side2 => exact F99.q1)
      rintro e w30 ⟨rfl, hi, hb, hk⟩
      have HS3_ := keep_cell hk (hHeld.2.2.2.1) (by first | (rw [add_block]; exact hne166_0) | (show (Addr.add _ _).block ≠ _; rw [add_block]; exact hne166_0) | exact hne166_0)
      have HS4_ := keep_cell hk (hHeld.2.2.2.2.1) (by first | (rw [add_block]; exact hne166_1) | (show (Addr.add _ _).block ≠ _; rw [add_block]; exact hne166_1) | exact hne166_1)
      have HS5_ := keep_cell hk (hHeld.2.2.2.2.2) (by first | (rw [add_block]; exact hne166_2) | (show (Addr.add _ _).block ≠ _; rw [add_block]; exact hne166_2) | exact hne166_2)
      refine ⟨_, rfl, ?_⟩
      have n0_ := Aside0.mk (Kd.R_mono (Kd.R_keep (IsS99.apart (show IsS99 w0 _ g s0_0 t165 from F99.q2) (pR HO_160002) (by decide)) hk (fun _ h => h.2)) (fun _ h => h.1))
      have n1_ := Aside0.mk (KeepBut.blk hk (g' := gb153) (o := .cells #[.int .i64 0, .int .i64 0, .slice none 0 0] 29 (0, 0)) (pC BK153) NB153_0.out (by simp))
      have n2_ := Aside0.mk (KeepBut.blk hk (g' := gb159) (o := .cells #[.int .i64 a1, .int .i64 (wrap64 (1 + t154)), u160002] 29 (0, 0)) (pC BK159) NB159_0.out (by simp))
      have n3_ := Aside0.mk (KeepBut.trans F99.q0 hk (.inl rfl))
      have n4_ := Aside0.mk (hb)
      have n5_ := Aside0.mk (hi)
      clear HO_160002
      clear BK153
      clear BK159
      clear HK
      clear HB
      clear HI0
      have HO_160002 := n0_
      have BK153 := n1_
      have BK159 := n2_
      have HK := n3_
      have HB := n4_
      have HI0 := n5_
      clear n0_ n1_ n2_ n3_ n4_ n5_
      (try clear hb)
      (try clear hb2)
      (try clear hk)
      (try clear hi)
      refine hK.out _ _ ⟨(blk_cell BK159.out 0).trans rfl, (blk_cell BK159.out 1).trans rfl, (blk_cell BK159.out 2).trans rfl, HS3_, HS4_, HS5_⟩ (fun hHeld => ?_)
      clear hK K
      refine norm_ (a' := ?_) ?_ ?_
      rotate_left
      ·show Act.put _ (some 45) _ = _
       exact pP
      refine pv 12 (some 46) HT_ rfl rfl pL ?_
      refine pv 13 (some 47) HT_ rfl rfl pL ?_
      refine one_ (i := 14) (N := some 48) F99.b2 rfl rfl (one_of HT_.out pL) (by decide) (fun K hK => ?_)
      refine value_ (w1 := ?_) (v := ?_) (by rfl) rfl ?_ ?_
      rotate_left 2
      ·go_simp
       constructor
       ·rfl
       ·rfl
      refine hK.out _ _ ⟨(blk_cell (blk_alloc BK159.out _) 0).trans rfl, (blk_cell (blk_alloc BK159.out _) 1).trans rfl, (blk_cell (blk_alloc BK159.out _) 2).trans rfl, (World.cell?_alloc_lt _ _ _ (World.block_lt_of_cell? _ _ (hHeld.2.2.2.1))).trans (hHeld.2.2.2.1), (World.cell?_alloc_lt _ _ _ (World.block_lt_of_cell? _ _ (hHeld.2.2.2.2.1))).trans (hHeld.2.2.2.2.1), (World.cell?_alloc_lt _ _ _ (World.block_lt_of_cell? _ _ (hHeld.2.2.2.2.2))).trans (hHeld.2.2.2.2.2)⟩ (fun hHeld => ?_)
      clear hK K
      refine norm_ (a' := ?_) ?_ ?_
      rotate_left
      ·show Act.put _ (some 48) _ = _
       exact pP
      refine last_ (i := 15) (N := some 49) #[true, true, true, true, true, true, true, true, true, true, true, true, true, true, true, true, false, false] rfl rfl (one_of HT_.out pL) (by decide) (fun K hK => ?_)
      refine Kd.R_append_step k55 w.heap.size (by rfl) (.tmp 35) (.tmp 48) 27 55 (.agg #[(.int .i64 0), (.int .i64 0), (.int .i64 0)]) 24 rfl Try.underlying27 info55 rfl (by decide) (by omega) u160002 x160002_1 (⟨0, (rd_T29 l2 t164).f0, wrap64 (1 + t167)⟩ : S55) [.int .i64 0, .int .i64 ((rd_T29 l2 t164).f0), .int .i64 (wrap64 (1 + t167))] (fun _ => True) (fun _ => False) rfl rfl ?aP (fun _ hk => hk.elim) ?aF ?aO (Below.refl _ _) ?aS ?aL ?_
      (case aP => exact k55_mkM _ _ _ (⟨0, (rd_T29 l2 t164).f0, wrap64 (1 + t167)⟩ : S55))
      (case aF => exact (fun _ _ => trivial))
      (case aO => exact (pR HO_160002))
      (case aS => exact (keep_size (w := w) (g := g) (row := none) F99.q0))
      (case aL => have := LMc27.out; omega)
      intro v170 w31 ho hb hg hat
      rw [← Ny169.out] at ho
      have n0_ := Aside0.mk (blk_grown (g := gb153) (o := .cells #[.int .i64 0, .int .i64 0, .slice none 0 0] 29 (0, 0)) (pC BK153) hg (Kd.R_ne HO_160002.out BK153.out (by decide)))
      have n1_ := Aside0.mk (blk_grown (g := gb159) (o := .cells #[.int .i64 a1, .int .i64 (wrap64 (1 + t154)), u160002] 29 (0, 0)) (pC BK159) hg (Kd.R_ne HO_160002.out BK159.out (by decide)))
      have n2_ := Aside0.mk (IsS99.grown F99.q2 hg (IsS99.own_ne HI0.out HO_160002.out (by decide)))
      have n3_ := Aside0.mk (below_weaken F99.q1 HL.out hb)
      have n4_ := Aside0.mk (KeepBut.trans F99.q0 (KeepBut.of_grown hg g) (Kd.R_base2 HO_160002.out))
      have n5_ := Aside0.mk (ho)
      clear BK153
      clear BK159
      clear HI0
      clear HB
      clear HK
      clear HO_160002
      have BK153 := n0_
      have BK159 := n1_
      have HI0 := n2_
      have HB := n3_
      have HK := n4_
      have HO171 := n5_
      clear n0_ n1_ n2_ n3_ n4_ n5_
      clear ho hb hg hat
      obtain ⟨Ao32, co32, eo32⟩ := Kd.R_slice HO171.out
      (first | subst eo32 | (injection eo32 with f1_ f2_ f3_; have f4_ := f1_.symm; have f5_ := f3_.symm; clear f1_ f2_ f3_; subst f4_; subst f5_))
      refine hK.out _ _ ?_
      clear hK K
      refine norm_ (a' := ?_) ?_ ?_
      rotate_left
      ·show Act.put _ (some 49) _ = _
       exact pP
      refine pv 16 (some 50) HT_ rfl rfl pL ?_
      refine last_ (i := 17) (N := none) #[true, true, true, true, true, true, true, true, true, true, true, true, true, true, true, true, true, true] rfl rfl (one_of HT_.out pL) (by decide) (fun K hK => ?_)
      have hs33 : w31.cell? ⟨gb159, 2, none⟩ = some (u160002) := (blk_cell BK159.out 2).trans rfl
      have hfs33 := blk_frozen BK159.out 2
      have hns33_0 := NB153_159.out
      have hms33_0 := NB159_153.out
      refine skip_ (w1 := ?_) (by rfl) rfl ?_ ?_
      rotate_left
      ·go_simp
       rfl
      refine hK.out _ _ ?_
      clear hK K
      refine done_ (done_of HT_.out pL) ?_
      try go_wp2
      go_roundg kj17
      case measure => have := HK1.out; have := HJ17.out; omega
      case rel => exact ⟨(wrap64 (x11_1 + 1)), (t168), (y169), (.slice Ao32 y169.length co32), pF, H', ⟨by have := HK1.out; have := HJ17.out; omega⟩, ⟨by (with_reducible repeat (first | apply Kd.R_alloc | apply Kd.R_drewN | apply Kd.R_drew)); exact Kd.R_mono (Kd.R_far (p := ⟨gb159, 2, none⟩) (Kd.R_types HO171.out BK159.out (by decide)) (fun _ hk => hk.2) (.slice Ao32 y169.length co32)) (fun _ hk => trivial)⟩, ⟨by (with_reducible repeat (first | refine blk_drewN ?_ _ | refine blk_drew ?_ | refine blk_alloc ?_ _)); refine blk_far ?_ NB153_159.out _; (with_reducible repeat (first | refine blk_drewN ?_ _ | refine blk_drew ?_ | refine blk_alloc ?_ _)); exact BK153.out⟩, ⟨by (with_reducible repeat (first | refine blk_drewN ?_ _ | refine blk_drew ?_ | refine blk_alloc ?_ _)); refine blk_put (cs := #[.int .i64 a1, .int .i64 (wrap64 (1 + t154)), u160002]) ?_ 2 _ rfl; (with_reducible repeat (first | refine blk_drewN ?_ _ | refine blk_drew ?_ | refine blk_alloc ?_ _)); exact BK159.out⟩, ⟨by repeat (first | (with_reducible first | exact HI0.out | apply IsS99.alloc | apply IsS99.drewN | apply IsS99.drew | apply IsS99.set_1 | refine IsS99.far ?_ NB0_153.out _ | refine IsS99.far ?_ NB0_159.out _) | exact HI0.out)⟩, ⟨by repeat (first | (with_reducible first | exact HK.out | apply KeepBut.set_ | apply keep_drewN | apply keep_drew | apply keep_alloc | refine keep_far ?_ GW153.out _ | refine keep_far ?_ GW159.out _) | exact HK.out)⟩, ⟨by repeat (first | (with_reducible first | exact HB.out | apply below_alloc | apply pw_below_drewN | apply below_drew1 | refine below_set ?_ (IsS99.ge HI0.out) | refine below_set ?_ GE153.out | refine below_set ?_ GE159.out) | exact HB.out)⟩⟩
     replace c22 := Bool.eq_false_iff.mpr c22
     subst c22
     have H1 : (if (l3.length : Int) > 0 then ((spec_l6Rd_pick.f kj17 s0_0 x1001_17 (l3.length : Int)).bind fun bt172 => (if 0 ≤ bt172.1 then (if bt172.1 < (l3.length : Int) then ((spec_l6Rd_pick.f kj17 s0_0 bt172.2 200).bind fun bt175 => (if x160002_1.length < 5864062014805 then (spec_l91Dish.l0 kj17 l2 l3 (wrap64 (1 + t160)) (wrap64 (x11_1 + 1)) s0_0 bt175.2 a1 (wrap64 (1 + t154)) (x160002_1 ++ [(⟨(rd_T63 l3 bt172.1).f0, 0, wrap64 (1 + bt175.1)⟩ : S55)])) else (none))) else (none)) else (none))) else (spec_l91Dish.l0 kj17 l2 l3 (wrap64 (1 + t160)) (wrap64 (x11_1 + 1)) s0_0 x1001_17 a1 (wrap64 (1 + t154)) x160002_1)) = some (r1, r2, r3, r4) := by rw [if_neg (show ¬ (false = true) by decide)] at H; exact H
     clear H
     have H := H1
     clear H1
     rcases (Classical.em ((l3.length : Int) > 0)).symm with c34 | c34
     ·rw [if_neg c34] at H
      have c34b0 : decide (0 < (l3.length : Int)) = false := decide_eq_false c34
      have c34b1 : decide (0 < l3.length) = false := decide_eq_false (by omega)
      clear c34
      have H' := Aside0.mk H
      clear H
      go_wp2
      go_roundg kj17
      case measure => have := HK1.out; have := HJ17.out; omega
      case rel => exact ⟨(wrap64 (x11_1 + 1)), (x1001_17), (x160002_1), (u160002), pF, H', ⟨by have := HK1.out; have := HJ17.out; omega⟩, ⟨pR HO_160002⟩, ⟨pC BK153⟩, ⟨pC BK159⟩, ⟨by repeat (first | (with_reducible first | exact HI0.out | apply IsS99.alloc | apply IsS99.drewN | apply IsS99.drew | apply IsS99.set_1 | refine IsS99.far ?_ NB0_153.out _ | refine IsS99.far ?_ NB0_159.out _) | exact HI0.out)⟩, ⟨by repeat (first | (with_reducible first | exact HK.out | apply KeepBut.set_ | apply keep_drewN | apply keep_drew | apply keep_alloc | refine keep_far ?_ GW153.out _ | refine keep_far ?_ GW159.out _) | exact HK.out)⟩, ⟨by repeat (first | (with_reducible first | exact HB.out | apply below_alloc | apply pw_below_drewN | apply below_drew1 | refine below_set ?_ (IsS99.ge HI0.out) | refine below_set ?_ GE153.out | refine below_set ?_ GE159.out) | exact HB.out)⟩⟩
     rw [if_pos c34] at H
     have c34b0 : decide (0 < (l3.length : Int)) = true := decide_eq_true c34
     have c34b1 : decide (0 < l3.length) = true := decide_eq_true (by omega)
     clear c34
     replace H := Option.bind_eq_some_iff.mp H
     obtain ⟨⟨t172, t173⟩, A350, H⟩ := H
     replace H : (if 0 ≤ t172 then (if t172 < (l3.length : Int) then ((spec_l6Rd_pick.f kj17 s0_0 t173 200).bind fun bt175 => (if x160002_1.length < 5864062014805 then (spec_l91Dish.l0 kj17 l2 l3 (wrap64 (1 + t160)) (wrap64 (x11_1 + 1)) s0_0 bt175.2 a1 (wrap64 (1 + t154)) (x160002_1 ++ [(⟨(rd_T63 l3 t172).f0, 0, wrap64 (1 + bt175.1)⟩ : S55)])) else (none))) else (none)) else (none)) = some (r1, r2, r3, r4) := H
     have A35 := Aside0.mk A350
     clear A350
     rcases (Classical.em (0 ≤ t172)).symm with c36 | c36
     ·rw [if_neg c36] at H
      exact absurd H (by simp)
     rw [if_pos c36] at H
     have c36b0 : decide (0 ≤ t172) = true := decide_eq_true c36
     clear c36
     rcases (Classical.em (t172 < (l3.length : Int))).symm with c37 | c37
     ·rw [if_neg c37] at H
      exact absurd H (by simp)
     rw [if_pos c37] at H
     have c37b0 : decide (t172 < (l3.length : Int)) = true := decide_eq_true c37
     clear c37
     replace H := Option.bind_eq_some_iff.mp H
     obtain ⟨⟨t175, t176⟩, A380, H⟩ := H
     replace H : (if x160002_1.length < 5864062014805 then (spec_l91Dish.l0 kj17 l2 l3 (wrap64 (1 + t160)) (wrap64 (x11_1 + 1)) s0_0 t176 a1 (wrap64 (1 + t154)) (x160002_1 ++ [(⟨(rd_T63 l3 t172).f0, 0, wrap64 (1 + t175)⟩ : S55)])) else (none)) = some (r1, r2, r3, r4) := H
     have A38 := Aside0.mk A380
     clear A380
     rcases (Classical.em (x160002_1.length < 5864062014805)).symm with c39 | c39
     ·rw [if_neg c39] at H
      exact absurd H (by simp)
     rw [if_pos c39] at H
     have LMc39 := Aside0.mk c39
     clear c39
     obtain ⟨y177, hy177⟩ : ∃ y_ : List (S55), y_ = (x160002_1 ++ [(⟨(rd_T63 l3 t172).f0, 0, wrap64 (1 + t175)⟩ : S55)]) := ⟨_, rfl⟩
     replace H : (spec_l91Dish.l0 kj17 l2 l3 (wrap64 (1 + t160)) (wrap64 (x11_1 + 1)) s0_0 t176 a1 (wrap64 (1 + t154)) y177) = some (r1, r2, r3, r4) := pJ hy177 H
     have Ny177 := Aside0.mk hy177
     clear hy177
     have H' := Aside0.mk H
     clear H
     try go_wp2
     have n0_ := Aside0.mk (Kd.R_drew HO_160002.out)
     have n1_ := Aside0.mk (blk_drew BK153.out)
     have n2_ := Aside0.mk (blk_drew BK159.out)
     have n3_ := Aside0.mk (IsS99.drew HI0.out)
     have n4_ := Aside0.mk (keep_drew HK.out)
     have n5_ := Aside0.mk (below_drew1 HB.out)
     clear HO_160002
     clear BK153
     clear BK159
     clear HI0
     clear HK
     clear HB
     have HO_160002 := n0_
     have BK153 := n1_
     have BK159 := n2_
     have HI0 := n3_
     have HK := n4_
     have HB := n5_
     clear n0_ n1_ n2_ n3_ n4_ n5_
     have p174 : 0 ≤ (t172 : Int) := of_decide_eq_true pA
     have q174 : t172 < (l3.length : Int) := of_decide_eq_true pA
     obtain ⟨ad174, e174, hx174_0, hx174_1, hx174_2, hx174_3, hx174_4, hx174_5⟩ := at_T63 (Kd.C_foot_now HR3.out HK.out) t172 p174 q174
     have hw174_5 := hx174_5
     have hw174_4 := hx174_4
     have hw174_3 := hx174_3
     have hw174_2 := hx174_2
     have hw174_1 := hx174_1
     have hw174_0 := hx174_0
     cases e174
     have hne174_5 := (show (⟨(ad174.add ((t172).toNat * 6)).block, (ad174.add ((t172).toNat * 6)).off + 5, none⟩ : Addr).block ≠ g from by first | (rw [add_block]; exact Kd.foot_ne HR3.out (by omega) (by decide)) | (show (Addr.add _ _).block ≠ _; rw [add_block]; exact Kd.foot_ne HR3.out (by omega) (by decide)) | exact Kd.foot_ne HR3.out (by omega) (by decide) | (dsimp only; exact Kd.foot_ne HR3.out (by omega) (by decide)))
     have hlt174_5 := (Kd.foot_lt HR3.out (by omega) (by decide))
     have hne174_4 := (show (⟨(ad174.add ((t172).toNat * 6)).block, (ad174.add ((t172).toNat * 6)).off + 4, none⟩ : Addr).block ≠ g from by first | (rw [add_block]; exact Kd.foot_ne HR3.out (by omega) (by decide)) | (show (Addr.add _ _).block ≠ _; rw [add_block]; exact Kd.foot_ne HR3.out (by omega) (by decide)) | exact Kd.foot_ne HR3.out (by omega) (by decide) | (dsimp only; exact Kd.foot_ne HR3.out (by omega) (by decide)))
     have hlt174_4 := (Kd.foot_lt HR3.out (by omega) (by decide))
     have hne174_3 := (show (⟨(ad174.add ((t172).toNat * 6)).block, (ad174.add ((t172).toNat * 6)).off + 3, none⟩ : Addr).block ≠ g from by first | (rw [add_block]; exact Kd.foot_ne HR3.out (by omega) (by decide)) | (show (Addr.add _ _).block ≠ _; rw [add_block]; exact Kd.foot_ne HR3.out (by omega) (by decide)) | exact Kd.foot_ne HR3.out (by omega) (by decide) | (dsimp only; exact Kd.foot_ne HR3.out (by omega) (by decide)))
     have hlt174_3 := (Kd.foot_lt HR3.out (by omega) (by decide))
     have hne174_2 := (show (⟨(ad174.add ((t172).toNat * 6)).block, (ad174.add ((t172).toNat * 6)).off + 2, none⟩ : Addr).block ≠ g from by first | (rw [add_block]; exact Kd.foot_ne HR3.out (by omega) (by decide)) | (show (Addr.add _ _).block ≠ _; rw [add_block]; exact Kd.foot_ne HR3.out (by omega) (by decide)) | exact Kd.foot_ne HR3.out (by omega) (by decide) | (dsimp only; exact Kd.foot_ne HR3.out (by omega) (by decide)))
     have hlt174_2 := (Kd.foot_lt HR3.out (by omega) (by decide))
     have hne174_1 := (show (⟨(ad174.add ((t172).toNat * 6)).block, (ad174.add ((t172).toNat * 6)).off + 1, none⟩ : Addr).block ≠ g from by first | (rw [add_block]; exact Kd.foot_ne HR3.out (by omega) (by decide)) | (show (Addr.add _ _).block ≠ _; rw [add_block]; exact Kd.foot_ne HR3.out (by omega) (by decide)) | exact Kd.foot_ne HR3.out (by omega) (by decide) | (dsimp only; exact Kd.foot_ne HR3.out (by omega) (by decide)))
     have hlt174_1 := (Kd.foot_lt HR3.out (by omega) (by decide))
     have hne174_0 := (show ((ad174.add ((t172).toNat * 6)) : Addr).block ≠ g from by first | (rw [add_block]; exact Kd.foot_ne HR3.out (by omega) (by decide)) | (show (Addr.add _ _).block ≠ _; rw [add_block]; exact Kd.foot_ne HR3.out (by omega) (by decide)) | exact Kd.foot_ne HR3.out (by omega) (by decide) | (dsimp only; exact Kd.foot_ne HR3.out (by omega) (by decide)))
     have hlt174_0 := (Kd.foot_lt HR3.out (by omega) (by decide))
     replace p174 := eq_true p174
     replace q174 := eq_true q174
     refine start_ (n := 18) (S := fun w' => w'.cell? ⟨gb159, 0, none⟩ = some (.int .i64 a1) ∧ w'.cell? ⟨gb159, 1, none⟩ = some (.int .i64 (wrap64 (1 + t154))) ∧ w'.cell? ⟨gb159, 2, none⟩ = some (u160002) ∧ w'.cell? (ad174.add ((t172).toNat * 6)) = some (.int .i64 ((rd_T63 l3 t172).f0)) ∧ w'.cell? ⟨(ad174.add ((t172).toNat * 6)).block, (ad174.add ((t172).toNat * 6)).off + 1, none⟩ = some (.int .i64 ((rd_T63 l3 t172).f1)) ∧ w'.cell? ⟨(ad174.add ((t172).toNat * 6)).block, (ad174.add ((t172).toNat * 6)).off + 2, none⟩ = some (.int .i64 ((rd_T63 l3 t172).f2)) ∧ w'.cell? ⟨(ad174.add ((t172).toNat * 6)).block, (ad174.add ((t172).toNat * 6)).off + 3, none⟩ = some (.int .i64 ((rd_T63 l3 t172).f3)) ∧ w'.cell? ⟨(ad174.add ((t172).toNat * 6)).block, (ad174.add ((t172).toNat * 6)).off + 4, none⟩ = some (.int .i64 ((rd_T63 l3 t172).f4)) ∧ w'.cell? ⟨(ad174.add ((t172).toNat * 6)).block, (ad174.add ((t172).toNat * 6)).off + 5, none⟩ = some (.int .i64 ((rd_T63 l3 t172).f5))) (ds := [15, 17]) #[false, false, false, false, false, false, false, false, false, false, false, false, false, false, false, false, false, false] pL rfl rfl ⟨(blk_cell BK159.out 0).trans rfl, (blk_cell BK159.out 1).trans rfl, (blk_cell BK159.out 2).trans rfl, hx174_0, hx174_1, hx174_2, hx174_3, hx174_4, hx174_5⟩ (fun hHeld => ?_); refine with_tabW spec_l91Dish.tab9 spec_l91Dish.bits9 (fun HT_ HW_ => ?_)
     generalize wc.drew = w40 at HO_160002 BK153 BK159 HI0 HK HB hx174_0 hx174_1 hx174_2 hx174_3 hx174_4 hx174_5 hHeld ⊢
     refine pv 0 (some 54) HT_ rfl rfl pL ?_
     refine pv 2 (some 56) HT_ rfl rfl pL ?_
     refine pv 3 (some 57) HT_ rfl rfl pL ?_
     refine pv 4 (some 58) HT_ rfl rfl pL ?_
     refine pv 5 (some 59) HT_ rfl rfl pL ?_
     refine pv 10 (some 64) HT_ rfl rfl pL ?_
     refine tv 1 (some 55) HT_ HW_ rfl rfl pL (fun _ _ _ h => h) (by rfl) (by rintro w' ⟨s0, s1, s2, s3, s4, s5, s6, s7, s8⟩; go_simp; with_reducible rfl) hHeld pP ?_
     refine one_ (i := 6) (N := some 60) F99.b0 rfl rfl (one_of HT_.out pL) (by decide) (fun K hK => ?_)
     refine goes_ Try.func55 pL rfl #[.pointer (some ⟨g, 0, none⟩), .int .i64 (l3.length : Int)] (by rfl) rfl rfl pM ?_
     with_reducible refine (spec_l6Rd_pick.calls kj17 g s0_0 x1001_17 (l3.length : Int) t172 t173 w0 _ ?side1 ?side2 A35.out).mono ?_
     (case side1 => exact F99.q2)
     (case side2 => exact F99.q1)
     rintro e w41 ⟨rfl, hi, hb, hk⟩
     have HS3_ := keep_cell hk (hHeld.2.2.2.1) (by first | (rw [add_block]; exact hne174_0) | (show (Addr.add _ _).block ≠ _; rw [add_block]; exact hne174_0) | exact hne174_0)
     have HS4_ := keep_cell hk (hHeld.2.2.2.2.1) (by first | (rw [add_block]; exact hne174_1) | (show (Addr.add _ _).block ≠ _; rw [add_block]; exact hne174_1) | exact hne174_1)
     have HS5_ := keep_cell hk (hHeld.2.2.2.2.2.1) (by first | (rw [add_block]; exact hne174_2) | (show (Addr.add _ _).block ≠ _; rw [add_block]; exact hne174_2) | exact hne174_2)
     have HS6_ := keep_cell hk (hHeld.2.2.2.2.2.2.1) (by first | (rw [add_block]; exact hne174_3) | (show (Addr.add _ _).block ≠ _; rw [add_block]; exact hne174_3) | exact hne174_3)
     have HS7_ := keep_cell hk (hHeld.2.2.2.2.2.2.2.1) (by first | (rw [add_block]; exact hne174_4) | (show (Addr.add _ _).block ≠ _; rw [add_block]; exact hne174_4) | exact hne174_4)
     have HS8_ := keep_cell hk (hHeld.2.2.2.2.2.2.2.2) (by first | (rw [add_block]; exact hne174_5) | (show (Addr.add _ _).block ≠ _; rw [add_block]; exact hne174_5) | exact hne174_5)
     refine ⟨_, rfl, ?_⟩
     have n0_ := Aside0.mk (Kd.R_mono (Kd.R_keep (IsS99.apart (show IsS99 w0 _ g s0_0 x1001_17 from F99.q2) (pR HO_160002) (by decide)) hk (fun _ h => h.2)) (fun _ h => h.1))
     have n1_ := Aside0.mk (KeepBut.blk hk (g' := gb153) (o := .cells #[.int .i64 0, .int .i64 0, .slice none 0 0] 29 (0, 0)) (pC BK153) NB153_0.out (by simp))
     have n2_ := Aside0.mk (KeepBut.blk hk (g' := gb159) (o := .cells #[.int .i64 a1, .int .i64 (wrap64 (1 + t154)), u160002] 29 (0, 0)) (pC BK159) NB159_0.out (by simp))
     have n3_ := Aside0.mk (KeepBut.trans F99.q0 hk (.inl rfl))
     have n4_ := Aside0.mk (hb)
     have n5_ := Aside0.mk (hi)
     clear HO_160002
     clear BK153
     clear BK159
     clear HK
     clear HB
     clear HI0
     have HO_160002 := n0_
     have BK153 := n1_
     have BK159 := n2_
     have HK := n3_
     have HB := n4_
     have HI0 := n5_
     clear n0_ n1_ n2_ n3_ n4_ n5_
     (try clear hb)
     (try clear hb2)
     (try clear hk)
     (try clear hi)
     refine hK.out _ _ ⟨(blk_cell BK159.out 0).trans rfl, (blk_cell BK159.out 1).trans rfl, (blk_cell BK159.out 2).trans rfl, HS3_, HS4_, HS5_, HS6_, HS7_, HS8_⟩ (fun hHeld => ?_)
     clear hK K
     refine norm_ (a' := ?_) ?_ ?_
     rotate_left
     ·show Act.put _ (some 60) _ = _
      exact pP
     refine pv 7 (some 61) HT_ rfl rfl pL ?_
     refine pv 8 (some 62) HT_ rfl rfl pL ?_
     refine tv 9 (some 63) HT_ HW_ rfl rfl pL (fun _ _ _ h => h) (by rfl) (by rintro w' ⟨s0, s1, s2, s3, s4, s5, s6, s7, s8⟩; go_simp; with_reducible rfl) hHeld pP ?_
     refine one_ (i := 11) (N := some 65) F99.b1 rfl rfl (one_of HT_.out pL) (by decide) (fun K hK => ?_)
     refine goes_ Try.func55 pL rfl #[.pointer (some ⟨g, 0, none⟩), .int .i64 200] (by rfl) rfl rfl pM ?_
     with_reducible refine (spec_l6Rd_pick.calls kj17 g s0_0 t173 200 t175 t176 w0 _ ?side1 ?side2 A38.out).mono ?_
     (case side1 => exact F99.q2)
     (case side2 => exact F99.q1)
     rintro e w42 ⟨rfl, hi, hb, hk⟩
     have HS3_ := keep_cell hk (hHeld.2.2.2.1) (by first | (rw [add_block]; exact hne174_0) | (show (Addr.add _ _).block ≠ _; rw [add_block]; exact hne174_0) | exact hne174_0)
     have HS4_ := keep_cell hk (hHeld.2.2.2.2.1) (by first | (rw [add_block]; exact hne174_1) | (show (Addr.add _ _).block ≠ _; rw [add_block]; exact hne174_1) | exact hne174_1)
     have HS5_ := keep_cell hk (hHeld.2.2.2.2.2.1) (by first | (rw [add_block]; exact hne174_2) | (show (Addr.add _ _).block ≠ _; rw [add_block]; exact hne174_2) | exact hne174_2)
     have HS6_ := keep_cell hk (hHeld.2.2.2.2.2.2.1) (by first | (rw [add_block]; exact hne174_3) | (show (Addr.add _ _).block ≠ _; rw [add_block]; exact hne174_3) | exact hne174_3)
     have HS7_ := keep_cell hk (hHeld.2.2.2.2.2.2.2.1) (by first | (rw [add_block]; exact hne174_4) | (show (Addr.add _ _).block ≠ _; rw [add_block]; exact hne174_4) | exact hne174_4)
     have HS8_ := keep_cell hk (hHeld.2.2.2.2.2.2.2.2) (by first | (rw [add_block]; exact hne174_5) | (show (Addr.add _ _).block ≠ _; rw [add_block]; exact hne174_5) | exact hne174_5)
     refine ⟨_, rfl, ?_⟩
     have n0_ := Aside0.mk (Kd.R_mono (Kd.R_keep (IsS99.apart (show IsS99 w0 _ g s0_0 t173 from F99.q2) (pR HO_160002) (by decide)) hk (fun _ h => h.2)) (fun _ h => h.1))
     have n1_ := Aside0.mk (KeepBut.blk hk (g' := gb153) (o := .cells #[.int .i64 0, .int .i64 0, .slice none 0 0] 29 (0, 0)) (pC BK153) NB153_0.out (by simp))
     have n2_ := Aside0.mk (KeepBut.blk hk (g' := gb159) (o := .cells #[.int .i64 a1, .int .i64 (wrap64 (1 + t154)), u160002] 29 (0, 0)) (pC BK159) NB159_0.out (by simp))
     have n3_ := Aside0.mk (KeepBut.trans F99.q0 hk (.inl rfl))
     have n4_ := Aside0.mk (hb)
     have n5_ := Aside0.mk (hi)
     clear HO_160002
     clear BK153
     clear BK159
     clear HK
     clear HB
     clear HI0
     have HO_160002 := n0_
     have BK153 := n1_
     have BK159 := n2_
     have HK := n3_
     have HB := n4_
     have HI0 := n5_
     clear n0_ n1_ n2_ n3_ n4_ n5_
     (try clear hb)
     (try clear hb2)
     (try clear hk)
     (try clear hi)
     refine hK.out _ _ ⟨(blk_cell BK159.out 0).trans rfl, (blk_cell BK159.out 1).trans rfl, (blk_cell BK159.out 2).trans rfl, HS3_, HS4_, HS5_, HS6_, HS7_, HS8_⟩ (fun hHeld => ?_)
     clear hK K
     refine norm_ (a' := ?_) ?_ ?_
     rotate_left
     ·show Act.put _ (some 65) _ = _
      exact pP
     refine pv 12 (some 66) HT_ rfl rfl pL ?_
     refine pv 13 (some 67) HT_ rfl rfl pL ?_
     refine one_ (i := 14) (N := some 68) F99.b2 rfl rfl (one_of HT_.out pL) (by decide) (fun K hK => ?_)
     refine value_ (w1 := ?_) (v := ?_) (by rfl) rfl ?_ ?_
     rotate_left 2
     ·go_simp
      constructor
      ·rfl
      ·rfl
     refine hK.out _ _ ⟨(blk_cell (blk_alloc BK159.out _) 0).trans rfl, (blk_cell (blk_alloc BK159.out _) 1).trans rfl, (blk_cell (blk_alloc BK159.out _) 2).trans rfl, (World.cell?_alloc_lt _ _ _ (World.block_lt_of_cell? _ _ (hHeld.2.2.2.1))).trans (hHeld.2.2.2.1), (World.cell?_alloc_lt _ _ _ (World.block_lt_of_cell? _ _ (hHeld.2.2.2.2.1))).trans (hHeld.2.2.2.2.1), (World.cell?_alloc_lt _ _ _ (World.block_lt_of_cell? _ _ (hHeld.2.2.2.2.2.1))).trans (hHeld.2.2.2.2.2.1), (World.cell?_alloc_lt _ _ _ (World.block_lt_of_cell? _ _ (hHeld.2.2.2.2.2.2.1))).trans (hHeld.2.2.2.2.2.2.1), (World.cell?_alloc_lt _ _ _ (World.block_lt_of_cell? _ _ (hHeld.2.2.2.2.2.2.2.1))).trans (hHeld.2.2.2.2.2.2.2.1), (World.cell?_alloc_lt _ _ _ (World.block_lt_of_cell? _ _ (hHeld.2.2.2.2.2.2.2.2))).trans (hHeld.2.2.2.2.2.2.2.2)⟩ (fun hHeld => ?_)
     clear hK K
     refine norm_ (a' := ?_) ?_ ?_
     rotate_left
     ·show Act.put _ (some 68) _ = _
      exact pP
     refine last_ (i := 15) (N := some 69) #[true, true, true, true, true, true, true, true, true, true, true, true, true, true, true, true, false, false] rfl rfl (one_of HT_.out pL) (by decide) (fun K hK => ?_)
     refine Kd.R_append_step k55 w.heap.size (by rfl) (.tmp 55) (.tmp 68) 27 55 (.agg #[(.int .i64 0), (.int .i64 0), (.int .i64 0)]) 24 rfl Try.underlying27 info55 rfl (by decide) (by omega) u160002 x160002_1 (⟨(rd_T63 l3 t172).f0, 0, wrap64 (1 + t175)⟩ : S55) [.int .i64 ((rd_T63 l3 t172).f0), .int .i64 0, .int .i64 (wrap64 (1 + t175))] (fun _ => True) (fun _ => False) rfl rfl ?aP (fun _ hk => hk.elim) ?aF ?aO (Below.refl _ _) ?aS ?aL ?_
     (case aP => exact k55_mkM _ _ _ (⟨(rd_T63 l3 t172).f0, 0, wrap64 (1 + t175)⟩ : S55))
     (case aF => exact (fun _ _ => trivial))
     (case aO => exact (pR HO_160002))
     (case aS => exact (keep_size (w := w) (g := g) (row := none) F99.q0))
     (case aL => have := LMc39.out; omega)
     intro v178 w43 ho hb hg hat
     rw [← Ny177.out] at ho
     have n0_ := Aside0.mk (blk_grown (g := gb153) (o := .cells #[.int .i64 0, .int .i64 0, .slice none 0 0] 29 (0, 0)) (pC BK153) hg (Kd.R_ne HO_160002.out BK153.out (by decide)))
     have n1_ := Aside0.mk (blk_grown (g := gb159) (o := .cells #[.int .i64 a1, .int .i64 (wrap64 (1 + t154)), u160002] 29 (0, 0)) (pC BK159) hg (Kd.R_ne HO_160002.out BK159.out (by decide)))
     have n2_ := Aside0.mk (IsS99.grown F99.q2 hg (IsS99.own_ne HI0.out HO_160002.out (by decide)))
     have n3_ := Aside0.mk (below_weaken F99.q1 HL.out hb)
     have n4_ := Aside0.mk (KeepBut.trans F99.q0 (KeepBut.of_grown hg g) (Kd.R_base2 HO_160002.out))
     have n5_ := Aside0.mk (ho)
     clear BK153
     clear BK159
     clear HI0
     clear HB
     clear HK
     clear HO_160002
     have BK153 := n0_
     have BK159 := n1_
     have HI0 := n2_
     have HB := n3_
     have HK := n4_
     have HO179 := n5_
     clear n0_ n1_ n2_ n3_ n4_ n5_
     clear ho hb hg hat
     obtain ⟨Ao44, co44, eo44⟩ := Kd.R_slice HO179.out
     (first | subst eo44 | (injection eo44 with f1_ f2_ f3_; have f4_ := f1_.symm; have f5_ := f3_.symm; clear f1_ f2_ f3_; subst f4_; subst f5_))
     refine hK.out _ _ ?_
     clear hK K
     refine norm_ (a' := ?_) ?_ ?_
     rotate_left
     ·show Act.put _ (some 69) _ = _
      exact pP
     refine pv 16 (some 70) HT_ rfl rfl pL ?_
     refine last_ (i := 17) (N := none) #[true, true, true, true, true, true, true, true, true, true, true, true, true, true, true, true, true, true] rfl rfl (one_of HT_.out pL) (by decide) (fun K hK => ?_)
     have hs45 : w43.cell? ⟨gb159, 2, none⟩ = some (u160002) := (blk_cell BK159.out 2).trans rfl
     have hfs45 := blk_frozen BK159.out 2
     have hns45_0 := NB153_159.out
     have hms45_0 := NB159_153.out
     refine skip_ (w1 := ?_) (by rfl) rfl ?_ ?_
     rotate_left
     ·go_simp
      rfl
     refine hK.out _ _ ?_
     clear hK K
     refine done_ (done_of HT_.out pL) ?_
     try go_wp2
     go_roundg kj17
     case measure => have := HK1.out; have := HJ17.out; omega
     case rel => exact ⟨(wrap64 (x11_1 + 1)), (t176), (y177), (.slice Ao44 y177.length co44), pF, H', ⟨by have := HK1.out; have := HJ17.out; omega⟩, ⟨by (with_reducible repeat (first | apply Kd.R_alloc | apply Kd.R_drewN | apply Kd.R_drew)); exact Kd.R_mono (Kd.R_far (p := ⟨gb159, 2, none⟩) (Kd.R_types HO179.out BK159.out (by decide)) (fun _ hk => hk.2) (.slice Ao44 y177.length co44)) (fun _ hk => trivial)⟩, ⟨by (with_reducible repeat (first | refine blk_drewN ?_ _ | refine blk_drew ?_ | refine blk_alloc ?_ _)); refine blk_far ?_ NB153_159.out _; (with_reducible repeat (first | refine blk_drewN ?_ _ | refine blk_drew ?_ | refine blk_alloc ?_ _)); exact BK153.out⟩, ⟨by (with_reducible repeat (first | refine blk_drewN ?_ _ | refine blk_drew ?_ | refine blk_alloc ?_ _)); refine blk_put (cs := #[.int .i64 a1, .int .i64 (wrap64 (1 + t154)), u160002]) ?_ 2 _ rfl; (with_reducible repeat (first | refine blk_drewN ?_ _ | refine blk_drew ?_ | refine blk_alloc ?_ _)); exact BK159.out⟩, ⟨by repeat (first | (with_reducible first | exact HI0.out | apply IsS99.alloc | apply IsS99.drewN | apply IsS99.drew | apply IsS99.set_1 | refine IsS99.far ?_ NB0_153.out _ | refine IsS99.far ?_ NB0_159.out _) | exact HI0.out)⟩, ⟨by repeat (first | (with_reducible first | exact HK.out | apply KeepBut.set_ | apply keep_drewN | apply keep_drew | apply keep_alloc | refine keep_far ?_ GW153.out _ | refine keep_far ?_ GW159.out _) | exact HK.out)⟩, ⟨by repeat (first | (with_reducible first | exact HB.out | apply below_alloc | apply pw_below_drewN | apply below_drew1 | refine below_set ?_ (IsS99.ge HI0.out) | refine below_set ?_ GE153.out | refine below_set ?_ GE159.out) | exact HB.out)⟩⟩
/-! ### spec_l91Dishes: function 88 -/
def spec_l91Dishes.l0 : Nat → List (S63) → List (S29) → Int → Int → List Int → Int → Option ((List (S29)) × Int)
 | 0, _, _, _, _, _, _ => none
 | k + 1, x1, x5, x6, x7, x1000, x1001 => if x7 < x6 then ((spec_l91Dish.f k x1000 x1001 (wrap64 ((wrap64 (2 * x7)) + 1)) x5 x1).bind fun bt185 => (if x5.length < 3518437208883 then (spec_l91Dishes.l0 k x1 (x5 ++ [(⟨bt185.1, bt185.2.1, bt185.2.2.1⟩ : S29)]) x6 (wrap64 (x7 + 1)) x1000 bt185.2.2.2) else (none))) else ((spec_l6Rd_pick.f k x1000 x1001 30).bind fun bt194 => (if bt194.1 = 0 then ((spec_l6Rd_pick.f k x1000 bt194.2 x6).bind fun bt196 => ((spec_l6Rd_pick.f k x1000 bt196.2 2).bind fun bt198 => (if 0 ≤ bt196.1 then (if bt196.1 < (x5.length : Int) then (some ((x5.set (bt196.1 : Int).toNat (⟨(rd_T29 x5 bt196.1).f0, wrap64 (bt198.1 * 13), (rd_T29 x5 bt196.1).f2⟩ : S29)), bt198.2)) else (none)) else (none)))) else (if bt194.1 = 1 then (if 0 < (x5.length : Int) then (if ((rd_T29 x5 0).f2).length < 5864062014805 then (some ((x5.set (0 : Int).toNat (⟨(rd_T29 x5 0).f0, (rd_T29 x5 0).f1, (((rd_T29 x5 0).f2) ++ [(⟨0, (rd_T29 x5 0).f0, 1⟩ : S55)])⟩ : S29)), bt194.2)) else (none)) else (none)) else (if bt194.1 = 2 then (if 0 < (x5.length : Int) then (if ((rd_T29 x5 0).f2).length < 5864062014805 then (some ((x5.set (0 : Int).toNat (⟨(rd_T29 x5 0).f0, (rd_T29 x5 0).f1, (((rd_T29 x5 0).f2) ++ [(⟨20, 0, 1⟩ : S55)])⟩ : S29)), bt194.2)) else (none)) else (none)) else (if bt194.1 = 3 then (if 0 < (x5.length : Int) then (if x5.length < 3518437208883 then (some ((x5 ++ [(⟨(rd_T29 x5 0).f0, (rd_T29 x5 0).f1, (rd_T29 x5 0).f2⟩ : S29)]), bt194.2)) else (none)) else (none)) else (some (x5, bt194.2)))))))
def spec_l91Dishes.f (k : Nat) (s0_0 : List Int) (s0_1 : Int) (l1 : List (S63)) : Option ((List (S29)) × Int) := (spec_l6Rd_pick.f k s0_0 s0_1 4).bind fun bt183 => (spec_l91Dishes.l0 k l1 (([] : List (S29))) (wrap64 (1 + bt183.1)) 0 s0_0 bt183.2)
theorem spec_l91Dishes.mono_l : ∀ k, (∀ y0 y1 y2 y3 y4 y5, LeO (spec_l91Dishes.l0 k y0 y1 y2 y3 y4 y5) (spec_l91Dishes.l0 (k + 1) y0 y1 y2 y3 y4 y5))
 | 0 => fun _ _ _ _ _ _ r h => by simp [spec_l91Dishes.l0] at h
 | k + 1 => by
  have ih0 := spec_l91Dishes.mono_l k
  ·intro y0 y1 y2 y3 y4 y5
   unfold spec_l91Dishes.l0
   repeat' first
   | (with_reducible exact ih0 _ _ _ _ _ _)
   | (with_reducible exact spec_l6Rd_pick.mono _ _ _ _)
   | (with_reducible exact spec_l91Dish.mono _ _ _ _ _ _)
   | (with_reducible exact LeO.refl _)
   | (with_reducible exact LeO.none _)
   | (with_reducible refine LeO.ite ?_ ?_)
   | (with_reducible refine LeO.bind ?_ (fun _ => ?_))
   | exact ih0 _ _ _ _ _ _
   | exact spec_l6Rd_pick.mono _ _ _ _
   | exact spec_l91Dish.mono _ _ _ _ _ _
   | exact LeO.none _
   | refine LeO.ite ?_ ?_
   | refine LeO.bind ?_ (fun _ => ?_)
theorem spec_l91Dishes.mono : ∀ a0 a1 a2 k, LeO (spec_l91Dishes.f k a0 a1 a2) (spec_l91Dishes.f (k + 1) a0 a1 a2) := by
 intro a0 a1 a2 k
 have ih0 := spec_l91Dishes.mono_l k
 unfold spec_l91Dishes.f
 repeat' first
   | (with_reducible exact ih0 _ _ _ _ _ _)
   | (with_reducible exact spec_l6Rd_pick.mono _ _ _ _)
   | (with_reducible exact spec_l91Dish.mono _ _ _ _ _ _)
   | (with_reducible exact LeO.refl _)
   | (with_reducible exact LeO.none _)
   | (with_reducible refine LeO.ite ?_ ?_)
   | (with_reducible refine LeO.bind ?_ (fun _ => ?_))
   | exact ih0 _ _ _ _ _ _
   | exact spec_l6Rd_pick.mono _ _ _ _
   | exact spec_l91Dish.mono _ _ _ _ _ _
   | exact LeO.none _
   | refine LeO.ite ?_ ?_
   | refine LeO.bind ?_ (fun _ => ?_)
def spec_l91Dishes.T11 : Bool × List (List Nat × List Nat) := (true, [([], []), ([], []), ([1], [1]), ([2], [2]), ([3], [3]), ([], []), ([5], [5]), ([6], [6]), ([7], [7]), ([8], [8]), ([9], [9]), ([4, 10], [4, 10]), ([0, 0, 1, 2, 3, 4, 5, 6, 7, 8, 9, 10, 11], [0]), ([12, 0, 1, 2, 3, 4, 5, 6, 7, 8, 9, 10, 11], [12]), ([13, 11, 11, 0, 1, 2, 3, 4, 5, 6, 7, 8, 9, 10, 11], [11, 13])])
def spec_l91Dishes.B11 : List Nat := [0, 0, 2, 6, 14, 0, 32, 96, 224, 480, 992, 2046, 4095, 8191, 16383]
theorem spec_l91Dishes.tab11 : rtab .any (opsOf Try.f88 11) = spec_l91Dishes.T11 := by kernel_rfl
theorem spec_l91Dishes.bits11 : waitsOk spec_l91Dishes.T11.2 spec_l91Dishes.B11 = true := by kernel_rfl
theorem F88.q0 {P : Prop} (h : P := by first | (rw [add_block]; exact (fun e_ => ((HL201_2.out.1 _ e_.symm).2) rfl)) | (show some (Addr.add _ _).block ≠ _; rw [add_block]; exact (fun e_ => ((HL201_2.out.1 _ e_.symm).2) rfl)) | exact (fun e_ => ((HL201_2.out.1 _ e_.symm).2) rfl)) : P := h
theorem F88.q1 {P : Prop} (h : P := by repeat (first | (with_reducible first | exact HI0.out | apply IsS99.alloc | apply IsS99.drewN | apply IsS99.drew | apply IsS99.set_1) | exact HI0.out)) : P := h
theorem F88.q2 {P : Prop} (h : P := by repeat (first | (with_reducible first | exact HB.out | apply below_alloc | apply pw_below_drewN | apply below_drew1 | refine below_set ?_ (IsS99.ge HI0.out)) | exact HB.out)) : P := h
theorem F88.q3 {P : Prop} (h : P := by (with_reducible repeat (first | apply Kd.S_alloc | apply Kd.S_drewN | apply Kd.S_drew)); exact HO_5.out) : P := h
theorem F88.q4 {P : Prop} (h : P := by first | (rw [add_block]; exact Kd.S_lt HO_5.out _ rfl) | (show (Addr.add _ _).block < _; rw [add_block]; exact Kd.S_lt HO_5.out _ rfl) | exact Kd.S_lt HO_5.out _ rfl) : P := h
set_option maxHeartbeats 8000000 in
set_option maxRecDepth 100000 in
theorem spec_l91Dishes.calls (k : Nat) (g : Nat) (s0_0 : List Int) (s0_1 : Int) (A1 : Option Addr) (c1 : Nat) (l1 : List (S63)) (r1 : List (S29)) (r2 : Int) (w0 w : World) (hI : IsS99 w0 w g s0_0 s0_1) (hB : Below w0.heap.size w0 w) (hr1 : ∀ W_, KeepBut w W_ g none → Kd.C k63 W_ A1 l1.length l1) (hc1 : l1.length ≤ c1) (h : spec_l91Dishes.f k s0_0 s0_1 l1 = some (r1, r2)) :
  Calls Try.prog 88 #[.pointer (some ⟨g, 0, none⟩), .slice A1 l1.length c1] w fun e w' => ∃ v0_ : Value, e = .returned (v0_) ∧ Kd.N k29 29 w' w.heap.size (fun k_ => (w.heap.size ≤ k_)) v0_ r1 ∧ IsS99 w0 w' g s0_0 r2 ∧ Below w0.heap.size w0 w' ∧ KeepBut w w' g none := by
 have hu55 := Try.underlying55
 have hu29 := Try.underlying29
 have HR1 := Aside0.mk hr1
 have HC1 := Aside0.mk hc1
 clear hr1 hc1
 have HI0 := Aside0.mk hI
 have HK := Aside0.mk (KeepBut.refl w g none)
 have HL := Aside0.mk hB.size
 clear hI
 have HW0 := Aside0.mk hB.size
 have HB := Aside0.mk hB
 clear hB
 have H : ((spec_l6Rd_pick.f k s0_0 s0_1 4).bind fun bt183 => (spec_l91Dishes.l0 k l1 (([] : List (S29))) (wrap64 (1 + bt183.1)) 0 s0_0 bt183.2)) = some (r1, r2) := h
 clear h
 obtain ⟨y180, hy180⟩ : ∃ y_ : List (S29), y_ = (([] : List (S29))) := ⟨_, rfl⟩
 replace H : ((spec_l6Rd_pick.f k s0_0 s0_1 4).bind fun bt183 => (spec_l91Dishes.l0 k l1 y180 (wrap64 (1 + bt183.1)) 0 s0_0 bt183.2)) = some (r1, r2) := pJ hy180 H
 have Ny180 := Aside0.mk hy180
 clear hy180
 replace H := Option.bind_eq_some_iff.mp H
 obtain ⟨⟨t183, t184⟩, A30, H⟩ := H
 replace H : (spec_l91Dishes.l0 k l1 y180 (wrap64 (1 + t183)) 0 s0_0 t184) = some (r1, r2) := H
 have A3 := Aside0.mk A30
 clear A30
 have H' := Aside0.mk H
 clear H
 go_enter Try.func88, Try.ntmps88
 go_wp2_with (first | ((with_reducible refine gate_dst (N := 8) rfl ?_); refine Kd.S_lit k29 _ 29 ?hg (N := 8) ?hd (xs := ([] : List (S29))) (inner := []) (ok := fun _ => True) (okp := fun _ => True) ?hr ?hp (fun _ hk => hk) trivial (Below.refl _ _) (Nat.le_refl _) (by simp) ?_; (case hd => rfl); (case hg => rfl); (case hr => first | (go_simp; done) | (go_simp; rfl)); (case hp => exact (Reps.none _ _)); intro v181 w4 ho5 hb hg_ hnew_; clear hg_ hnew_; (first | rw [← Ny180.out] at ho5 | (simp only [Int.reduceToNat] at ho5; rw [← Ny180.out] at ho5)); have n0_ := Aside0.mk (Kd.S_lower (Kd.S_newM (M := fun k_ => (w.heap.size ≤ k_)) ho5 (keep_size (w := w) (g := g) (row := none) pK) (fun k_ h_ => h_)) (keep_size (w := w) (g := g) (row := none) pK)); have n1_ := Aside0.mk (IsS99.below F88.q1 hb); have n2_ := Aside0.mk (KeepBut.trans pK (KeepBut.of_below hb g none) (.inl rfl)); have n3_ := Aside0.mk (below_step F88.q2 hb); clear HI0; clear HK; clear HB; have HO182 := n0_; have HI0 := n1_; have HK := n2_; have HB := n3_; clear n0_ n1_ n2_ n3_; clear hb ho5) | ((with_reducible refine gate_callee (f := 55) rfl ?_); refine goesL_ (some 10) rfl rfl Try.func55 pL rfl #[.pointer (some ⟨g, 0, none⟩), .int .i64 4] rfl pM ?_; (with_reducible refine (spec_l6Rd_pick.calls k g s0_0 s0_1 4 t183 t184 w0 _ ?side1 ?side2 A3.out).mono ?_); (case side1 => exact F88.q1); (case side2 => exact F88.q2); rintro e w6 ⟨rfl, hi, hb, hk⟩; refine ⟨_, rfl, ?_⟩; have n0_ := Aside0.mk (Kd.S_mono (Kd.S_keep (IsS99.apartS (show IsS99 w0 _ g s0_0 s0_1 from F88.q1) (by (with_reducible repeat (first | apply Kd.S_alloc | apply Kd.S_drewN | apply Kd.S_drew)); exact HO182.out) (by decide)) hk (fun _ h => h.2)) (fun _ h => h.1)); have n1_ := Aside0.mk (KeepBut.trans pK hk (.inl rfl)); have n2_ := Aside0.mk (hb); have n3_ := Aside0.mk (hi); clear HO182; clear HK; clear HB; clear HI0; have HO182 := n0_; have HK := n1_; have HB := n2_; have HI0 := n3_; clear n0_ n1_ n2_ n3_; (try clear hb); (try clear hb2); (try clear hk); (try clear hi)))
 go_loopg [5, 7] k (fun kq v5 v7 w' => ∃ (x5_1 : List (S29)) (x7_1 : Int) (x1001_1 : Int), v7 = .int .i64 x7_1 ∧ Aside0 (spec_l91Dishes.l0 kq l1 x5_1 (wrap64 (1 + t183)) x7_1 s0_0 x1001_1 = some (r1, r2)) ∧ Aside0 (kq ≤ k) ∧ Aside0 (Kd.S k29 29 w' w.heap.size (fun k_ => (w.heap.size ≤ k_)) v5 x5_1) ∧ Aside0 (IsS99 w0 w' g s0_0 x1001_1) ∧ Aside0 (KeepBut w w' g none) ∧ Aside0 (Below w0.heap.size w0 w'))
 case atStart => exact ⟨(y180), (0), (t184), pF, H', ⟨Nat.le_refl _⟩, ⟨by (with_reducible repeat (first | apply Kd.S_alloc | apply Kd.S_drewN | apply Kd.S_drew)); exact Kd.S_mono HO182.out (fun _ hk => hk.1)⟩, ⟨by repeat (first | (with_reducible first | exact HI0.out | apply IsS99.alloc | apply IsS99.drewN | apply IsS99.drew | apply IsS99.set_1) | exact HI0.out)⟩, ⟨pK⟩, ⟨by repeat (first | (with_reducible first | exact HB.out | apply below_alloc | apply pw_below_drewN | apply below_drew1 | refine below_set ?_ (IsS99.ge HI0.out)) | exact HB.out)⟩⟩
 case round =>
  clear H'
  try clear c1
  try clear p2
  try clear c5
  try clear p6
  obtain ⟨x5_1, x7_1, x1001_1, rfl, HA, HK1, HO_5, HI0, HK, HB⟩ := hrel
  cases gk with
  | zero => exact absurd HA.out (by simp [spec_l91Dishes.l0])
  | succ k1 =>
   have H := HA.out
   clear HA
   simp only [spec_l91Dishes.l0] at H
   by_cases c7 : x7_1 < (wrap64 (1 + t183))
   ·rw [if_pos c7] at H
    have c7b0 : decide (x7_1 < (wrap64 (1 + t183))) = true := decide_eq_true c7
    clear c7
    replace H := Option.bind_eq_some_iff.mp H
    obtain ⟨⟨t185, t186, t187, t190⟩, A80, H⟩ := H
    replace H : (if x5_1.length < 3518437208883 then (spec_l91Dishes.l0 k1 l1 (x5_1 ++ [(⟨t185, t186, t187⟩ : S29)]) (wrap64 (1 + t183)) (wrap64 (x7_1 + 1)) s0_0 t190) else (none)) = some (r1, r2) := H
    have A8 := Aside0.mk A80
    clear A80
    rcases (Classical.em (x5_1.length < 3518437208883)).symm with c9 | c9
    ·rw [if_neg c9] at H
     exact absurd H (by simp)
    rw [if_pos c9] at H
    have LMc9 := Aside0.mk c9
    clear c9
    obtain ⟨y191, hy191⟩ : ∃ y_ : List (S29), y_ = (x5_1 ++ [(⟨t185, t186, t187⟩ : S29)]) := ⟨_, rfl⟩
    replace H : (spec_l91Dishes.l0 k1 l1 y191 (wrap64 (1 + t183)) (wrap64 (x7_1 + 1)) s0_0 t190) = some (r1, r2) := pJ hy191 H
    have Ny191 := Aside0.mk hy191
    clear hy191
    have H' := Aside0.mk H
    clear H
    obtain ⟨Ao10, co10, eo10⟩ := Kd.S_slice HO_5.out
    subst eo10
    go_wp2_with (first | ((with_reducible refine gate_callee (f := 99) rfl ?_); refine goesL_ (some 24) rfl rfl Try.func99 pL rfl #[.pointer (some ⟨g, 0, none⟩), .int .i64 (wrap64 ((wrap64 (2 * x7_1)) + 1)), .slice Ao10 x5_1.length co10, .slice A1 l1.length c1] rfl pM ?_; (with_reducible refine (spec_l91Dish.calls k1 g s0_0 x1001_1 (wrap64 ((wrap64 (2 * x7_1)) + 1)) _ _ x5_1 _ _ l1 t185 t186 t187 t190 w0 _ ?side1 ?side2 ?side3 ?side4 ?side5 ?side6 A8.out).mono ?_); (case side1 => exact F88.q1); (case side2 => exact F88.q2); (case side3 => exact Kd.C_foot_own ((Kd.S_R (IsS99.apartS (show IsS99 w0 _ g s0_0 x1001_1 from F88.q1) F88.q3 (by decide)))) (fun _ h_ => h_.2)); (case side4 => exact (Kd.S_reads' HO_5.out).2.1); (case side5 => exact Kd.C_foot_step HR1.out pK); (case side6 => exact HC1.out); rintro e w11 ⟨v188, rfl, ho0, hi, hb, hk⟩; refine ⟨_, rfl, ?_⟩; have n0_ := Aside0.mk (Kd.S_mono (Kd.S_told (Kd.S_oldK (IsS99.apartS (show IsS99 w0 _ g s0_0 x1001_1 from F88.q1) F88.q3 (by decide)) hk) (Kd.R_base ho0)) (fun _ h_ => h_.1)); have n1_ := Aside0.mk (Kd.R_lower (Kd.R_newM (M := fun k_ => (w.heap.size ≤ k_)) ho0 (keep_size (w := w) (g := g) (row := none) pK) (fun k_ h_ => h_)) (keep_size (w := w) (g := g) (row := none) pK)); have n2_ := Aside0.mk (KeepBut.trans pK hk (.inl rfl)); have n3_ := Aside0.mk (hb); have n4_ := Aside0.mk (hi); clear HO_5; clear HK; clear HB; clear HI0; have HO_5 := n0_; have HO189 := n1_; have HK := n2_; have HB := n3_; have HI0 := n4_; clear n0_ n1_ n2_ n3_ n4_; (try clear hb); (try clear hb2); (try clear hk); (try clear hi); (try clear ho0); obtain ⟨Ao13, co13, eo13⟩ := Kd.R_slice HO189.out; subst eo13) | ((with_reducible refine gate_builtin (b := .append) (xs := #[.tmp 17, .tmp 25]) rfl ?_); at_builtin; refine Kd.S_append k29 w.heap.size rfl (.tmp 17) (.tmp 25) 23 29 (.agg #[(.int .i64 0), (.int .i64 0), (.slice none 0 0)]) 40 rfl Try.underlying23 info29 rfl (by decide) (by omega) (.slice Ao10 x5_1.length co10) x5_1 (⟨t185, t186, t187⟩ : S29) [.int .i64 t185, .int .i64 t186, .slice Ao13 t187.length co13] (fun k_ => (w.heap.size ≤ k_)) (fun k_ => some k_ = (.slice Ao13 t187.length co13 : Value).ownBlock) rfl rfl ?aP (fun k_ hk_ => ((Kd.R_mono (ok' := fun k_ => ((fun k_ => (w.heap.size ≤ k_))) k_ ∧ some k_ ≠ (.slice Ao10 x5_1.length co10 : Value).ownBlock) (Kd.R_apart' (HO189.out) (Kd.S_typed HO_5.out) (by decide)) (fun k_ hk => ⟨hk.1.1, hk.2⟩))).1 k_ hk_.symm) ?aF ?aO (Below.refl _ _) ?aS ?aL ?_; (case aP => exact k29_mkM _ _ _ (⟨t185, t186, t187⟩ : S29) (Kd.R_mono (Kd.R_tight rfl (Kd.R_mono (ok' := fun k_ => ((fun k_ => (w.heap.size ≤ k_))) k_ ∧ some k_ ≠ (.slice Ao10 x5_1.length co10 : Value).ownBlock) (Kd.R_apart' (HO189.out) (Kd.S_typed HO_5.out) (by decide)) (fun k_ hk => ⟨hk.1.1, hk.2⟩))) (fun _ h_ => h_))); (case aF => exact (fun k_ hk => (Nat.le_trans (keep_size (w := w) (g := g) (row := none) pK) hk))); (case aO => exact (by (with_reducible repeat (first | apply Kd.S_alloc | apply Kd.S_drewN | apply Kd.S_drew)); exact Kd.S_mono HO_5.out (fun k_ hk => ⟨hk.1, fun e_ => hk.2 e_⟩))); (case aS => exact (keep_size (w := w) (g := g) (row := none) pK)); (case aL => have := LMc9.out; omega); intro v192 w12 ho hb hg hat; rw [← Ny191.out] at ho; have n0_ := Aside0.mk (IsS99.grown F88.q1 hg (IsS99.own_neS HI0.out HO_5.out (by decide))); have n1_ := Aside0.mk (below_weaken F88.q2 HL.out hb); have n2_ := Aside0.mk (KeepBut.trans pK (KeepBut.of_grown hg g) (Kd.S_base2 HO_5.out)); have n3_ := Aside0.mk (ho); clear HI0; clear HB; clear HK; clear HO_5; clear HO189; have HI0 := n0_; have HB := n1_; have HK := n2_; have HO193 := n3_; clear n0_ n1_ n2_ n3_; clear ho hb hg hat))
    go_roundg k1
    case measure => have := HK1.out; omega
    case rel => exact ⟨(y191), (wrap64 (x7_1 + 1)), (t190), pF, H', ⟨by have := HK1.out; omega⟩, ⟨by (with_reducible repeat (first | apply Kd.S_alloc | apply Kd.S_drewN | apply Kd.S_drew)); exact HO193.out⟩, ⟨by repeat (first | (with_reducible first | exact HI0.out | apply IsS99.alloc | apply IsS99.drewN | apply IsS99.drew | apply IsS99.set_1) | exact HI0.out)⟩, ⟨pK⟩, ⟨by repeat (first | (with_reducible first | exact HB.out | apply below_alloc | apply pw_below_drewN | apply below_drew1 | refine below_set ?_ (IsS99.ge HI0.out)) | exact HB.out)⟩⟩
   rw [if_neg c7] at H
   have c7b0 : decide (x7_1 < (wrap64 (1 + t183))) = false := decide_eq_false c7
   clear c7
   replace H := Option.bind_eq_some_iff.mp H
   obtain ⟨⟨t194, t195⟩, A140, H⟩ := H
   replace H : (if t194 = 0 then ((spec_l6Rd_pick.f k1 s0_0 t195 (wrap64 (1 + t183))).bind fun bt196 => ((spec_l6Rd_pick.f k1 s0_0 bt196.2 2).bind fun bt198 => (if 0 ≤ bt196.1 then (if bt196.1 < (x5_1.length : Int) then (some ((x5_1.set (bt196.1 : Int).toNat (⟨(rd_T29 x5_1 bt196.1).f0, wrap64 (bt198.1 * 13), (rd_T29 x5_1 bt196.1).f2⟩ : S29)), bt198.2)) else (none)) else (none)))) else (if t194 = 1 then (if 0 < (x5_1.length : Int) then (if ((rd_T29 x5_1 0).f2).length < 5864062014805 then (some ((x5_1.set (0 : Int).toNat (⟨(rd_T29 x5_1 0).f0, (rd_T29 x5_1 0).f1, (((rd_T29 x5_1 0).f2) ++ [(⟨0, (rd_T29 x5_1 0).f0, 1⟩ : S55)])⟩ : S29)), t195)) else (none)) else (none)) else (if t194 = 2 then (if 0 < (x5_1.length : Int) then (if ((rd_T29 x5_1 0).f2).length < 5864062014805 then (some ((x5_1.set (0 : Int).toNat (⟨(rd_T29 x5_1 0).f0, (rd_T29 x5_1 0).f1, (((rd_T29 x5_1 0).f2) ++ [(⟨20, 0, 1⟩ : S55)])⟩ : S29)), t195)) else (none)) else (none)) else (if t194 = 3 then (if 0 < (x5_1.length : Int) then (if x5_1.length < 3518437208883 then (some ((x5_1 ++ [(⟨(rd_T29 x5_1 0).f0, (rd_T29 x5_1 0).f1, (rd_T29 x5_1 0).f2⟩ : S29)]), t195)) else (none)) else (none)) else (some (x5_1, t195)))))) = some (r1, r2) := H
   have A14 := Aside0.mk A140
   clear A140
   by_cases c15 : t194 = 0
   ·rw [if_pos c15] at H
    have c15b0 : (t194 == 0) = true := beq_iff_eq.mpr c15
    have c15b1 : (t194 != 0) = false := bne_eq_false_iff_eq.mpr c15
    clear c15
    replace H := Option.bind_eq_some_iff.mp H
    obtain ⟨⟨t196, t197⟩, A160, H⟩ := H
    replace H : ((spec_l6Rd_pick.f k1 s0_0 t197 2).bind fun bt198 => (if 0 ≤ t196 then (if t196 < (x5_1.length : Int) then (some ((x5_1.set (t196 : Int).toNat (⟨(rd_T29 x5_1 t196).f0, wrap64 (bt198.1 * 13), (rd_T29 x5_1 t196).f2⟩ : S29)), bt198.2)) else (none)) else (none))) = some (r1, r2) := H
    have A16 := Aside0.mk A160
    clear A160
    replace H := Option.bind_eq_some_iff.mp H
    obtain ⟨⟨t198, t199⟩, A170, H⟩ := H
    replace H : (if 0 ≤ t196 then (if t196 < (x5_1.length : Int) then (some ((x5_1.set (t196 : Int).toNat (⟨(rd_T29 x5_1 t196).f0, wrap64 (t198 * 13), (rd_T29 x5_1 t196).f2⟩ : S29)), t199)) else (none)) else (none)) = some (r1, r2) := H
    have A17 := Aside0.mk A170
    clear A170
    rcases (Classical.em (0 ≤ t196)).symm with c18 | c18
    ·rw [if_neg c18] at H
     exact absurd H (by simp)
    rw [if_pos c18] at H
    have c18b0 : decide (0 ≤ t196) = true := decide_eq_true c18
    clear c18
    rcases (Classical.em (t196 < (x5_1.length : Int))).symm with c19 | c19
    ·rw [if_neg c19] at H
     exact absurd H (by simp)
    rw [if_pos c19] at H
    have c19b0 : decide (t196 < (x5_1.length : Int)) = true := decide_eq_true c19
    clear c19
    obtain ⟨y200, hy200⟩ : ∃ y_ : List (S29), y_ = (x5_1.set (t196 : Int).toNat (⟨(rd_T29 x5_1 t196).f0, wrap64 (t198 * 13), (rd_T29 x5_1 t196).f2⟩ : S29)) := ⟨_, rfl⟩
    replace H : (some (y200, t199)) = some (r1, r2) := pJ hy200 H
    have Ny200 := Aside0.mk hy200
    clear hy200
    simp only [Option.some.injEq, Prod.mk.injEq] at H
    obtain ⟨rfl, rfl⟩ := H
    go_wp2_with (first | ((with_reducible refine gate_callee (f := 55) rfl ?_); refine goesL_ (some 28) rfl rfl Try.func55 pL rfl #[.pointer (some ⟨g, 0, none⟩), .int .i64 30] rfl pM ?_; (with_reducible refine (spec_l6Rd_pick.calls k1 g s0_0 x1001_1 30 t194 t195 w0 _ ?side1 ?side2 A14.out).mono ?_); (case side1 => exact F88.q1); (case side2 => exact F88.q2); rintro e w21 ⟨rfl, hi, hb, hk⟩; refine ⟨_, rfl, ?_⟩; have n0_ := Aside0.mk (Kd.S_mono (Kd.S_keep (IsS99.apartS (show IsS99 w0 _ g s0_0 x1001_1 from F88.q1) F88.q3 (by decide)) hk (fun _ h => h.2)) (fun _ h => h.1)); have n1_ := Aside0.mk (KeepBut.trans pK hk (.inl rfl)); have n2_ := Aside0.mk (hb); have n3_ := Aside0.mk (hi); clear HO_5; clear HK; clear HB; clear HI0; have HO_5 := n0_; have HK := n1_; have HB := n2_; have HI0 := n3_; clear n0_ n1_ n2_ n3_; (try clear hb); (try clear hb2); (try clear hk); (try clear hi)) | ((with_reducible refine gate_callee (f := 55) rfl ?_); refine goesL_ (some 34) rfl rfl Try.func55 pL rfl #[.pointer (some ⟨g, 0, none⟩), .int .i64 (wrap64 (1 + t183))] rfl pM ?_; (with_reducible refine (spec_l6Rd_pick.calls k1 g s0_0 t195 (wrap64 (1 + t183)) t196 t197 w0 _ ?side1 ?side2 A16.out).mono ?_); (case side1 => exact F88.q1); (case side2 => exact F88.q2); rintro e w22 ⟨rfl, hi, hb, hk⟩; refine ⟨_, rfl, ?_⟩; have n0_ := Aside0.mk (Kd.S_mono (Kd.S_keep (IsS99.apartS (show IsS99 w0 _ g s0_0 t195 from F88.q1) F88.q3 (by decide)) hk (fun _ h => h.2)) (fun _ h => h.1)); have n1_ := Aside0.mk (KeepBut.trans pK hk (.inl rfl)); have n2_ := Aside0.mk (hb); have n3_ := Aside0.mk (hi); clear HO_5; clear HK; clear HB; clear HI0; have HO_5 := n0_; have HK := n1_; have HB := n2_; have HI0 := n3_; clear n0_ n1_ n2_ n3_; (try clear hb); (try clear hb2); (try clear hk); (try clear hi)) | ((with_reducible refine gate_callee (f := 55) rfl ?_); refine goesL_ (some 36) rfl rfl Try.func55 pL rfl #[.pointer (some ⟨g, 0, none⟩), .int .i64 2] rfl pM ?_; (with_reducible refine (spec_l6Rd_pick.calls k1 g s0_0 t197 2 t198 t199 w0 _ ?side1 ?side2 A17.out).mono ?_); (case side1 => exact F88.q1); (case side2 => exact F88.q2); rintro e w23 ⟨rfl, hi, hb, hk⟩; refine ⟨_, rfl, ?_⟩; have n0_ := Aside0.mk (Kd.S_mono (Kd.S_keep (IsS99.apartS (show IsS99 w0 _ g s0_0 t197 from F88.q1) F88.q3 (by decide)) hk (fun _ h => h.2)) (fun _ h => h.1)); have n1_ := Aside0.mk (KeepBut.trans pK hk (.inl rfl)); have n2_ := Aside0.mk (hb); have n3_ := Aside0.mk (hi); clear HO_5; clear HK; clear HB; clear HI0; have HO_5 := n0_; have HK := n1_; have HB := n2_; have HI0 := n3_; clear n0_ n1_ n2_ n3_; (try clear hb); (try clear hb2); (try clear hk); (try clear hi); have p20 : 0 ≤ (t196 : Int) := of_decide_eq_true pA; have q20 : (t196 : Int) < ((x5_1.length : Int) : Int) := of_decide_eq_true pA; obtain ⟨go20, co20, eo20, gb20, gl20, cl20, HG20⟩ := Kd.S_form HO_5.out (by omega); (first | cases eo20 | (injection eo20 with ea_ en_ ec_; (first | subst ea_ | (injection ea_ with ea_; subst ea_)); subst ec_; clear en_)); have GB20 := Aside0.mk gb20; have GG20 := Aside0.mk HG20; clear gb20 gl20 HG20; obtain ⟨_, ce20, hcl20, hM20, hcc20, hfr20, _, _⟩ := Kd.S_elem HO_5.out z29 (t196 : Int) p20 q20; obtain ⟨ve20_2, rfl, ge20_2⟩ := k29_openM hM20; have hx20_0 : w23.cell? ⟨go20, (t196 : Int).toNat * 3, none⟩ = some (.int .i64 ((rd_T29 x5_1 t196).f0)) := hcc20 0 _ rfl; have hx20_1 : w23.cell? ⟨go20, (t196 : Int).toNat * 3 + 1, none⟩ = some (.int .i64 ((rd_T29 x5_1 t196).f1)) := hcc20 1 _ rfl; have hx20_2 : w23.cell? ⟨go20, (t196 : Int).toNat * 3 + 2, none⟩ = some (ve20_2) := hcc20 2 _ rfl; have hf20_0 : w23.frozen? ⟨go20, (t196 : Int).toNat * 3, none⟩ = false := hfr20 0; have hf20_1 : w23.frozen? ⟨go20, (t196 : Int).toNat * 3 + 1, none⟩ = false := hfr20 1; have hf20_2 : w23.frozen? ⟨go20, (t196 : Int).toNat * 3 + 2, none⟩ = false := hfr20 2; clear hcl20 hcc20 hfr20 hM20; replace p20 := eq_true p20; replace q20 := eq_true q20; have HX24 := Aside0.mk (show Kd.S k29 29 w23 w.heap.size (fun k_ => ((fun k_ => (w.heap.size ≤ k_))) k_ ∧ ¬ ((fun _ => False)) k_) (.slice (some ⟨go20, 0, none⟩) x5_1.length co20) x5_1 from (by (with_reducible repeat (first | apply Kd.S_alloc | apply Kd.S_drewN | apply Kd.S_drew)); exact Kd.S_mono HO_5.out (fun k_ hk => ⟨hk, fun e_ => e_⟩))); obtain ⟨oki24, ce24, hcl24, hM24, hcc24, hfr24, hoki24, hH24⟩ := Kd.S_elem HX24.out z29 (t196 : Int) (of_decide_eq_true pA) (by have h_ : (t196 : Int) < ((x5_1.length : Int) : Int) := of_decide_eq_true pA; first | exact h_ | (have e_ := (Kd.S_reads' HO_5.out).1; omega) | simpa using h_); obtain ⟨ve24_2, rfl, ge24_2⟩ := k29_openM hM24; have HP24 := Kd.S_seg hH24 (of_decide_eq_true pA) (by have h_ : (t196 : Int) < ((x5_1.length : Int) : Int) := of_decide_eq_true pA; first | exact h_ | (have e_ := (Kd.S_reads' HO_5.out).1; omega) | simpa using h_) (seg := [.int .i64 (wrap64 (t198 * 13))]) (j := 1) (show 2 ≤ 3 from by decide) (x' := (⟨(rd_T29 x5_1 t196).f0, wrap64 (t198 * 13), (rd_T29 x5_1 t196).f2⟩ : S29)) (k29_mkM _ _ _ (⟨(rd_T29 x5_1 t196).f0, wrap64 (t198 * 13), (rd_T29 x5_1 t196).f2⟩ : S29) (Kd.R_mono ge24_2 (fun _ h_ => Or.inl h_))) (fun _ hk => hk) (fun k_ hk_ => hk_.elim); have hx24_1 := hcc24 1 _ rfl; (try simp only [show (k29).sz = 3 from rfl, Nat.mul_one, Nat.add_zero] at hx24_1); have hf24_1 := hfr24 1; (try simp only [show (k29).sz = 3 from rfl, Nat.mul_one, Nat.add_zero] at hf24_1); clear hcl24 hcc24 hfr24 hM24 hoki24 hH24) | ((with_reducible refine gate_store (t := 3) (p := 39) rfl ?_); refine store_event (t := 3) (p := 39) (v := ?vo_w25) (w1 := (w23.setCell ⟨go20, (t196 : Int).toNat * 3 + 1, none⟩ (.int .i64 (wrap64 (t198 * 13))))) ?hg ?ho ?hn ?hr ?_; (case ho => rfl); (case hg => rfl); (case hn => rfl); (case hr => first | (go_simp; done) | (go_simp; rfl)); intro w25 hw; have hg : w23.grownBy w25 (some go20) := (by rw [hw]; exact HP24.2); have hp_ : Kd.S k29 29 w25 w.heap.size (fun k_ => (w.heap.size ≤ k_)) (.slice (some ⟨go20, 0, none⟩) x5_1.length co20) y200 := (by rw [hw, Ny200.out]; exact HP24.1); clear HP24; have n0_ := Aside0.mk (hp_); have n1_ := Aside0.mk (IsS99.grown F88.q1 hg (IsS99.own_neS HI0.out HO_5.out (by decide))); have n2_ := Aside0.mk ((by rw [hw]; exact below_set (HB.out) (Nat.le_trans HL.out GB20.out) : Below w0.heap.size w0 w25)); have n3_ := Aside0.mk (KeepBut.trans pK (KeepBut.of_grown hg g) (Kd.S_base2 HO_5.out)); clear HO_5; clear HI0; clear HB; clear HK; have HO_5 := n0_; have HI0 := n1_; have HB := n2_; have HK := n3_; clear n0_ n1_ n2_ n3_; clear hg hw hp_))
    go_ret
    exact ⟨_, pE, Kd.S_N F88.q3, by repeat (first | (with_reducible first | exact HI0.out | apply IsS99.alloc | apply IsS99.drewN | apply IsS99.drew | apply IsS99.set_1) | exact HI0.out), by repeat (first | (with_reducible first | exact HB.out | apply below_alloc | apply pw_below_drewN | apply below_drew1 | refine below_set ?_ (IsS99.ge HI0.out)) | exact HB.out), pK⟩
   rw [if_neg c15] at H
   have c15b0 : (t194 == 0) = false := beq_eq_false_iff_ne.mpr c15
   have c15b1 : (t194 != 0) = true := bne_iff_ne.mpr c15
   rcases (Classical.em (t194 = 1)).symm with c26 | c26
   ·rw [if_neg c26] at H
    have c26b0 : (t194 == 1) = false := beq_eq_false_iff_ne.mpr c26
    have c26b1 : (t194 != 1) = true := bne_iff_ne.mpr c26
    by_cases c38 : t194 = 2
    ·rw [if_pos c38] at H
     have c38b0 : (t194 == 2) = true := beq_iff_eq.mpr c38
     have c38b1 : (t194 != 2) = false := bne_eq_false_iff_eq.mpr c38
     clear c38
     rcases (Classical.em (0 < (x5_1.length : Int))).symm with c39 | c39
     ·rw [if_neg c39] at H
      exact absurd H (by simp)
     rw [if_pos c39] at H
     have c39b0 : decide (0 < (x5_1.length : Int)) = true := decide_eq_true c39
     have c39b1 : decide (0 < x5_1.length) = true := decide_eq_true (by omega)
     clear c39
     rcases (Classical.em (((rd_T29 x5_1 0).f2).length < 5864062014805)).symm with c40 | c40
     ·rw [if_neg c40] at H
      exact absurd H (by simp)
     rw [if_pos c40] at H
     have LMc40 := Aside0.mk c40
     clear c40
     obtain ⟨y208, hy208⟩ : ∃ y_ : List (S55), y_ = (((rd_T29 x5_1 0).f2) ++ [(⟨20, 0, 1⟩ : S55)]) := ⟨_, rfl⟩
     replace H : (some ((x5_1.set (0 : Int).toNat (⟨(rd_T29 x5_1 0).f0, (rd_T29 x5_1 0).f1, y208⟩ : S29)), t195)) = some (r1, r2) := pJ hy208 H
     have Ny208 := Aside0.mk hy208
     clear hy208
     obtain ⟨y211, hy211⟩ : ∃ y_ : List (S29), y_ = (x5_1.set (0 : Int).toNat (⟨(rd_T29 x5_1 0).f0, (rd_T29 x5_1 0).f1, y208⟩ : S29)) := ⟨_, rfl⟩
     replace H : (some (y211, t195)) = some (r1, r2) := pJ hy211 H
     have Ny211 := Aside0.mk hy211
     clear hy211
     simp only [Option.some.injEq, Prod.mk.injEq] at H
     obtain ⟨rfl, rfl⟩ := H
     go_wp2_with (first | ((with_reducible refine gate_callee (f := 55) rfl ?_); refine goesL_ (some 28) rfl rfl Try.func55 pL rfl #[.pointer (some ⟨g, 0, none⟩), .int .i64 30] rfl pM ?_; (with_reducible refine (spec_l6Rd_pick.calls k1 g s0_0 x1001_1 30 t194 t195 w0 _ ?side1 ?side2 A14.out).mono ?_); (case side1 => exact F88.q1); (case side2 => exact F88.q2); rintro e w42 ⟨rfl, hi, hb, hk⟩; refine ⟨_, rfl, ?_⟩; have n0_ := Aside0.mk (Kd.S_mono (Kd.S_keep (IsS99.apartS (show IsS99 w0 _ g s0_0 x1001_1 from F88.q1) F88.q3 (by decide)) hk (fun _ h => h.2)) (fun _ h => h.1)); have n1_ := Aside0.mk (KeepBut.trans pK hk (.inl rfl)); have n2_ := Aside0.mk (hb); have n3_ := Aside0.mk (hi); clear HO_5; clear HK; clear HB; clear HI0; have HO_5 := n0_; have HK := n1_; have HB := n2_; have HI0 := n3_; clear n0_ n1_ n2_ n3_; (try clear hb); (try clear hb2); (try clear hk); (try clear hi); obtain ⟨Ao43, co43, eo43⟩ := Kd.S_slice HO_5.out; subst eo43; have p207 : 0 ≤ (0 : Int) := (by omega); have q207 : 0 < (x5_1.length : Int) := of_decide_eq_true pA; obtain ⟨ad207, A207_2, c207_2, e207, hx207_0, hx207_1, hx207_2, hl207_2, hi207_2⟩ := at_T29 (Kd.S_reads' HO_5.out).2.2 0 p207 q207; cases e207; obtain ⟨ce207, hce207, hMe207, hcc207⟩ := Kd.S_get HO_5.out z29 0 p207 (by first | exact q207 | exact of_decide_eq_true pA | (have e_ := (Kd.S_reads' HO_5.out).1; omega)); obtain ⟨ve207_2, rfl, ge207_2⟩ := k29_openM hMe207; have hv207_2 := hcc207 2 _ rfl; rw [add_field _ _ 2 (by omega)] at hv207_2; replace hv207_2 := Option.some.inj (hv207_2.symm.trans hx207_2); rw [hv207_2] at ge207_2; have HL207_2 := Aside0.mk (show Kd.R k55 55 _ _ _ _ ((rd_T29 x5_1 0).f2) from ge207_2); clear hv207_2 ge207_2; have HX207_2 := Aside0.mk hx207_2; clear hcc207 hce207; have qi207 : (0 < x5_1.length) = True := eq_true (by omega); (try rw [show ((0 : Int)).toNat = 0 from rfl] at hx207_0); (try rw [show 0 * 3 = 0 from rfl] at hx207_0); (try rw [Addr.add_zero'] at hx207_0); (try rw [show ((0 : Int)).toNat = 0 from rfl] at hx207_1); (try rw [show 0 * 3 = 0 from rfl] at hx207_1); (try rw [Addr.add_zero'] at hx207_1); (try rw [show ((0 : Int)).toNat = 0 from rfl] at hx207_2); (try rw [show 0 * 3 = 0 from rfl] at hx207_2); (try rw [Addr.add_zero'] at hx207_2); have HR207_2 := Aside0.mk (hi207_2); have HC207_2 := Aside0.mk hl207_2; clear hi207_2 hl207_2; replace p207 := eq_true p207; replace q207 := eq_true q207; obtain ⟨go44, co44, eo44, gb44, gl44, cl44, HG44⟩ := Kd.S_form HO_5.out (by have h_ : (0 : Int) < ((x5_1.length : Int) : Int) := of_decide_eq_true pA; have h2_ : 0 ≤ (0 : Int) := (by omega); omega); (first | cases eo44 | (injection eo44 with ea_ en_ ec_; (first | subst ea_ | (injection ea_ with ea_; subst ea_)); subst ec_; clear en_)); have GB44 := Aside0.mk gb44; have GG44 := Aside0.mk HG44; clear gb44 gl44 HG44; (first | simp only [add_plain] at hx207_0 | skip); (first | simp only [add_plain] at hx207_1 | skip); (first | simp only [add_plain] at hx207_2 | skip); obtain ⟨oki44, ce44, hcl44, hM44, hcc44, _, _, hH44⟩ := Kd.S_elem HO_5.out z29 (0 : Int) (by omega) (by have h_ : (0 : Int) < ((x5_1.length : Int) : Int) := of_decide_eq_true pA; first | exact h_ | (have e_ := (Kd.S_reads' HO_5.out).1; omega) | simpa using h_); obtain ⟨ve44_2, rfl, ge44_2⟩ := k29_openM hM44; have hv44 := hcc44 2 _ rfl; have hX44 := HX207_2.out; (try simp only [add_plain] at hX44); (try simp only [Nat.add_zero] at hv44); replace hv44 := Option.some.inj (hv44.symm.trans hX44); subst hv44; clear hX44 hcc44 hcl44; have UU44 := Aside0.mk (show Kd.R k55 55 _ w.heap.size oki44 (.slice A207_2 ((rd_T29 x5_1 0).f2).length c207_2) ((rd_T29 x5_1 0).f2) from ge44_2); have HH44 := Aside0.mk hH44; have HN44 := Aside0.mk (Kd.S_reads' HO_5.out).1; clear hH44 ge44_2) | ((with_reducible refine gate_builtin (b := .append) (xs := #[.tmp 62, .tmp 64]) rfl ?_); at_builtin; refine Kd.R_append k55 w.heap.size rfl (.tmp 62) (.tmp 64) 27 55 (.agg #[(.int .i64 0), (.int .i64 0), (.int .i64 0)]) 24 rfl Try.underlying27 info55 rfl (by decide) (by omega) (.slice A207_2 ((rd_T29 x5_1 0).f2).length c207_2) ((rd_T29 x5_1 0).f2) (⟨20, 0, 1⟩ : S55) [.int .i64 20, .int .i64 0, .int .i64 1] (fun k_ => oki44 k_ ∨ ((fun k_ => (w.heap.size ≤ k_))) k_ ∧ w42.heap.size ≤ k_) (fun _ => False) rfl rfl ?aP (fun _ hk => hk.elim) ?aF ?aO (Below.refl _ _) ?aS ?aL ?_; (case aP => exact k55_mkM _ _ _ (⟨20, 0, 1⟩ : S55)); (case aF => exact (fun k_ hk => .inr ⟨Nat.le_trans (keep_size (w := w) (g := g) (row := none) pK) hk, hk⟩)); (case aO => exact (by (with_reducible repeat (first | apply Kd.R_alloc | apply Kd.R_drewN | apply Kd.R_drew)); exact Kd.R_mono UU44.out (fun _ hk => .inl hk))); (case aS => exact (keep_size (w := w) (g := g) (row := none) pK)); (case aL => have := LMc40.out; omega); intro v209 w45 ho hb hg hat; rw [← Ny208.out] at ho; have n0_ := Aside0.mk (IsS99.grown F88.q1 hg (IsS99.own_ne HI0.out HL207_2.out (by decide))); have n1_ := Aside0.mk (below_weaken F88.q2 HL.out hb); have n2_ := Aside0.mk (KeepBut.trans pK (KeepBut.of_grown hg g) (Kd.R_base2 HL207_2.out)); have n3_ := Aside0.mk (Kd.H_grown (Kd.H_widen (by repeat (first | exact HH44.out | refine Kd.H_alloc ?_ _ | refine Kd.H_drewN ?_ _ | refine Kd.H_drew ?_))) hg (fun k_ e_ => .inl (UU44.out.1 k_ e_))); have n4_ := Aside0.mk (ho); clear HI0; clear HB; clear HK; clear HH44; clear HO_5; clear UU44; clear HL207_2; have HI0 := n0_; have HB := n1_; have HK := n2_; have HH44 := n3_; have HO210 := n4_; clear n0_ n1_ n2_ n3_ n4_; clear ho hb hg hat; have p41 : 0 ≤ (0 : Int) := (by omega); have q41 : (0 : Int) < ((x5_1.length : Int) : Int) := of_decide_eq_true pA; replace p41 := eq_true p41; replace q41 := eq_true q41; obtain ⟨Ao48, co48, eo48⟩ := Kd.R_slice HO210.out; subst eo48; obtain ⟨_, _, hraw46, _, _, hcc46, _⟩ := Kd.H_raw HH44.out (by omega) (by have h_ : (0 : Int) < ((x5_1.length : Int) : Int) := of_decide_eq_true pA; first | exact h_ | (have e_ := (HN44.out); omega) | simpa using h_); obtain ⟨_, hfr46⟩ := Kd.H_at HH44.out (by omega) (by have h_ : (0 : Int) < ((x5_1.length : Int) : Int) := of_decide_eq_true pA; first | exact h_ | (have e_ := (HN44.out); omega) | simpa using h_); have hx46_0 := hcc46 2 _ rfl; have hf46_0 := hfr46 2; (try rw [show (k29).sz = 3 from rfl] at hx46_0); (try rw [show (k29).sz = 3 from rfl] at hf46_0); (try rw [show ((0 : Int)).toNat = 0 from rfl] at hx46_0); (try simp only [Nat.reduceMul, Nat.zero_mul, Nat.zero_add, Nat.reduceAdd] at hx46_0); (try rw [show ((0 : Int)).toNat = 0 from rfl] at hf46_0); (try simp only [Nat.reduceMul, Nat.zero_mul, Nat.zero_add, Nat.reduceAdd] at hf46_0); have HP46 := Kd.S_seg0 HH44.out (by omega) (by have h_ : (0 : Int) < ((x5_1.length : Int) : Int) := of_decide_eq_true pA; first | exact h_ | (have e_ := (HN44.out); omega) | simpa using h_) (seg := [.slice Ao48 y208.length co48]) (j := 2) (show 3 ≤ 3 from by decide) (x' := (⟨(rd_T29 x5_1 0).f0, (rd_T29 x5_1 0).f1, y208⟩ : S29)) (k29_mkM _ _ _ (⟨(rd_T29 x5_1 0).f0, (rd_T29 x5_1 0).f1, y208⟩ : S29) HO210.out) (fun _ hk => hk); clear hcc46 hfr46) | ((with_reducible refine gate_store (t := 27) (p := 67) rfl ?_); refine store_event (t := 27) (p := 67) (v := ?vo_w47) (w1 := (w45.setCell ⟨go44, (0 : Int).toNat * 3 + 2, none⟩ (.slice Ao48 y208.length co48))) ?hg ?ho ?hn ?hr ?_; (case ho => rfl); (case hg => rfl); (case hn => rfl); (case hr => first | (go_simp; done) | (go_simp; rfl)); intro w47 hw; have hg : w45.grownBy w47 (some go44) := (by rw [hw]; exact HP46.2); have hp_ : Kd.S k29 29 w47 w.heap.size (fun k_ => (w.heap.size ≤ k_)) (.slice (some ⟨go44, 0, none⟩) x5_1.length co43) y211 := (by rw [hw, Ny211.out]; exact HP46.1); clear HP46; have n0_ := Aside0.mk (IsS99.grown F88.q1 hg (IsS99.own_ne HI0.out hraw46 (by decide))); have n1_ := Aside0.mk ((by rw [hw]; exact below_set HB.out (Nat.le_trans HL.out GB44.out) : Below w0.heap.size w0 w47)); have n2_ := Aside0.mk (KeepBut.trans pK (KeepBut.of_grown hg g) (Kd.R_base2 hraw46)); have n3_ := Aside0.mk (hp_); clear HI0; clear HB; clear HK; clear HO210; clear HH44; have HI0 := n0_; have HB := n1_; have HK := n2_; have HO_5 := n3_; clear n0_ n1_ n2_ n3_; clear hg hw hp_ hraw46))
     go_ret
     exact ⟨_, pE, Kd.S_N F88.q3, by repeat (first | (with_reducible first | exact HI0.out | apply IsS99.alloc | apply IsS99.drewN | apply IsS99.drew | apply IsS99.set_1) | exact HI0.out), by repeat (first | (with_reducible first | exact HB.out | apply below_alloc | apply pw_below_drewN | apply below_drew1 | refine below_set ?_ (IsS99.ge HI0.out)) | exact HB.out), pK⟩
    rw [if_neg c38] at H
    have c38b0 : (t194 == 2) = false := beq_eq_false_iff_ne.mpr c38
    have c38b1 : (t194 != 2) = true := bne_iff_ne.mpr c38
    rcases (Classical.em (t194 = 3)).symm with c49 | c49
    ·rw [if_neg c49] at H
     have c49b0 : (t194 == 3) = false := beq_eq_false_iff_ne.mpr c49
     have c49b1 : (t194 != 3) = true := bne_iff_ne.mpr c49
     simp only [Option.some.injEq, Prod.mk.injEq] at H
     obtain ⟨rfl, rfl⟩ := H
     go_wp2_with (first | ((with_reducible refine gate_callee (f := 55) rfl ?_); refine goesL_ (some 28) rfl rfl Try.func55 pL rfl #[.pointer (some ⟨g, 0, none⟩), .int .i64 30] rfl pM ?_; (with_reducible refine (spec_l6Rd_pick.calls k1 g s0_0 x1001_1 30 t194 t195 w0 _ ?side1 ?side2 A14.out).mono ?_); (case side1 => exact F88.q1); (case side2 => exact F88.q2); rintro e w51 ⟨rfl, hi, hb, hk⟩; refine ⟨_, rfl, ?_⟩; have n0_ := Aside0.mk (Kd.S_mono (Kd.S_keep (IsS99.apartS (show IsS99 w0 _ g s0_0 x1001_1 from F88.q1) F88.q3 (by decide)) hk (fun _ h => h.2)) (fun _ h => h.1)); have n1_ := Aside0.mk (KeepBut.trans pK hk (.inl rfl)); have n2_ := Aside0.mk (hb); have n3_ := Aside0.mk (hi); clear HO_5; clear HK; clear HB; clear HI0; have HO_5 := n0_; have HK := n1_; have HB := n2_; have HI0 := n3_; clear n0_ n1_ n2_ n3_; (try clear hb); (try clear hb2); (try clear hk); (try clear hi)))
     go_ret
     exact ⟨_, pE, Kd.S_N F88.q3, by repeat (first | (with_reducible first | exact HI0.out | apply IsS99.alloc | apply IsS99.drewN | apply IsS99.drew | apply IsS99.set_1) | exact HI0.out), by repeat (first | (with_reducible first | exact HB.out | apply below_alloc | apply pw_below_drewN | apply below_drew1 | refine below_set ?_ (IsS99.ge HI0.out)) | exact HB.out), pK⟩

    rw [if_pos c49] at H
    have c49b0 : (t194 == 3) = true := beq_iff_eq.mpr c49
    have c49b1 : (t194 != 3) = false := bne_eq_false_iff_eq.mpr c49
    clear c49
    rcases (Classical.em (0 < (x5_1.length : Int))).symm with c50 | c50
    ·rw [if_neg c50] at H
     exact absurd H (by simp)
    rw [if_pos c50] at H
    have c50b0 : decide (0 < (x5_1.length : Int)) = true := decide_eq_true c50
    have c50b1 : decide (0 < x5_1.length) = true := decide_eq_true (by omega)
    clear c50
    have HO_N := Aside0.mk (show Kd.N k29 29 _ w.heap.size (fun k_ => (w.heap.size ≤ k_) ∧ k_ ≠ g) _ x5_1 from Kd.S_N (IsS99.apartS HI0.out HO_5.out (by decide)))
    clear HO_5
    have HO_5 := HO_N
    clear HO_N
    rcases (Classical.em (x5_1.length < 3518437208883)).symm with c32 | c32
    ·rw [if_neg c32] at H
     exact absurd H (by simp)
    rw [if_pos c32] at H
    have LMc32 := Aside0.mk c32
    clear c32
    obtain ⟨y205, hy205⟩ : ∃ y_ : List (S29), y_ = (x5_1 ++ [(⟨(rd_T29 x5_1 0).f0, (rd_T29 x5_1 0).f1, (rd_T29 x5_1 0).f2⟩ : S29)]) := ⟨_, rfl⟩
    replace H : (some (y205, t195)) = some (r1, r2) := pJ hy205 H
    have Ny205 := Aside0.mk hy205
    clear hy205
    simp only [Option.some.injEq, Prod.mk.injEq] at H
    obtain ⟨rfl, rfl⟩ := H
    go_wp2_with (first | ((with_reducible refine gate_callee (f := 55) rfl ?_); refine goesL_ (some 28) rfl rfl Try.func55 pL rfl #[.pointer (some ⟨g, 0, none⟩), .int .i64 30] rfl pM ?_; (with_reducible refine (spec_l6Rd_pick.calls k1 g s0_0 x1001_1 30 t194 t195 w0 _ ?side1 ?side2 A14.out).mono ?_); (case side1 => exact F88.q1); (case side2 => exact F88.q2); rintro e w33 ⟨rfl, hi, hb, hk⟩; refine ⟨_, rfl, ?_⟩; have n0_ := Aside0.mk (Kd.N_mono (Kd.N_keep (Kd.N_mono (ok := fun k_ => (((w.heap.size ≤ k_)) ∧ k_ ≠ g)) (by (with_reducible repeat (first | apply Kd.N_alloc | apply Kd.N_drewN | apply Kd.N_drew)); exact HO_5.out) (fun k_ hk_ => (⟨hk_, hk_.2⟩ : _ ∧ k_ ≠ g))) hk (fun _ h => h.2)) (fun _ h => h.1)); have n1_ := Aside0.mk (KeepBut.trans pK hk (.inl rfl)); have n2_ := Aside0.mk (hb); have n3_ := Aside0.mk (hi); clear HO_5; clear HK; clear HB; clear HI0; have HO_5 := n0_; have HK := n1_; have HB := n2_; have HI0 := n3_; clear n0_ n1_ n2_ n3_; (try clear hb); (try clear hb2); (try clear hk); (try clear hi); obtain ⟨Ao34, co34, eo34⟩ := Kd.N_slice HO_5.out; subst eo34; have p204 : 0 ≤ (0 : Int) := (by omega); have q204 : 0 < (x5_1.length : Int) := of_decide_eq_true pA; obtain ⟨ad204, A204_2, c204_2, e204, hx204_0, hx204_1, hx204_2, hl204_2, hi204_2⟩ := at_T29 (Kd.N_reads' HO_5.out).2.2 0 p204 q204; cases e204; obtain ⟨ce204, hce204, hMe204, hcc204⟩ := Kd.N_get HO_5.out z29 0 p204 (by first | exact q204 | exact of_decide_eq_true pA | (have e_ := (Kd.N_reads' HO_5.out).1; omega)); obtain ⟨ua204_2, uc204_2, rfl, ul204_2, ge204_2⟩ := k29_openF hMe204; have hv204_2 := hcc204 2 _ rfl; rw [add_field _ _ 2 (by omega)] at hv204_2; replace hv204_2 := Option.some.inj (hv204_2.symm.trans hx204_2); injection hv204_2 with hva_ hvn_ hvc_; rw [hva_] at ge204_2; rw [hvc_] at ul204_2; have HL204_2 := Aside0.mk (show Kd.V k55 55 _ w.heap.size _ _ ((rd_T29 x5_1 0).f2) from Kd.V_mk ul204_2 ge204_2); clear hva_ hvn_ hvc_ ge204_2 ul204_2; clear hcc204 hce204; have qi204 : (0 < x5_1.length) = True := eq_true (by omega); (try rw [show ((0 : Int)).toNat = 0 from rfl] at hx204_0); (try rw [show 0 * 3 = 0 from rfl] at hx204_0); (try rw [Addr.add_zero'] at hx204_0); (try rw [show ((0 : Int)).toNat = 0 from rfl] at hx204_1); (try rw [show 0 * 3 = 0 from rfl] at hx204_1); (try rw [Addr.add_zero'] at hx204_1); (try rw [show ((0 : Int)).toNat = 0 from rfl] at hx204_2); (try rw [show 0 * 3 = 0 from rfl] at hx204_2); (try rw [Addr.add_zero'] at hx204_2); have HR204_2 := Aside0.mk (hi204_2); have HC204_2 := Aside0.mk hl204_2; clear hi204_2 hl204_2; replace p204 := eq_true p204; replace q204 := eq_true q204) | ((with_reducible refine gate_builtin (b := .append) (xs := #[.tmp 70, .tmp 74]) rfl ?_); at_builtin; refine Kd.N_append k29 w.heap.size rfl (.tmp 70) (.tmp 74) 23 29 (.agg #[(.int .i64 0), (.int .i64 0), (.slice none 0 0)]) 40 rfl Try.underlying23 info29 rfl (by decide) (by omega) (.slice (some ad204) x5_1.length co34) x5_1 (⟨(rd_T29 x5_1 0).f0, (rd_T29 x5_1 0).f1, (rd_T29 x5_1 0).f2⟩ : S29) [.int .i64 ((rd_T29 x5_1 0).f0), .int .i64 ((rd_T29 x5_1 0).f1), .slice A204_2 ((rd_T29 x5_1 0).f2).length c204_2] (fun k_ => (w.heap.size ≤ k_) ∧ k_ ≠ g) (fun k_ => ((fun k_ => (w.heap.size ≤ k_) ∧ k_ ≠ g)) k_ ∧ some k_ ≠ (.slice (some ad204) x5_1.length co34 : Value).ownBlock) rfl rfl ?aP (fun _ hk => hk) ?aF ?aO (Below.refl _ _) ?aS ?aL ?_; (case aP => exact (k29_mkF _ _ (⟨(rd_T29 x5_1 0).f0, (rd_T29 x5_1 0).f1, (rd_T29 x5_1 0).f2⟩ : S29) (Kd.V_reads' (Kd.V_mono (ok' := (fun k_ => ((fun k_ => (w.heap.size ≤ k_) ∧ k_ ≠ g)) k_ ∧ some k_ ≠ (.slice (some ad204) x5_1.length co34 : Value).ownBlock)) (HL204_2.out) (fun k_ hk => ⟨⟨hk.1.1, hk.1.2⟩, hk.2⟩))).2.1 (Kd.V_F (Kd.V_mono (ok' := (fun k_ => ((fun k_ => (w.heap.size ≤ k_) ∧ k_ ≠ g)) k_ ∧ some k_ ≠ (.slice (some ad204) x5_1.length co34 : Value).ownBlock)) (HL204_2.out) (fun k_ hk => ⟨⟨hk.1.1, hk.1.2⟩, hk.2⟩))))); (case aF => exact (fun k_ hk => ⟨(Nat.le_trans (keep_size (w := w) (g := g) (row := none) pK) hk), IsS99.fresh F88.q1 k_ hk⟩)); (case aO => exact (by (with_reducible repeat (first | apply Kd.N_alloc | apply Kd.N_drewN | apply Kd.N_drew)); exact HO_5.out)); (case aS => exact (keep_size (w := w) (g := g) (row := none) pK)); (case aL => have := LMc32.out; omega); intro v206 w35 ho hb hg hat; rw [← Ny205.out] at ho; have n0_ := Aside0.mk (IsS99.grown F88.q1 hg (IsS99.own_neN HI0.out HO_5.out (by decide))); have n1_ := Aside0.mk (Kd.V_afterv (ok := (fun k_ => (w.heap.size ≤ k_) ∧ k_ ≠ g)) (by (with_reducible repeat (first | apply Kd.V_alloc | apply Kd.V_drewN | apply Kd.V_drew)); exact HL204_2.out) hg hat); have n2_ := Aside0.mk (below_weaken F88.q2 HL.out hb); have n3_ := Aside0.mk (KeepBut.trans pK (KeepBut.of_grown hg g) (Kd.N_base2 HO_5.out)); have n4_ := Aside0.mk (ho); clear HI0; clear HL204_2; clear HB; clear HK; clear HO_5; have HI0 := n0_; have HL204_2 := n1_; have HB := n2_; have HK := n3_; have HO207 := n4_; clear n0_ n1_ n2_ n3_ n4_; clear ho hb hg hat))
    go_ret
    exact ⟨_, pE, by (with_reducible repeat (first | apply Kd.N_alloc | apply Kd.N_drewN | apply Kd.N_drew)); exact Kd.N_mono HO207.out (fun _ hk => hk.1), by repeat (first | (with_reducible first | exact HI0.out | apply IsS99.alloc | apply IsS99.drewN | apply IsS99.drew | apply IsS99.set_1) | exact HI0.out), by repeat (first | (with_reducible first | exact HB.out | apply below_alloc | apply pw_below_drewN | apply below_drew1 | refine below_set ?_ (IsS99.ge HI0.out)) | exact HB.out), pK⟩
   rw [if_pos c26] at H
   have c26b0 : (t194 == 1) = true := beq_iff_eq.mpr c26
   have c26b1 : (t194 != 1) = false := bne_eq_false_iff_eq.mpr c26
   clear c26
   rcases (Classical.em (0 < (x5_1.length : Int))).symm with c27 | c27
   ·rw [if_neg c27] at H
    exact absurd H (by simp)
   rw [if_pos c27] at H
   have c27b0 : decide (0 < (x5_1.length : Int)) = true := decide_eq_true c27
   have c27b1 : decide (0 < x5_1.length) = true := decide_eq_true (by omega)
   clear c27
   rcases (Classical.em (((rd_T29 x5_1 0).f2).length < 5864062014805)).symm with c28 | c28
   ·rw [if_neg c28] at H
    exact absurd H (by simp)
   rw [if_pos c28] at H
   have LMc28 := Aside0.mk c28
   clear c28
   obtain ⟨y203, hy203⟩ : ∃ y_ : List (S55), y_ = (((rd_T29 x5_1 0).f2) ++ [(⟨0, (rd_T29 x5_1 0).f0, 1⟩ : S55)]) := ⟨_, rfl⟩
   replace H : (some ((x5_1.set (0 : Int).toNat (⟨(rd_T29 x5_1 0).f0, (rd_T29 x5_1 0).f1, y203⟩ : S29)), t195)) = some (r1, r2) := pJ hy203 H
   have Ny203 := Aside0.mk hy203
   clear hy203
   obtain ⟨y206, hy206⟩ : ∃ y_ : List (S29), y_ = (x5_1.set (0 : Int).toNat (⟨(rd_T29 x5_1 0).f0, (rd_T29 x5_1 0).f1, y203⟩ : S29)) := ⟨_, rfl⟩
   replace H : (some (y206, t195)) = some (r1, r2) := pJ hy206 H
   have Ny206 := Aside0.mk hy206
   clear hy206
   simp only [Option.some.injEq, Prod.mk.injEq] at H
   obtain ⟨rfl, rfl⟩ := H
   try go_wp2_with (first | ((with_reducible refine gate_callee (f := 55) rfl ?_); refine goesL_ (some 28) rfl rfl Try.func55 pL rfl #[.pointer (some ⟨g, 0, none⟩), .int .i64 30] rfl pM ?_; (with_reducible refine (spec_l6Rd_pick.calls k1 g s0_0 x1001_1 30 t194 t195 w0 _ ?side1 ?side2 A14.out).mono ?_); (case side1 => exact F88.q1); (case side2 => exact F88.q2); rintro e w30 ⟨rfl, hi, hb, hk⟩; refine ⟨_, rfl, ?_⟩; have n0_ := Aside0.mk (Kd.S_mono (Kd.S_keep (IsS99.apartS (show IsS99 w0 _ g s0_0 x1001_1 from F88.q1) F88.q3 (by decide)) hk (fun _ h => h.2)) (fun _ h => h.1)); have n1_ := Aside0.mk (KeepBut.trans pK hk (.inl rfl)); have n2_ := Aside0.mk (hb); have n3_ := Aside0.mk (hi); clear HO_5; clear HK; clear HB; clear HI0; have HO_5 := n0_; have HK := n1_; have HB := n2_; have HI0 := n3_; clear n0_ n1_ n2_ n3_; (try clear hb); (try clear hb2); (try clear hk); (try clear hi)))
   have n0_ := Aside0.mk (Kd.S_drew HO_5.out)
   have n1_ := Aside0.mk (IsS99.drew HI0.out)
   have n2_ := Aside0.mk (keep_drew HK.out)
   have n3_ := Aside0.mk (below_drew1 HB.out)
   clear HO_5
   clear HI0
   clear HK
   clear HB
   have HO_5 := n0_
   have HI0 := n1_
   have HK := n2_
   have HB := n3_
   clear n0_ n1_ n2_ n3_
   obtain ⟨Ao32, co32, eo32⟩ := Kd.S_slice HO_5.out
   (first | subst eo32 | (injection eo32 with f1_ f2_ f3_; have f4_ := f1_.symm; have f5_ := f3_.symm; clear f1_ f2_ f3_; subst f4_; subst f5_))
   have p201 : 0 ≤ (0 : Int) := (by omega)
   have q201 : 0 < (x5_1.length : Int) := of_decide_eq_true pA
   obtain ⟨ad201, A201_2, c201_2, e201, hx201_0, hx201_1, hx201_2, hl201_2, hi201_2⟩ := at_T29 (Kd.S_reads' HO_5.out).2.2 0 p201 q201
   cases e201
   obtain ⟨ce201, hce201, hMe201, hcc201⟩ := Kd.S_get HO_5.out z29 0 p201 (by first | exact q201 | exact of_decide_eq_true pA | (have e_ := (Kd.S_reads' HO_5.out).1; omega))
   obtain ⟨ve201_2, rfl, ge201_2⟩ := k29_openM hMe201
   have hv201_2 := hcc201 2 _ rfl
   rw [add_field _ _ 2 (by omega)] at hv201_2
   replace hv201_2 := Option.some.inj (hv201_2.symm.trans hx201_2)
   rw [hv201_2] at ge201_2
   have HL201_2 := Aside0.mk (show Kd.R k55 55 _ _ _ _ ((rd_T29 x5_1 0).f2) from ge201_2)
   clear hv201_2 ge201_2
   have HX201_2 := Aside0.mk hx201_2
   clear hcc201 hce201
   have qi201 : (0 < x5_1.length) = True := eq_true (by omega)
   (try rw [show ((0 : Int)).toNat = 0 from rfl] at hx201_0)
   (try rw [show 0 * 3 = 0 from rfl] at hx201_0)
   (try rw [Addr.add_zero'] at hx201_0)
   (try rw [show ((0 : Int)).toNat = 0 from rfl] at hx201_1)
   (try rw [show 0 * 3 = 0 from rfl] at hx201_1)
   (try rw [Addr.add_zero'] at hx201_1)
   (try rw [show ((0 : Int)).toNat = 0 from rfl] at hx201_2)
   (try rw [show 0 * 3 = 0 from rfl] at hx201_2)
   (try rw [Addr.add_zero'] at hx201_2)
   have HR201_2 := Aside0.mk (hi201_2)
   have HC201_2 := Aside0.mk hl201_2
   clear hi201_2 hl201_2
   replace p201 := eq_true p201
   replace q201 := eq_true q201
   have p202 : 0 ≤ (0 : Int) := (by omega)
   have q202 : 0 < (x5_1.length : Int) := of_decide_eq_true pA
   obtain ⟨ad202, A202_2, c202_2, e202, hx202_0, hx202_1, hx202_2, hl202_2, hi202_2⟩ := at_T29 (Kd.S_reads' HO_5.out).2.2 0 p202 q202
   obtain rfl : ad201 = ad202 := (by injection e202)
   obtain ⟨ce202, hce202, hMe202, hcc202⟩ := Kd.S_get HO_5.out z29 0 p202 (by first | exact q202 | exact of_decide_eq_true pA | (have e_ := (Kd.S_reads' HO_5.out).1; omega))
   obtain ⟨ve202_2, rfl, ge202_2⟩ := k29_openM hMe202
   have hv202_2 := hcc202 2 _ rfl
   rw [add_field _ _ 2 (by omega)] at hv202_2
   replace hv202_2 := Option.some.inj (hv202_2.symm.trans hx202_2)
   rw [hv202_2] at ge202_2
   have HL202_2 := Aside0.mk (show Kd.R k55 55 _ _ _ _ ((rd_T29 x5_1 0).f2) from ge202_2)
   clear hv202_2 ge202_2
   have HX202_2 := Aside0.mk hx202_2
   clear hcc202 hce202
   have qi202 : (0 < x5_1.length) = True := eq_true (by omega)
   (try rw [show ((0 : Int)).toNat = 0 from rfl] at hx202_0)
   (try rw [show 0 * 3 = 0 from rfl] at hx202_0)
   (try rw [Addr.add_zero'] at hx202_0)
   (try rw [show ((0 : Int)).toNat = 0 from rfl] at hx202_1)
   (try rw [show 0 * 3 = 0 from rfl] at hx202_1)
   (try rw [Addr.add_zero'] at hx202_1)
   (try rw [show ((0 : Int)).toNat = 0 from rfl] at hx202_2)
   (try rw [show 0 * 3 = 0 from rfl] at hx202_2)
   (try rw [Addr.add_zero'] at hx202_2)
   have HR202_2 := Aside0.mk (hi202_2)
   have HC202_2 := Aside0.mk hl202_2
   clear hi202_2 hl202_2
   replace p202 := eq_true p202
   replace q202 := eq_true q202
   have ea_ := Option.some.inj (hx201_2.symm.trans hx202_2)
   injection ea_ with ea_ en_ ec_
   subst ea_
   subst ec_
   clear en_
   obtain ⟨go33, co33, eo33, gb33, gl33, cl33, HG33⟩ := Kd.S_form HO_5.out (by have h_ : (0 : Int) < ((x5_1.length : Int) : Int) := of_decide_eq_true pA; have h2_ : 0 ≤ (0 : Int) := (by omega); omega)
   (first | cases eo33 | (injection eo33 with ea_ en_ ec_; (first | subst ea_ | (injection ea_ with ea_; subst ea_)); subst ec_; clear en_))
   have GB33 := Aside0.mk gb33
   have GG33 := Aside0.mk HG33
   clear gb33 gl33 HG33
   (first | simp only [add_plain] at hx201_0 | skip)
   (first | simp only [add_plain] at hx201_1 | skip)
   (first | simp only [add_plain] at hx201_2 | skip)
   (first | simp only [add_plain] at hx202_0 | skip)
   (first | simp only [add_plain] at hx202_1 | skip)
   (first | simp only [add_plain] at hx202_2 | skip)
   obtain ⟨oki33, ce33, hcl33, hM33, hcc33, _, _, hH33⟩ := Kd.S_elem HO_5.out z29 (0 : Int) (by omega) (by have h_ : (0 : Int) < ((x5_1.length : Int) : Int) := of_decide_eq_true pA; first | exact h_ | (have e_ := (Kd.S_reads' HO_5.out).1; omega) | simpa using h_)
   obtain ⟨ve33_2, rfl, ge33_2⟩ := k29_openM hM33
   have hv33 := hcc33 2 _ rfl
   have hX33 := HX201_2.out
   (try simp only [add_plain] at hX33)
   (try simp only [Nat.add_zero] at hv33)
   replace hv33 := Option.some.inj (hv33.symm.trans hX33)
   subst hv33
   clear hX33 hcc33 hcl33
   have UU33 := Aside0.mk (show Kd.R k55 55 _ w.heap.size oki33 (.slice A201_2 ((rd_T29 x5_1 0).f2).length c201_2) ((rd_T29 x5_1 0).f2) from ge33_2)
   have HH33 := Aside0.mk hH33
   have HN33 := Aside0.mk (Kd.S_reads' HO_5.out).1
   clear hH33 ge33_2
   refine start_ (n := 15) (S := fun w' => w'.cell? ⟨go33, 0, none⟩ = some (.int .i64 ((rd_T29 x5_1 0).f0)) ∧ w'.cell? ⟨go33, 1, none⟩ = some (.int .i64 ((rd_T29 x5_1 0).f1)) ∧ w'.cell? ⟨go33, 2, none⟩ = some (.slice A201_2 ((rd_T29 x5_1 0).f2).length c201_2) ∧ w'.cell? ⟨go33, 0, none⟩ = some (.int .i64 ((rd_T29 x5_1 0).f0)) ∧ w'.cell? ⟨go33, 1, none⟩ = some (.int .i64 ((rd_T29 x5_1 0).f1)) ∧ w'.cell? ⟨go33, 2, none⟩ = some (.slice A201_2 ((rd_T29 x5_1 0).f2).length c201_2)) (ds := [14]) #[false, false, false, false, false, false, false, false, false, false, false, false, false, false, false] pL rfl rfl ⟨hx201_0, hx201_1, hx201_2, hx202_0, hx202_1, hx202_2⟩ (fun hHeld => ?_); refine with_tabW spec_l91Dishes.tab11 spec_l91Dishes.bits11 (fun HT_ HW_ => ?_)
   generalize w30.drew = w31 at HO_5 HI0 HK HB GG33 HH33 HL201_2 HL202_2 HR201_2 HR202_2 HX201_2 HX202_2 UU33 hx201_0 hx201_1 hx201_2 hx202_0 hx202_1 hx202_2 hHeld ⊢
   refine pv 0 (some 42) HT_ rfl rfl pL ?_
   refine pv 1 (some 43) HT_ rfl rfl pL ?_
   refine pv 2 (some 44) HT_ rfl rfl pL ?_
   refine pv 3 (some 45) HT_ rfl rfl pL ?_
   refine pv 5 (some 47) HT_ rfl rfl pL ?_
   refine pv 6 (some 48) HT_ rfl rfl pL ?_
   refine pv 7 (some 49) HT_ rfl rfl pL ?_
   refine tv 4 (some 46) HT_ HW_ rfl rfl pL (fun _ _ _ h => h) (by rfl) (by rintro w' ⟨s0, s1, s2, s3, s4, s5⟩; go_simp; with_reducible rfl) hHeld pP ?_
   refine tk 8 (some 50) #[true, true, true, true, true, true, true, true, true, false, false, false, false, false, false] HT_ HW_ rfl rfl pL (fun _ _ _ h => h) (by rfl) (by rintro w' ⟨s0, s1, s2, s3, s4, s5⟩; go_simp; with_reducible rfl) hHeld pP ?_
   refine pv 9 (some 51) HT_ rfl rfl pL ?_
   refine one_ (i := 10) (N := some 52) #[true, true, true, true, true, true, true, true, true, true, true, false, false, false, false] rfl rfl (one_of HT_.out pL) (by decide) (fun K hK => ?_)
   refine value_ (w1 := ?_) (v := ?_) (by rfl) rfl ?_ ?_
   rotate_left 2
   ·go_simp
    constructor
    ·rfl
    ·rfl
   refine hK.out _ _ ⟨(World.cell?_alloc_lt _ _ _ (World.block_lt_of_cell? _ _ (hHeld.1))).trans (hHeld.1), (World.cell?_alloc_lt _ _ _ (World.block_lt_of_cell? _ _ (hHeld.2.1))).trans (hHeld.2.1), (World.cell?_alloc_lt _ _ _ (World.block_lt_of_cell? _ _ (hHeld.2.2.1))).trans (hHeld.2.2.1), (World.cell?_alloc_lt _ _ _ (World.block_lt_of_cell? _ _ (hHeld.2.2.2.1))).trans (hHeld.2.2.2.1), (World.cell?_alloc_lt _ _ _ (World.block_lt_of_cell? _ _ (hHeld.2.2.2.2.1))).trans (hHeld.2.2.2.2.1), (World.cell?_alloc_lt _ _ _ (World.block_lt_of_cell? _ _ (hHeld.2.2.2.2.2))).trans (hHeld.2.2.2.2.2)⟩ (fun hHeld => ?_)
   clear hK K
   refine norm_ (a' := ?_) ?_ ?_
   rotate_left
   ·show Act.put _ (some 52) _ = _
    exact pP
   refine one_ (i := 11) (N := some 53) #[true, true, true, true, true, true, true, true, true, true, true, true, false, false, false] rfl rfl (one_of HT_.out pL) (by decide) (fun K hK => ?_)
   refine Kd.R_append_step k55 w.heap.size (by rfl) (.tmp 46) (.tmp 52) 27 55 (.agg #[(.int .i64 0), (.int .i64 0), (.int .i64 0)]) 24 rfl Try.underlying27 info55 rfl (by decide) (by omega) (.slice A201_2 ((rd_T29 x5_1 0).f2).length c201_2) ((rd_T29 x5_1 0).f2) (⟨0, (rd_T29 x5_1 0).f0, 1⟩ : S55) [.int .i64 0, .int .i64 ((rd_T29 x5_1 0).f0), .int .i64 1] (fun k_ => oki33 k_ ∨ ((fun k_ => (w.heap.size ≤ k_))) k_ ∧ w31.heap.size ≤ k_) (fun _ => False) rfl rfl ?aP (fun _ hk => hk.elim) ?aF ?aO (Below.refl _ _) ?aS ?aL ?_
   (case aP => exact k55_mkM _ _ _ (⟨0, (rd_T29 x5_1 0).f0, 1⟩ : S55))
   (case aF => exact (fun k_ hk => .inr ⟨Nat.le_trans (keep_size (w := w) (g := g) (row := none) pK) hk, hk⟩))
   (case aO => exact (by (with_reducible repeat (first | apply Kd.R_alloc | apply Kd.R_drewN | apply Kd.R_drew)); exact Kd.R_mono UU33.out (fun _ hk => .inl hk)))
   (case aS => exact (keep_size (w := w) (g := g) (row := none) pK))
   (case aL => have := LMc28.out; omega)
   intro v204 w34 ho hb hg hat
   (first | have HS0_ := cell_grown hg (hHeld.1) F88.q0 | have HS0_ := cell_grown hg (cell_unalloc (hHeld.1) F88.q4) F88.q0)
   (first | have HS1_ := cell_grown hg (hHeld.2.1) F88.q0 | have HS1_ := cell_grown hg (cell_unalloc (hHeld.2.1) F88.q4) F88.q0)
   (first | have HS2_ := cell_grown hg (hHeld.2.2.1) F88.q0 | have HS2_ := cell_grown hg (cell_unalloc (hHeld.2.2.1) F88.q4) F88.q0)
   (first | have HS3_ := cell_grown hg (hHeld.2.2.2.1) F88.q0 | have HS3_ := cell_grown hg (cell_unalloc (hHeld.2.2.2.1) F88.q4) F88.q0)
   (first | have HS4_ := cell_grown hg (hHeld.2.2.2.2.1) F88.q0 | have HS4_ := cell_grown hg (cell_unalloc (hHeld.2.2.2.2.1) F88.q4) F88.q0)
   (first | have HS5_ := cell_grown hg (hHeld.2.2.2.2.2) F88.q0 | have HS5_ := cell_grown hg (cell_unalloc (hHeld.2.2.2.2.2) F88.q4) F88.q0)
   rw [← Ny203.out] at ho
   have n0_ := Aside0.mk (IsS99.grown F88.q1 hg (IsS99.own_ne HI0.out HL201_2.out (by decide)))
   have n1_ := Aside0.mk (below_weaken F88.q2 HL.out hb)
   have n2_ := Aside0.mk (KeepBut.trans pK (KeepBut.of_grown hg g) (Kd.R_base2 HL201_2.out))
   have n3_ := Aside0.mk (Kd.H_grown (Kd.H_widen (by repeat (first | exact HH33.out | refine Kd.H_alloc ?_ _ | refine Kd.H_drewN ?_ _ | refine Kd.H_drew ?_))) hg (fun k_ e_ => .inl (UU33.out.1 k_ e_)))
   have n4_ := Aside0.mk (ho)
   clear HI0
   clear HB
   clear HK
   clear HH33
   clear HO_5
   clear UU33
   clear HL201_2
   clear HL202_2
   have HI0 := n0_
   have HB := n1_
   have HK := n2_
   have HH33 := n3_
   have HO205 := n4_
   clear n0_ n1_ n2_ n3_ n4_
   clear ho hb hg hat
   have p29 : 0 ≤ (0 : Int) := (by omega)
   have q29 : (0 : Int) < ((x5_1.length : Int) : Int) := of_decide_eq_true pA
   replace p29 := eq_true p29
   replace q29 := eq_true q29
   obtain ⟨Ao37, co37, eo37⟩ := Kd.R_slice HO205.out
   (first | subst eo37 | (injection eo37 with f1_ f2_ f3_; have f4_ := f1_.symm; have f5_ := f3_.symm; clear f1_ f2_ f3_; subst f4_; subst f5_))
   obtain ⟨_, _, hraw35, _, _, hcc35, _⟩ := Kd.H_raw HH33.out (by omega) (by have h_ : (0 : Int) < ((x5_1.length : Int) : Int) := of_decide_eq_true pA; first | exact h_ | (have e_ := (HN33.out); omega) | simpa using h_)
   obtain ⟨_, hfr35⟩ := Kd.H_at HH33.out (by omega) (by have h_ : (0 : Int) < ((x5_1.length : Int) : Int) := of_decide_eq_true pA; first | exact h_ | (have e_ := (HN33.out); omega) | simpa using h_)
   have hx35_0 := hcc35 2 _ rfl
   have hf35_0 := hfr35 2
   (try rw [show (k29).sz = 3 from rfl] at hx35_0)
   (try rw [show (k29).sz = 3 from rfl] at hf35_0)
   (try rw [show ((0 : Int)).toNat = 0 from rfl] at hx35_0)
   (try simp only [Nat.reduceMul, Nat.zero_mul, Nat.zero_add, Nat.reduceAdd] at hx35_0)
   (try rw [show ((0 : Int)).toNat = 0 from rfl] at hf35_0)
   (try simp only [Nat.reduceMul, Nat.zero_mul, Nat.zero_add, Nat.reduceAdd] at hf35_0)
   have HP35 := Kd.S_seg0 HH33.out (by omega) (by have h_ : (0 : Int) < ((x5_1.length : Int) : Int) := of_decide_eq_true pA; first | exact h_ | (have e_ := (HN33.out); omega) | simpa using h_) (seg := [.slice Ao37 y203.length co37]) (j := 2) (show 3 ≤ 3 from by decide) (x' := (⟨(rd_T29 x5_1 0).f0, (rd_T29 x5_1 0).f1, y203⟩ : S29)) (k29_mkM _ _ _ (⟨(rd_T29 x5_1 0).f0, (rd_T29 x5_1 0).f1, y203⟩ : S29) HO205.out) (fun _ hk => hk)
   clear hcc35 hfr35
   have HN0_go33 := Aside0.mk (show g ≠ go33 from by have h_ := IsS99.own_ne HI0.out hraw35 (by decide); intro e_; exact h_ (by rw [e_]; rfl))
   have HS35 := HP35.1
   rw [← Ny206.out] at HS35
   have HQ35 := Aside0.mk HS35
   obtain ⟨_, hgg35⟩ := Kd.R_typed hraw35 go33 rfl
   have GG35_ := Aside0.mk hgg35
   clear HP35 HS35 hgg35
   refine hK.out _ _ ⟨HS0_, HS1_, HS2_, HS3_, HS4_, HS5_⟩ (fun hHeld => ?_)
   clear hK K
   refine norm_ (a' := ?_) ?_ ?_
   rotate_left
   ·show Act.put _ (some 53) _ = _
    exact pP
   refine pv 12 (some 54) HT_ rfl rfl pL ?_
   refine pv 13 (some 55) HT_ rfl rfl pL ?_
   refine last_ (i := 14) (N := none) #[true, true, true, true, true, true, true, true, true, true, true, true, true, true, true] rfl rfl (one_of HT_.out pL) (by decide) (fun K hK => ?_)
   refine skip_ (w1 := ?_) (by rfl) rfl ?_ ?_
   rotate_left
   ·go_simp
    rfl
   refine hK.out _ _ ?_
   clear hK K
   refine done_ (done_of HT_.out pL) ?_
   try go_wp2
   go_ret
   exact ⟨_, pE, Kd.S_N (by (with_reducible repeat (first | apply Kd.S_alloc | apply Kd.S_drewN | apply Kd.S_drew)); exact HQ35.out), by repeat (first | (with_reducible first | exact HI0.out | apply IsS99.alloc | apply IsS99.drewN | apply IsS99.drew | apply IsS99.set_1 | refine IsS99.far ?_ HN0_go33.out _) | exact HI0.out), by repeat (first | (with_reducible first | exact HB.out | apply below_alloc | apply pw_below_drewN | apply below_drew1 | refine below_set ?_ (Nat.le_trans HL.out GB33.out) | refine below_set ?_ (IsS99.ge HI0.out)) | exact HB.out), by repeat (first | (with_reducible first | exact HK.out | apply KeepBut.set_ | apply keep_drewN | apply keep_drew | apply keep_alloc | refine keep_far ?_ GB33.out _) | exact HK.out)⟩
/-! ### spec_l91Menu: function 54 -/
def spec_l91Menu.f (k : Nat) (s0_0 : List Int) (s0_1 : Int) : Option ((List (S29)) × (List (S63)) × Int) := (spec_l91Foods.f k s0_0 s0_1).bind fun bt213 => ((spec_l91Dishes.f k s0_0 bt213.2 bt213.1).bind fun bt217 => (some (bt217.1, bt213.1, bt217.2)))
theorem spec_l91Menu.mono : ∀ a0 a1 k, LeO (spec_l91Menu.f k a0 a1) (spec_l91Menu.f (k + 1) a0 a1) := by
 intro a0 a1 k
 unfold spec_l91Menu.f
 repeat' first
   | (with_reducible exact spec_l91Dishes.mono _ _ _ _)
   | (with_reducible exact spec_l91Foods.mono _ _ _)
   | (with_reducible exact LeO.refl _)
   | (with_reducible exact LeO.none _)
   | (with_reducible refine LeO.ite ?_ ?_)
   | (with_reducible refine LeO.bind ?_ (fun _ => ?_))
   | exact spec_l91Dishes.mono _ _ _ _
   | exact spec_l91Foods.mono _ _ _
   | exact LeO.none _
   | refine LeO.ite ?_ ?_
   | refine LeO.bind ?_ (fun _ => ?_)
set_option maxHeartbeats 8000000 in
set_option maxRecDepth 100000 in
theorem spec_l91Menu.calls (k : Nat) (g : Nat) (s0_0 : List Int) (s0_1 : Int) (r1 : List (S29)) (r2 : List (S63)) (r3 : Int) (w0 w : World) (hI : IsS99 w0 w g s0_0 s0_1) (hB : Below w0.heap.size w0 w) (h : spec_l91Menu.f k s0_0 s0_1 = some (r1, r2, r3)) :
  Calls Try.prog 54 #[.pointer (some ⟨g, 0, none⟩)] w fun e w' => ∃ v0_ v1_ : Value, e = .returned (.tuple #[v0_, v1_]) ∧ Kd.N k29 29 w' w.heap.size (fun k_ => (w.heap.size ≤ k_) ∧ some k_ ≠ (v1_ : Value).ownBlock) v0_ r1 ∧ Kd.R k63 63 w' w.heap.size (fun k_ => (w.heap.size ≤ k_)) v1_ r2 ∧ IsS99 w0 w' g s0_0 r3 ∧ Below w0.heap.size w0 w' ∧ KeepBut w w' g none := by
 have HI0 := Aside0.mk hI
 have HK := Aside0.mk (KeepBut.refl w g none)
 have HL := Aside0.mk hB.size
 clear hI
 have HW0 := Aside0.mk hB.size
 have HB := Aside0.mk hB
 clear hB
 have H : ((spec_l91Foods.f k s0_0 s0_1).bind fun bt213 => ((spec_l91Dishes.f k s0_0 bt213.2 bt213.1).bind fun bt217 => (some (bt217.1, bt213.1, bt217.2)))) = some (r1, r2, r3) := h
 clear h
 replace H := Option.bind_eq_some_iff.mp H
 obtain ⟨⟨t213, t216⟩, A20, H⟩ := H
 replace H : ((spec_l91Dishes.f k s0_0 t216 t213).bind fun bt217 => (some (bt217.1, t213, bt217.2))) = some (r1, r2, r3) := H
 have A2 := Aside0.mk A20
 clear A20
 replace H := Option.bind_eq_some_iff.mp H
 obtain ⟨⟨t217, t220⟩, A30, H⟩ := H
 replace H : (some (t217, t213, t220)) = some (r1, r2, r3) := H
 have A3 := Aside0.mk A30
 clear A30
 simp only [Option.some.injEq, Prod.mk.injEq] at H
 obtain ⟨rfl, rfl, rfl⟩ := H
 go_enter Try.func54, Try.ntmps54
 go_wp2_with (first | ((with_reducible refine gate_callee (f := 87) rfl ?_); refine goesL_ (some 6) rfl rfl Try.func87 pL rfl #[.pointer (some ⟨g, 0, none⟩)] rfl pM ?_; (with_reducible refine (spec_l91Foods.calls k g s0_0 s0_1 t213 t216 w0 _ ?side1 ?side2 A2.out).mono ?_); (case side1 => repeat (first | (with_reducible first | exact HI0.out | apply IsS99.alloc | apply IsS99.drewN | apply IsS99.drew | apply IsS99.set_1) | exact HI0.out)); (case side2 => repeat (first | (with_reducible first | exact HB.out | apply below_alloc | apply pw_below_drewN | apply below_drew1 | refine below_set ?_ (IsS99.ge HI0.out)) | exact HB.out)); rintro e w4 ⟨v214, rfl, ho0, hi, hb, hk⟩; refine ⟨_, rfl, ?_⟩; have n0_ := Aside0.mk (Kd.R_lower (Kd.R_newM (M := fun k_ => (w.heap.size ≤ k_)) ho0 (keep_size (w := w) (g := g) (row := none) pK) (fun k_ h_ => h_)) (keep_size (w := w) (g := g) (row := none) pK)); have n1_ := Aside0.mk (KeepBut.trans pK hk (.inl rfl)); have n2_ := Aside0.mk (hb); have n3_ := Aside0.mk (hi); clear HK; clear HB; clear HI0; have HO215 := n0_; have HK := n1_; have HB := n2_; have HI0 := n3_; clear n0_ n1_ n2_ n3_; (try clear hb); (try clear hb2); (try clear hk); (try clear hi); (try clear ho0); obtain ⟨Ao5, co5, eo5⟩ := Kd.R_slice HO215.out; subst eo5) | ((with_reducible refine gate_callee (f := 88) rfl ?_); refine goesL_ (some 9) rfl rfl Try.func88 pL rfl #[.pointer (some ⟨g, 0, none⟩), .slice Ao5 t213.length co5] rfl pM ?_; (with_reducible refine (spec_l91Dishes.calls k g s0_0 t216 _ _ t213 t217 t220 w0 _ ?side1 ?side2 ?side3 ?side4 A3.out).mono ?_); (case side1 => repeat (first | (with_reducible first | exact HI0.out | apply IsS99.alloc | apply IsS99.drewN | apply IsS99.drew | apply IsS99.set_1) | exact HI0.out)); (case side2 => repeat (first | (with_reducible first | exact HB.out | apply below_alloc | apply pw_below_drewN | apply below_drew1 | refine below_set ?_ (IsS99.ge HI0.out)) | exact HB.out)); (case side3 => exact Kd.C_foot_own (IsS99.apart (show IsS99 w0 _ g s0_0 t216 from by repeat (first | (with_reducible first | exact HI0.out | apply IsS99.alloc | apply IsS99.drewN | apply IsS99.drew | apply IsS99.set_1) | exact HI0.out)) (pR HO215) (by decide)) (fun _ h_ => h_.2)); (case side4 => exact (Kd.R_reads' HO215.out).2.1); rintro e w6 ⟨v218, rfl, ho0, hi, hb, hk⟩; refine ⟨_, rfl, ?_⟩; have n0_ := Aside0.mk (Kd.R_mono (Kd.R_keep (IsS99.apart (show IsS99 w0 _ g s0_0 t216 from by repeat (first | (with_reducible first | exact HI0.out | apply IsS99.alloc | apply IsS99.drewN | apply IsS99.drew | apply IsS99.set_1) | exact HI0.out)) (pR HO215) (by decide)) hk (fun _ h => h.2)) (fun _ h => h.1)); have n1_ := Aside0.mk (Kd.N_lower (Kd.N_mono (ok' := fun k_ => (w.heap.size ≤ k_) ∧ some k_ ≠ (.slice Ao5 t213.length co5 : Value).ownBlock ∧ k_ ≠ g) ho0 (fun k_ hk_ => ⟨(Nat.le_trans (keep_size (w := w) (g := g) (row := none) pK) hk_), (Kd.fresh' (Kd.R_lt (pR HO215)) k_ hk_), (IsS99.fresh (by repeat (first | (with_reducible first | exact HI0.out | apply IsS99.alloc | apply IsS99.drewN | apply IsS99.drew | apply IsS99.set_1) | exact HI0.out)) k_ hk_)⟩)) (keep_size (w := w) (g := g) (row := none) pK)); have n2_ := Aside0.mk (KeepBut.trans pK hk (.inl rfl)); have n3_ := Aside0.mk (hb); have n4_ := Aside0.mk (hi); clear HO215; clear HK; clear HB; clear HI0; have HO215 := n0_; have HO219 := n1_; have HK := n2_; have HB := n3_; have HI0 := n4_; clear n0_ n1_ n2_ n3_ n4_; (try clear hb); (try clear hb2); (try clear hk); (try clear hi); (try clear ho0)))
 go_ret2
 exact ⟨_, _, pE, by (with_reducible repeat (first | apply Kd.N_alloc | apply Kd.N_drewN | apply Kd.N_drew)); exact Kd.N_mono HO219.out (fun _ hk => ⟨hk.1, hk.2.1⟩), by (with_reducible repeat (first | apply Kd.R_alloc | apply Kd.R_drewN | apply Kd.R_drew)); exact Kd.R_mono HO215.out (fun _ hk => hk.1), by repeat (first | (with_reducible first | exact HI0.out | apply IsS99.alloc | apply IsS99.drewN | apply IsS99.drew | apply IsS99.set_1) | exact HI0.out), by repeat (first | (with_reducible first | exact HB.out | apply below_alloc | apply pw_below_drewN | apply below_drew1 | refine below_set ?_ (IsS99.ge HI0.out)) | exact HB.out), pK⟩

end Go.Proofs.Ytclldijjbmnkeaa.Q
