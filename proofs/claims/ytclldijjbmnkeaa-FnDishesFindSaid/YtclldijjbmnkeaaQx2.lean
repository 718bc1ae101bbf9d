-- Written by the kit's print.py for all laws of the seat at once (one namespace), by a program of this session.
import Derived.Test.YtclldijjbmnkeaaQx0
import Derived.Test.YtclldijjbmnkeaaQx1
namespace Go.Proofs.Ytclldijjbmnkeaa.Q
open Go.RowKit Go.Proofs.YtclldijjbmnkeaaW.PrintWords Go.Proofs.YtclldijjbmnkeaaW.PrintLast Go.Proofs.YtclldijjbmnkeaaW.PrintMore
attribute [local go_sem] max2_int min2_int max_two min_two max_three min_three max_four min_four   -- for this text's walks alone
set_option linter.unusedVariables false
set_option linter.unusedSimpArgs false

/-! ### spec_l91Dish: function 99 -/
mutual
def spec_l91Dish.l0 : Nat → List (S29) → List (S63) → Int → Int → List Int → Int → Int → Int → List (S55) → Option (Int × Int × (List (S55)) × Int)
 | 0, _, _, _, _, _, _, _, _, _ => none
 | k + 1, x2, x3, x10, x11, x1000, x1001, x160000, x160001, x160002 => if x11 < x10 then (if (x2.length : Int) > 0 then ((spec_l6Rd_pick.f k x1000 x1001 3).bind fun bt162 => (spec_l91Dish.j1 k x2 x3 x10 x11 (bt162.1 == 0) x1000 bt162.2 x160000 x160001 x160002)) else (spec_l91Dish.j1 k x2 x3 x10 x11 false x1000 x1001 x160000 x160001 x160002)) else (some (x160000, x160001, x160002, x1001))
def spec_l91Dish.j1 : Nat → List (S29) → List (S63) → Int → Int → Bool → List Int → Int → Int → Int → List (S55) → Option (Int × Int × (List (S55)) × Int)
 | 0, _, _, _, _, _, _, _, _, _, _ => none
 | k + 1, x2, x3, x10, x11, x33, x1000, x1001, x160000, x160001, x160002 => if x33 = true then ((spec_l6Rd_pick.f k x1000 x1001 (x2.length : Int)).bind fun bt164 => (if 0 ≤ bt164.1 then (if bt164.1 < (x2.length : Int) then ((spec_l6Rd_pick.f k x1000 bt164.2 9).bind fun bt167 => (if x160002.length < 5864062014805 then (spec_l91Dish.l0 k x2 x3 x10 (wrap64 (x11 + 1)) x1000 bt167.2 x160000 x160001 (x160002 ++ [(⟨0, (rd_T29 x2 bt164.1).f0, wrap64 (1 + bt167.1)⟩ : S55)])) else (none))) else (none)) else (none))) else (if (x3.length : Int) > 0 then ((spec_l6Rd_pick.f k x1000 x1001 (x3.length : Int)).bind fun bt172 => (if 0 ≤ bt172.1 then (if bt172.1 < (x3.length : Int) then ((spec_l6Rd_pick.f k x1000 bt172.2 200).bind fun bt175 => (if x160002.length < 5864062014805 then (spec_l91Dish.l0 k x2 x3 x10 (wrap64 (x11 + 1)) x1000 bt175.2 x160000 x160001 (x160002 ++ [(⟨(rd_T63 x3 bt172.1).f0, 0, wrap64 (1 + bt175.1)⟩ : S55)])) else (none))) else (none)) else (none))) else (spec_l91Dish.l0 k x2 x3 x10 (wrap64 (x11 + 1)) x1000 x1001 x160000 x160001 x160002))
end
def spec_l91Dish.f (k : Nat) (s0_0 : List Int) (s0_1 : Int) (a1 : Int) (l2 : List (S29)) (l3 : List (S63)) : Option (Int × Int × (List (S55)) × Int) := (spec_l6Rd_pick.f k s0_0 s0_1 12).bind fun bt154 => ((spec_l6Rd_pick.f k s0_0 bt154.2 4).bind fun bt160 => (spec_l91Dish.l0 k l2 l3 (wrap64 (1 + bt160.1)) 0 s0_0 bt160.2 a1 (wrap64 (1 + bt154.1)) (([] : List (S55)))))
theorem spec_l91Dish.mono_l : ∀ k, (∀ y0 y1 y2 y3 y4 y5 y6 y7 y8, LeO (spec_l91Dish.l0 k y0 y1 y2 y3 y4 y5 y6 y7 y8) (spec_l91Dish.l0 (k + 1) y0 y1 y2 y3 y4 y5 y6 y7 y8)) ∧ (∀ y0 y1 y2 y3 y4 y5 y6 y7 y8 y9, LeO (spec_l91Dish.j1 k y0 y1 y2 y3 y4 y5 y6 y7 y8 y9) (spec_l91Dish.j1 (k + 1) y0 y1 y2 y3 y4 y5 y6 y7 y8 y9))
 | 0 => ⟨fun _ _ _ _ _ _ _ _ _ r h => by simp [spec_l91Dish.l0] at h, fun _ _ _ _ _ _ _ _ _ _ r h => by simp [spec_l91Dish.j1] at h⟩
 | k + 1 => by
  obtain ⟨ih0, ih1⟩ := spec_l91Dish.mono_l k
  refine ⟨?_, ?_⟩
  ·intro y0 y1 y2 y3 y4 y5 y6 y7 y8
   unfold spec_l91Dish.l0
   repeat' first
   | (with_reducible exact ih0 _ _ _ _ _ _ _ _ _)
   | (with_reducible exact ih1 _ _ _ _ _ _ _ _ _ _)
   | (with_reducible exact spec_l6Rd_pick.mono _ _ _ _)
   | (with_reducible exact LeO.refl _)
   | (with_reducible exact LeO.none _)
   | (with_reducible refine LeO.ite ?_ ?_)
   | (with_reducible refine LeO.bind ?_ (fun _ => ?_))
   | exact ih0 _ _ _ _ _ _ _ _ _
   | exact ih1 _ _ _ _ _ _ _ _ _ _
   | exact spec_l6Rd_pick.mono _ _ _ _
   | exact LeO.none _
   | refine LeO.ite ?_ ?_
   | refine LeO.bind ?_ (fun _ => ?_)
  ·intro y0 y1 y2 y3 y4 y5 y6 y7 y8 y9
   unfold spec_l91Dish.j1
   repeat' first
   | (with_reducible exact ih0 _ _ _ _ _ _ _ _ _)
   | (with_reducible exact ih1 _ _ _ _ _ _ _ _ _ _)
   | (with_reducible exact spec_l6Rd_pick.mono _ _ _ _)
   | (with_reducible exact LeO.refl _)
   | (with_reducible exact LeO.none _)
   | (with_reducible refine LeO.ite ?_ ?_)
   | (with_reducible refine LeO.bind ?_ (fun _ => ?_))
   | exact ih0 _ _ _ _ _ _ _ _ _
   | exact ih1 _ _ _ _ _ _ _ _ _ _
   | exact spec_l6Rd_pick.mono _ _ _ _
   | exact LeO.none _
   | refine LeO.ite ?_ ?_
   | refine LeO.bind ?_ (fun _ => ?_)
theorem spec_l91Dish.mono : ∀ a0 a1 a2 a3 a4 k, LeO (spec_l91Dish.f k a0 a1 a2 a3 a4) (spec_l91Dish.f (k + 1) a0 a1 a2 a3 a4) := by
 intro a0 a1 a2 a3 a4 k
 obtain ⟨ih0, ih1⟩ := spec_l91Dish.mono_l k
 unfold spec_l91Dish.f
 repeat' first
   | (with_reducible exact ih0 _ _ _ _ _ _ _ _ _)
   | (with_reducible exact ih1 _ _ _ _ _ _ _ _ _ _)
   | (with_reducible exact spec_l6Rd_pick.mono _ _ _ _)
   | (with_reducible exact LeO.refl _)
   | (with_reducible exact LeO.none _)
   | (with_reducible refine LeO.ite ?_ ?_)
   | (with_reducible refine LeO.bind ?_ (fun _ => ?_))
   | exact ih0 _ _ _ _ _ _ _ _ _
   | exact ih1 _ _ _ _ _ _ _ _ _ _
   | exact spec_l6Rd_pick.mono _ _ _ _
   | exact LeO.none _
   | refine LeO.ite ?_ ?_
   | refine LeO.bind ?_ (fun _ => ?_)
def spec_l91Dish.T7 : Bool × List (List Nat × List Nat) := (true, [([], []), ([0], [0]), ([], []), ([], []), ([], []), ([4], [4]), ([3, 5], [3, 5]), ([2, 6], [2, 6]), ([7], [7]), ([8], [8]), ([], []), ([10, 6], [10]), ([11], [11]), ([9, 12], [9, 12]), ([13], [13]), ([1, 14, 11], [1, 14]), ([0, 1, 2, 3, 4, 5, 6, 7, 8, 9, 10, 11, 12, 13, 14, 15], []), ([16, 15, 15, 0, 1, 2, 3, 4, 5, 6, 7, 8, 9, 10, 11, 12, 13, 14, 15], [15, 16])])
def spec_l91Dish.B7 : List Nat := [0, 1, 0, 0, 0, 16, 56, 124, 252, 508, 0, 1144, 3192, 8188, 16380, 32767, 65535, 131071]
theorem spec_l91Dish.tab7 : rtab .any (opsOf Try.f99 7) = spec_l91Dish.T7 := by kernel_rfl
theorem spec_l91Dish.bits7 : waitsOk spec_l91Dish.T7.2 spec_l91Dish.B7 = true := by kernel_rfl
def spec_l91Dish.T9 : Bool × List (List Nat × List Nat) := (true, [([], []), ([0], [0]), ([], []), ([], []), ([], []), ([4], [4]), ([3, 5], [3, 5]), ([2, 6], [2, 6]), ([7], [7]), ([8], [8]), ([], []), ([10, 6], [10]), ([11], [11]), ([9, 12], [9, 12]), ([13], [13]), ([1, 14, 11], [1, 14]), ([0, 1, 2, 3, 4, 5, 6, 7, 8, 9, 10, 11, 12, 13, 14, 15], []), ([16, 15, 15, 0, 1, 2, 3, 4, 5, 6, 7, 8, 9, 10, 11, 12, 13, 14, 15], [15, 16])])
def spec_l91Dish.B9 : List Nat := [0, 1, 0, 0, 0, 16, 56, 124, 252, 508, 0, 1144, 3192, 8188, 16380, 32767, 65535, 131071]
theorem spec_l91Dish.tab9 : rtab .any (opsOf Try.f99 9) = spec_l91Dish.T9 := by kernel_rfl
theorem spec_l91Dish.bits9 : waitsOk spec_l91Dish.T9.2 spec_l91Dish.B9 = true := by kernel_rfl
set_option maxHeartbeats 8000000 in
set_option maxRecDepth 100000 in
theorem spec_l91Dish.calls (k : Nat) (g : Nat) (s0_0 : List Int) (s0_1 : Int) (a1 : Int) (A2 : Option Addr) (c2 : Nat) (l2 : List (S29)) (A3 : Option Addr) (c3 : Nat) (l3 : List (S63)) (r1 : Int) (r2 : Int) (r3 : List (S55)) (r4 : Int) (w0 w : World) (hI : IsS99 w0 w g s0_0 s0_1) (hB : Below w0.heap.size w0 w) (hr2 : ∀ W_, KeepBut w W_ g none → Kd.C k29 W_ A2 l2.length l2) (hc2 : l2.length ≤ c2) (hr3 : ∀ W_, KeepBut w W_ g none → Kd.C k63 W_ A3 l3.length l3) (hc3 : l3.length ≤ c3) (h : spec_l91Dish.f k s0_0 s0_1 a1 l2 l3 = some (r1, r2, r3, r4)) :
  Calls Try.prog 99 #[.pointer (some ⟨g, 0, none⟩), .int .i64 a1, .slice A2 l2.length c2, .slice A3 l3.length c3] w fun e w' => ∃ v2_ : Value, e = .returned (.agg #[.int .i64 r1, .int .i64 r2, v2_]) ∧ Kd.R k55 55 w' w.heap.size (fun _ => True) v2_ r3 ∧ IsS99 w0 w' g s0_0 r4 ∧ Below w0.heap.size w0 w' ∧ KeepBut w w' g none := by
 have hu29 := Try.underlying29
 have hu55 := Try.underlying55
 have HR2 := Aside0.mk hr2
 have HC2 := Aside0.mk hc2
 clear hr2 hc2
 have HR3 := Aside0.mk hr3
 have HC3 := Aside0.mk hc3
 clear hr3 hc3
 have HI0 := Aside0.mk hI
 have HK := Aside0.mk (KeepBut.refl w g none)
 have HL := Aside0.mk hB.size
 clear hI
 have HW0 := Aside0.mk hB.size
 have HB := Aside0.mk hB
 clear hB
 have H : ((spec_l6Rd_pick.f k s0_0 s0_1 12).bind fun bt154 => ((spec_l6Rd_pick.f k s0_0 bt154.2 4).bind fun bt160 => (spec_l91Dish.l0 k l2 l3 (wrap64 (1 + bt160.1)) 0 s0_0 bt160.2 a1 (wrap64 (1 + bt154.1)) (([] : List (S55)))))) = some (r1, r2, r3, r4) := h
 clear h
 replace H := Option.bind_eq_some_iff.mp H
 obtain ⟨⟨t154, t155⟩, A50, H⟩ := H
 replace H : ((spec_l6Rd_pick.f k s0_0 t155 4).bind fun bt160 => (spec_l91Dish.l0 k l2 l3 (wrap64 (1 + bt160.1)) 0 s0_0 bt160.2 a1 (wrap64 (1 + t154)) (([] : List (S55))))) = some (r1, r2, r3, r4) := H
 have A5 := Aside0.mk A50
 clear A50
 obtain ⟨y156, hy156⟩ : ∃ y_ : List (S55), y_ = (([] : List (S55))) := ⟨_, rfl⟩
 replace H : ((spec_l6Rd_pick.f k s0_0 t155 4).bind fun bt160 => (spec_l91Dish.l0 k l2 l3 (wrap64 (1 + bt160.1)) 0 s0_0 bt160.2 a1 (wrap64 (1 + t154)) y156)) = some (r1, r2, r3, r4) := by first | (rw [hy156]; with_reducible exact H) | (have H2_ := (Option.bind_some _ _).symm.trans H; rw [hy156]; with_reducible exact H2_) | (have H2_ := (Option.bind_some _ _).symm.trans H; with_reducible exact H2_) | with_reducible exact H | (rw [hy156]; exact H) | exact H
 have Ny156 := Aside0.mk hy156
 clear hy156
 replace H := Option.bind_eq_some_iff.mp H
 obtain ⟨⟨t160, t161⟩, A60, H⟩ := H
 replace H : (spec_l91Dish.l0 k l2 l3 (wrap64 (1 + t160)) 0 s0_0 t161 a1 (wrap64 (1 + t154)) y156) = some (r1, r2, r3, r4) := H
 have A6 := Aside0.mk A60
 clear A60
 have H' := Aside0.mk H
 clear H
 go_enter Try.func99, Try.ntmps99
 go_wp2_with (first | ((with_reducible refine gate_dst (N := 8) rfl ?_); refine box_event ?hg (N := 8) ?hd (cs := #[.int .i64 0, .int .i64 0, .slice none 0 0]) (t := 29) ?hr ?_; (case hd => rfl); (case hg => rfl); (case hr => first | (go_simp; done) | (go_simp; rfl)); intro gb153 hg w7 hbox hb; have n0_ := Aside0.mk (IsS99.below (by repeat (first | (with_reducible first | exact HI0.out | apply IsS99.alloc | apply IsS99.drewN | apply IsS99.drew | apply IsS99.set_1) | exact HI0.out)) hb); have n1_ := Aside0.mk (KeepBut.trans pK (KeepBut.of_below hb g none) (.inl rfl)); have n2_ := Aside0.mk (below_step (by repeat (first | (with_reducible first | exact HB.out | apply below_alloc | apply pw_below_drewN | apply below_drew1 | refine below_set ?_ (IsS99.ge HI0.out)) | exact HB.out)) hb); have n3_ := Aside0.mk (hbox); have n4_ := Aside0.mk ((by rw [hg]; exact (keep_size (w := w) (g := g) (row := none) pK) : w.heap.size ≤ gb153)); have n5_ := Aside0.mk ((Nat.le_trans HW0.out (by rw [hg]; exact (keep_size (w := w) (g := g) (row := none) pK) : w.heap.size ≤ gb153) : w0.heap.size ≤ gb153)); have n6_ := Aside0.mk ((by rw [hg]; exact Nat.ne_of_lt (IsS99.lt (show IsS99 w0 _ g s0_0 s0_1 from by repeat (first | (with_reducible first | exact HI0.out | apply IsS99.alloc | apply IsS99.drewN | apply IsS99.drew | apply IsS99.set_1) | exact HI0.out))) : g ≠ gb153)); have n7_ := Aside0.mk ((by rw [hg]; exact Nat.ne_of_gt (IsS99.lt (show IsS99 w0 _ g s0_0 s0_1 from by repeat (first | (with_reducible first | exact HI0.out | apply IsS99.alloc | apply IsS99.drewN | apply IsS99.drew | apply IsS99.set_1) | exact HI0.out))) : gb153 ≠ g)); clear HI0; clear HK; clear HB; have HI0 := n0_; have HK := n1_; have HB := n2_; have BK153 := n3_; have GW153 := n4_; have GE153 := n5_; have NB0_153 := n6_; have NB153_0 := n7_; clear n0_ n1_ n2_ n3_ n4_ n5_ n6_ n7_; clear hb hbox hg) | ((with_reducible refine gate_callee (f := 55) rfl ?_); refine goesL_ (some 14) rfl rfl Try.func55 pL rfl #[.pointer (some ⟨g, 0, none⟩), .int .i64 12] rfl pM ?_; (with_reducible refine (spec_l6Rd_pick.calls k g s0_0 s0_1 12 t154 t155 w0 _ ?side1 ?side2 A5.out).mono ?_); (case side1 => repeat (first | (with_reducible first | exact HI0.out | apply IsS99.alloc | apply IsS99.drewN | apply IsS99.drew | apply IsS99.set_1 | refine IsS99.far ?_ NB0_153.out _) | exact HI0.out)); (case side2 => repeat (first | (with_reducible first | exact HB.out | apply below_alloc | apply pw_below_drewN | apply below_drew1 | refine below_set ?_ (IsS99.ge HI0.out) | refine below_set ?_ GE153.out) | exact HB.out)); rintro e w8 ⟨rfl, hi, hb, hk⟩; refine ⟨_, rfl, ?_⟩; have n0_ := Aside0.mk (KeepBut.blk hk (g' := gb153) (o := .cells #[.int .i64 0, .int .i64 0, .slice none 0 0] 29 (0, 0)) (pC BK153) NB153_0.out (by simp)); have n1_ := Aside0.mk (KeepBut.trans (by repeat (first | (with_reducible first | exact HK.out | apply KeepBut.set_ | apply keep_drewN | apply keep_drew | apply keep_alloc | refine keep_far ?_ GW153.out _) | exact HK.out)) hk (.inl rfl)); have n2_ := Aside0.mk (hb); have n3_ := Aside0.mk (hi); clear BK153; clear HK; clear HB; clear HI0; have BK153 := n0_; have HK := n1_; have HB := n2_; have HI0 := n3_; clear n0_ n1_ n2_ n3_; (try clear hb); (try clear hb2); (try clear hk); (try clear hi)) | ((with_reducible refine gate_dst (N := 16) rfl ?_); refine Kd.R_lit k55 _ 55 ?hg (N := 16) ?hd (xs := ([] : List (S55))) (inner := []) (ok := fun _ => True) (okp := fun _ => True) ?hr ?hp (fun _ hk => hk) trivial (Below.refl _ _) (Nat.le_refl _) (by simp) ?_; (case hd => rfl); (case hg => rfl); (case hr => first | (go_simp; done) | (go_simp; rfl)); (case hp => exact (Reps.none _ _)); intro v157 w9 ho10 hb hg_ hnew_; clear hg_ hnew_; (first | rw [← Ny156.out] at ho10 | (simp only [Int.reduceToNat] at ho10; rw [← Ny156.out] at ho10)); have n0_ := Aside0.mk (Kd.R_lower ho10 (keep_size (w := w) (g := g) (row := none) (by repeat (first | (with_reducible first | exact HK.out | apply KeepBut.set_ | apply keep_drewN | apply keep_drew | apply keep_alloc | refine keep_far ?_ GW153.out _) | exact HK.out)))); have n1_ := Aside0.mk (IsS99.below (by repeat (first | (with_reducible first | exact HI0.out | apply IsS99.alloc | apply IsS99.drewN | apply IsS99.drew | apply IsS99.set_1 | refine IsS99.far ?_ NB0_153.out _) | exact HI0.out)) hb); have n2_ := Aside0.mk (blk_below (g := gb153) (o := .cells #[.int .i64 0, .int .i64 0, .slice none 0 0] 29 (0, 0)) (pC BK153) hb); have n3_ := Aside0.mk (KeepBut.trans (by repeat (first | (with_reducible first | exact HK.out | apply KeepBut.set_ | apply keep_drewN | apply keep_drew | apply keep_alloc | refine keep_far ?_ GW153.out _) | exact HK.out)) (KeepBut.of_below hb g none) (.inl rfl)); have n4_ := Aside0.mk (below_step (by repeat (first | (with_reducible first | exact HB.out | apply below_alloc | apply pw_below_drewN | apply below_drew1 | refine below_set ?_ (IsS99.ge HI0.out) | refine below_set ?_ GE153.out) | exact HB.out)) hb); clear HI0; clear BK153; clear HK; clear HB; have HO158 := n0_; have HI0 := n1_; have BK153 := n2_; have HK := n3_; have HB := n4_; clear n0_ n1_ n2_ n3_ n4_; clear hb ho10; obtain ⟨Ao11, co11, eo11⟩ := Kd.R_slice HO158.out; subst eo11) | ((with_reducible refine gate_dst (N := 9) rfl ?_); refine box_event ?hg (N := 9) ?hd (cs := #[.int .i64 0, .int .i64 0, .slice none 0 0]) (t := 29) ?hr ?_; (case hd => rfl); (case hg => rfl); (case hr => first | (go_simp; done) | (go_simp; rfl)); intro gb159 hg w12 hbox hb; have n0_ := Aside0.mk (Kd.R_below (pR HO158) hb); have n1_ := Aside0.mk (IsS99.below (by repeat (first | (with_reducible first | exact HI0.out | apply IsS99.alloc | apply IsS99.drewN | apply IsS99.drew | apply IsS99.set_1 | refine IsS99.far ?_ NB0_153.out _) | exact HI0.out)) hb); have n2_ := Aside0.mk (blk_below (g := gb153) (o := .cells #[.int .i64 0, .int .i64 0, .slice none 0 0] 29 (0, 0)) (pC BK153) hb); have n3_ := Aside0.mk (KeepBut.trans (by repeat (first | (with_reducible first | exact HK.out | apply KeepBut.set_ | apply keep_drewN | apply keep_drew | apply keep_alloc | refine keep_far ?_ GW153.out _) | exact HK.out)) (KeepBut.of_below hb g none) (.inl rfl)); have n4_ := Aside0.mk (below_step (by repeat (first | (with_reducible first | exact HB.out | apply below_alloc | apply pw_below_drewN | apply below_drew1 | refine below_set ?_ (IsS99.ge HI0.out) | refine below_set ?_ GE153.out) | exact HB.out)) hb); have n5_ := Aside0.mk (hbox); have n6_ := Aside0.mk ((by rw [hg]; exact (keep_size (w := w) (g := g) (row := none) (by repeat (first | (with_reducible first | exact HK.out | apply KeepBut.set_ | apply keep_drewN | apply keep_drew | apply keep_alloc | refine keep_far ?_ GW153.out _) | exact HK.out))) : w.heap.size ≤ gb159)); have n7_ := Aside0.mk ((Nat.le_trans HW0.out (by rw [hg]; exact (keep_size (w := w) (g := g) (row := none) (by repeat (first | (with_reducible first | exact HK.out | apply KeepBut.set_ | apply keep_drewN | apply keep_drew | apply keep_alloc | refine keep_far ?_ GW153.out _) | exact HK.out))) : w.heap.size ≤ gb159) : w0.heap.size ≤ gb159)); have n8_ := Aside0.mk ((by rw [hg]; exact Nat.ne_of_lt (blk_lt (g := gb153) (o := .cells #[.int .i64 0, .int .i64 0, .slice none 0 0] 29 (0, 0)) (pC BK153)) : gb153 ≠ gb159)); have n9_ := Aside0.mk ((by rw [hg]; exact Nat.ne_of_gt (blk_lt (g := gb153) (o := .cells #[.int .i64 0, .int .i64 0, .slice none 0 0] 29 (0, 0)) (pC BK153)) : gb159 ≠ gb153)); have n10_ := Aside0.mk ((by rw [hg]; exact Nat.ne_of_lt (IsS99.lt (show IsS99 w0 _ g s0_0 t155 from by repeat (first | (with_reducible first | exact HI0.out | apply IsS99.alloc | apply IsS99.drewN | apply IsS99.drew | apply IsS99.set_1 | refine IsS99.far ?_ NB0_153.out _) | exact HI0.out))) : g ≠ gb159)); have n11_ := Aside0.mk ((by rw [hg]; exact Nat.ne_of_gt (IsS99.lt (show IsS99 w0 _ g s0_0 t155 from by repeat (first | (with_reducible first | exact HI0.out | apply IsS99.alloc | apply IsS99.drewN | apply IsS99.drew | apply IsS99.set_1 | refine IsS99.far ?_ NB0_153.out _) | exact HI0.out))) : gb159 ≠ g)); clear HO158; clear HI0; clear BK153; clear HK; clear HB; have HO158 := n0_; have HI0 := n1_; have BK153 := n2_; have HK := n3_; have HB := n4_; have BK159 := n5_; have GW159 := n6_; have GE159 := n7_; have NB153_159 := n8_; have NB159_153 := n9_; have NB0_159 := n10_; have NB159_0 := n11_; clear n0_ n1_ n2_ n3_ n4_ n5_ n6_ n7_ n8_ n9_ n10_ n11_; clear hb hbox hg; have hnb13 := NB159_153.out; have hnc13 := NB153_159.out; have hnb14 := NB159_0.out; have hnc14 := NB0_159.out; have hcz15_0 : w12.cell? ⟨gb159, 0, none⟩ = some (.int .i64 0) := (blk_cell BK159.out 0).trans rfl; have hcz15_1 : w12.cell? ⟨gb159, 1, none⟩ = some (.int .i64 0) := (blk_cell BK159.out 1).trans rfl; have hcz15_2 : w12.cell? ⟨gb159, 2, none⟩ = some (.slice none 0 0) := (blk_cell BK159.out 2).trans rfl; have hfz15_0 := blk_frozen BK159.out 0; have hfz15_1 := blk_frozen BK159.out 1; have hfz15_2 := blk_frozen BK159.out 2) | ((with_reducible refine gate_callee (f := 55) rfl ?_); refine goesL_ (some 19) rfl rfl Try.func55 pL rfl #[.pointer (some ⟨g, 0, none⟩), .int .i64 4] rfl pM ?_; (with_reducible refine (spec_l6Rd_pick.calls k g s0_0 t155 4 t160 t161 w0 _ ?side1 ?side2 A6.out).mono ?_); (case side1 => repeat (first | (with_reducible first | exact HI0.out | apply IsS99.alloc | apply IsS99.drewN | apply IsS99.drew | apply IsS99.set_1 | refine IsS99.far ?_ NB0_153.out _ | refine IsS99.far ?_ NB0_159.out _) | exact HI0.out)); (case side2 => repeat (first | (with_reducible first | exact HB.out | apply below_alloc | apply pw_below_drewN | apply below_drew1 | refine below_set ?_ (IsS99.ge HI0.out) | refine below_set ?_ GE153.out | refine below_set ?_ GE159.out) | exact HB.out)); rintro e w16 ⟨rfl, hi, hb, hk⟩; refine ⟨_, rfl, ?_⟩; have n0_ := Aside0.mk (KeepBut.blk hk (g' := gb153) (o := .cells #[.int .i64 0, .int .i64 0, .slice none 0 0] 29 (0, 0)) (by (with_reducible repeat (first | refine blk_drewN ?_ _ | refine blk_drew ?_ | refine blk_alloc ?_ _)); refine blk_far ?_ NB153_159.out _; (with_reducible repeat (first | refine blk_drewN ?_ _ | refine blk_drew ?_ | refine blk_alloc ?_ _)); refine blk_far ?_ NB153_159.out _; (with_reducible repeat (first | refine blk_drewN ?_ _ | refine blk_drew ?_ | refine blk_alloc ?_ _)); refine blk_far ?_ NB153_159.out _; (with_reducible repeat (first | refine blk_drewN ?_ _ | refine blk_drew ?_ | refine blk_alloc ?_ _)); exact BK153.out) NB153_0.out (by simp)); have n1_ := Aside0.mk (Kd.R_mono (Kd.R_keep (IsS99.apart (show IsS99 w0 _ g s0_0 t155 from by repeat (first | (with_reducible first | exact HI0.out | apply IsS99.alloc | apply IsS99.drewN | apply IsS99.drew | apply IsS99.set_1 | refine IsS99.far ?_ NB0_153.out _ | refine IsS99.far ?_ NB0_159.out _) | exact HI0.out)) (by (with_reducible repeat (first | apply Kd.R_alloc | apply Kd.R_drewN | apply Kd.R_drew)); exact (Kd.R_mono (Kd.R_far (p := ⟨gb159, 2, none⟩) (Kd.R_far (p := ⟨gb159, 1, none⟩) (Kd.R_far (p := ⟨gb159, 0, none⟩) (Kd.R_types HO158.out BK159.out (by decide)) (fun _ hk => hk.2) (.int .i64 a1)) (fun _ hk => hk.2) (.int .i64 (wrap64 (1 + t154)))) (fun _ hk => hk.2) (.slice Ao11 y156.length co11)) (fun _ h_ => h_.1))) (by decide)) hk (fun _ h => h.2)) (fun _ h => h.1)); have n2_ := Aside0.mk (KeepBut.blk hk (g' := gb159) (o := .cells #[.int .i64 a1, .int .i64 (wrap64 (1 + t154)), .slice Ao11 y156.length co11] 29 (0, 0)) (by (with_reducible repeat (first | refine blk_drewN ?_ _ | refine blk_drew ?_ | refine blk_alloc ?_ _)); refine blk_put (cs := #[.int .i64 a1, .int .i64 (wrap64 (1 + t154)), .slice none 0 0]) ?_ 2 _ rfl; (with_reducible repeat (first | refine blk_drewN ?_ _ | refine blk_drew ?_ | refine blk_alloc ?_ _)); refine blk_put (cs := #[.int .i64 a1, .int .i64 0, .slice none 0 0]) ?_ 1 _ rfl; (with_reducible repeat (first | refine blk_drewN ?_ _ | refine blk_drew ?_ | refine blk_alloc ?_ _)); refine blk_put (cs := #[.int .i64 0, .int .i64 0, .slice none 0 0]) ?_ 0 _ rfl; (with_reducible repeat (first | refine blk_drewN ?_ _ | refine blk_drew ?_ | refine blk_alloc ?_ _)); exact BK159.out) NB159_0.out (by simp)); have n3_ := Aside0.mk (KeepBut.trans (by repeat (first | (with_reducible first | exact HK.out | apply KeepBut.set_ | apply keep_drewN | apply keep_drew | apply keep_alloc | refine keep_far ?_ GW153.out _ | refine keep_far ?_ GW159.out _) | exact HK.out)) hk (.inl rfl)); have n4_ := Aside0.mk (hb); have n5_ := Aside0.mk (hi); clear BK153; clear HO158; clear BK159; clear HK; clear HB; clear HI0; have BK153 := n0_; have HO158 := n1_; have BK159 := n2_; have HK := n3_; have HB := n4_; have HI0 := n5_; clear n0_ n1_ n2_ n3_ n4_ n5_; (try clear hb); (try clear hb2); (try clear hk); (try clear hi)))
 go_loopg [11] k (fun kq v11 w' => ∃ (x11_1 : Int) (x1001_1 : Int) (x160002_1 : List (S55)) (u160002 : Value), v11 = .int .i64 x11_1 ∧ Aside0 (spec_l91Dish.l0 kq l2 l3 (wrap64 (1 + t160)) x11_1 s0_0 x1001_1 a1 (wrap64 (1 + t154)) x160002_1 = some (r1, r2, r3, r4)) ∧ Aside0 (kq ≤ k) ∧ Aside0 (Kd.R k55 55 w' w.heap.size (fun _ => True) u160002 x160002_1) ∧ Aside0 (w'.heap[gb153]? = some (.cells #[.int .i64 0, .int .i64 0, (.slice none 0 0)] 29 (0, 0))) ∧ Aside0 (w'.heap[gb159]? = some (.cells #[.int .i64 a1, .int .i64 (wrap64 (1 + t154)), u160002] 29 (0, 0))) ∧ Aside0 (IsS99 w0 w' g s0_0 x1001_1) ∧ Aside0 (KeepBut w w' g none) ∧ Aside0 (Below w0.heap.size w0 w'))
 case atStart => exact ⟨(0), (t161), (y156), (.slice Ao11 y156.length co11), pF, H', ⟨Nat.le_refl _⟩, ⟨pR HO158⟩, ⟨pC BK153⟩, ⟨pC BK159⟩, ⟨by repeat (first | (with_reducible first | exact HI0.out | apply IsS99.alloc | apply IsS99.drewN | apply IsS99.drew | apply IsS99.set_1 | refine IsS99.far ?_ NB0_153.out _ | refine IsS99.far ?_ NB0_159.out _) | exact HI0.out)⟩, ⟨by repeat (first | (with_reducible first | exact HK.out | apply KeepBut.set_ | apply keep_drewN | apply keep_drew | apply keep_alloc | refine keep_far ?_ GW153.out _ | refine keep_far ?_ GW159.out _) | exact HK.out)⟩, ⟨by repeat (first | (with_reducible first | exact HB.out | apply below_alloc | apply pw_below_drewN | apply below_drew1 | refine below_set ?_ (IsS99.ge HI0.out) | refine below_set ?_ GE153.out | refine below_set ?_ GE159.out) | exact HB.out)⟩⟩
 case round =>
  clear H'
  try clear c1
  try clear c2
  try clear p2
  try clear c3
  try clear c5
  try clear p6
  try clear c9
  try clear c13
  try clear c14
  try clear hcz15_0
  try clear hcz15_1
  try clear hcz15_2
  try clear hfz15_0
  try clear hfz15_1
  try clear hfz15_2
  obtain ⟨x11_1, x1001_1, x160002_1, u160002, rfl, HA, HK1, HO_160002, BK153, BK159, HI0, HK, HB⟩ := hrel
  cases gk with
  | zero => exact absurd HA.out (by simp [spec_l91Dish.l0])
  | succ k1 =>
   have H := HA.out
   clear HA
   simp only [spec_l91Dish.l0] at H
   by_cases c17 : x11_1 < (wrap64 (1 + t160))
   ·rw [if_pos c17] at H
    have c17b0 : decide (x11_1 < (wrap64 (1 + t160))) = true := decide_eq_true c17
    clear c17
    have HC18 := Aside0.mk H
    clear H
    go_upto_region 6 with (fail)
    go_cut [33] (fun v33 wc => ∃ (kq : Nat) (x33_17 : Bool) (x1001_17 : Int), v33 = .bool x33_17 ∧ Aside0 (spec_l91Dish.j1 kq l2 l3 (wrap64 (1 + t160)) x11_1 x33_17 s0_0 x1001_17 a1 (wrap64 (1 + t154)) x160002_1 = some (r1, r2, r3, r4)) ∧ Aside0 (kq ≤ k1) ∧ Aside0 (Kd.R k55 55 wc w.heap.size (fun _ => True) u160002 x160002_1) ∧ Aside0 (wc.heap[gb153]? = some (.cells #[.int .i64 0, .int .i64 0, (.slice none 0 0)] 29 (0, 0))) ∧ Aside0 (wc.heap[gb159]? = some (.cells #[.int .i64 a1, .int .i64 (wrap64 (1 + t154)), u160002] 29 (0, 0))) ∧ Aside0 (IsS99 w0 wc g s0_0 x1001_17) ∧ Aside0 (KeepBut w wc g none) ∧ Aside0 (Below w0.heap.size w0 wc))
    case first =>
     have H := HC18.out
     clear HC18
     by_cases c19 : (l2.length : Int) > 0
     ·rw [if_pos c19] at H
      have c19b0 : decide (0 < (l2.length : Int)) = true := decide_eq_true c19
      have c19b1 : decide (0 < l2.length) = true := decide_eq_true (by omega)
      clear c19
      (first | rw [c19b0] | (simp only [i64_w, i32_w]; rw [c19b0]) | skip)
      replace H := Option.bind_eq_some_iff.mp H
      obtain ⟨⟨t162, t163⟩, A200, H⟩ := H
      replace H : (spec_l91Dish.j1 k1 l2 l3 (wrap64 (1 + t160)) x11_1 (t162 == 0) s0_0 t163 a1 (wrap64 (1 + t154)) x160002_1) = some (r1, r2, r3, r4) := H
      have A20 := Aside0.mk A200
      clear A200
      have H' := Aside0.mk H
      clear H
      go_wp2_with (first | (go_at_call 55; (with_reducible refine (spec_l6Rd_pick.calls k1 g s0_0 x1001_1 3 t162 t163 w0 _ ?side1 ?side2 A20.out).mono ?_); (case side1 => repeat (first | (with_reducible first | exact HI0.out | apply IsS99.alloc | apply IsS99.drewN | apply IsS99.drew | apply IsS99.set_1 | refine IsS99.far ?_ NB0_153.out _ | refine IsS99.far ?_ NB0_159.out _) | exact HI0.out)); (case side2 => repeat (first | (with_reducible first | exact HB.out | apply below_alloc | apply pw_below_drewN | apply below_drew1 | refine below_set ?_ (IsS99.ge HI0.out) | refine below_set ?_ GE153.out | refine below_set ?_ GE159.out) | exact HB.out)); rintro e w21 ⟨rfl, hi, hb, hk⟩; have n0_ := Aside0.mk (Kd.R_mono (Kd.R_keep (IsS99.apart (show IsS99 w0 _ g s0_0 x1001_1 from by repeat (first | (with_reducible first | exact HI0.out | apply IsS99.alloc | apply IsS99.drewN | apply IsS99.drew | apply IsS99.set_1 | refine IsS99.far ?_ NB0_153.out _ | refine IsS99.far ?_ NB0_159.out _) | exact HI0.out)) (pR HO_160002) (by decide)) hk (fun _ h => h.2)) (fun _ h => h.1)); have n1_ := Aside0.mk (KeepBut.blk hk (g' := gb153) (o := .cells #[.int .i64 0, .int .i64 0, .slice none 0 0] 29 (0, 0)) (pC BK153) NB153_0.out (by simp)); have n2_ := Aside0.mk (KeepBut.blk hk (g' := gb159) (o := .cells #[.int .i64 a1, .int .i64 (wrap64 (1 + t154)), u160002] 29 (0, 0)) (pC BK159) NB159_0.out (by simp)); have n3_ := Aside0.mk (KeepBut.trans (by repeat (first | (with_reducible first | exact HK.out | apply KeepBut.set_ | apply keep_drewN | apply keep_drew | apply keep_alloc | refine keep_far ?_ GW153.out _ | refine keep_far ?_ GW159.out _) | exact HK.out)) hk (.inl rfl)); have n4_ := Aside0.mk (hb); have n5_ := Aside0.mk (hi); clear HO_160002; clear BK153; clear BK159; clear HK; clear HB; clear HI0; have HO_160002 := n0_; have BK153 := n1_; have BK159 := n2_; have HK := n3_; have HB := n4_; have HI0 := n5_; clear n0_ n1_ n2_ n3_ n4_ n5_; (try clear hb); (try clear hb2); (try clear hk); (try clear hi)))
      go_meet
      case rel => exact ⟨_, ((t162 == 0)), (t163), pF, H', ⟨by have := HK1.out; first | omega | exact Nat.le_refl _⟩, ⟨pR HO_160002⟩, ⟨pC BK153⟩, ⟨pC BK159⟩, ⟨by repeat (first | (with_reducible first | exact HI0.out | apply IsS99.alloc | apply IsS99.drewN | apply IsS99.drew | apply IsS99.set_1 | refine IsS99.far ?_ NB0_153.out _ | refine IsS99.far ?_ NB0_159.out _) | exact HI0.out)⟩, ⟨by repeat (first | (with_reducible first | exact HK.out | apply KeepBut.set_ | apply keep_drewN | apply keep_drew | apply keep_alloc | refine keep_far ?_ GW153.out _ | refine keep_far ?_ GW159.out _) | exact HK.out)⟩, ⟨by repeat (first | (with_reducible first | exact HB.out | apply below_alloc | apply pw_below_drewN | apply below_drew1 | refine below_set ?_ (IsS99.ge HI0.out) | refine below_set ?_ GE153.out | refine below_set ?_ GE159.out) | exact HB.out)⟩⟩
     ·rw [if_neg c19] at H
      have c19b0 : decide (0 < (l2.length : Int)) = false := decide_eq_false c19
      have c19b1 : decide (0 < l2.length) = false := decide_eq_false (by omega)
      clear c19
      (first | rw [c19b0] | (simp only [i64_w, i32_w]; rw [c19b0]) | skip)
      have H' := Aside0.mk H
      clear H
      go_wp2
      go_meet
      case rel => exact ⟨_, (false), (x1001_1), pF, H', ⟨by have := HK1.out; first | omega | exact Nat.le_refl _⟩, ⟨pR HO_160002⟩, ⟨pC BK153⟩, ⟨pC BK159⟩, ⟨by repeat (first | (with_reducible first | exact HI0.out | apply IsS99.alloc | apply IsS99.drewN | apply IsS99.drew | apply IsS99.set_1 | refine IsS99.far ?_ NB0_153.out _ | refine IsS99.far ?_ NB0_159.out _) | exact HI0.out)⟩, ⟨by repeat (first | (with_reducible first | exact HK.out | apply KeepBut.set_ | apply keep_drewN | apply keep_drew | apply keep_alloc | refine keep_far ?_ GW153.out _ | refine keep_far ?_ GW159.out _) | exact HK.out)⟩, ⟨by repeat (first | (with_reducible first | exact HB.out | apply below_alloc | apply pw_below_drewN | apply below_drew1 | refine below_set ?_ (IsS99.ge HI0.out) | refine below_set ?_ GE153.out | refine below_set ?_ GE159.out) | exact HB.out)⟩⟩
    case rest =>
     clear HC18
     try clear c1
     try clear c2
     try clear p2
     try clear c3
     try clear c5
     try clear p6
     try clear c9
     try clear c13
     try clear c14
     try clear c17
     try clear c17b0
     try clear c19
     try clear c19b0
     try clear c19b1
     try clear hcz15_0
     try clear hcz15_1
     try clear hcz15_2
     try clear hfz15_0
     try clear hfz15_1
     try clear hfz15_2
     try clear p2
     try clear p6
     obtain ⟨kq, x33_17, x1001_17, rfl, HA, HJ17, HO_160002, BK153, BK159, HI0, HK, HB⟩ := hcut
     cases kq with
     | zero => exact absurd HA.out (by simp [spec_l91Dish.j1])
     | succ kj17 =>
      have H := HA.out
      clear HA
      simp only [spec_l91Dish.j1] at H
      by_cases c22 : x33_17 = true
      ·subst c22
       have H1 : ((spec_l6Rd_pick.f kj17 s0_0 x1001_17 (l2.length : Int)).bind fun bt164 => (if 0 ≤ bt164.1 then (if bt164.1 < (l2.length : Int) then ((spec_l6Rd_pick.f kj17 s0_0 bt164.2 9).bind fun bt167 => (if x160002_1.length < 5864062014805 then (spec_l91Dish.l0 kj17 l2 l3 (wrap64 (1 + t160)) (wrap64 (x11_1 + 1)) s0_0 bt167.2 a1 (wrap64 (1 + t154)) (x160002_1 ++ [(⟨0, (rd_T29 l2 bt164.1).f0, wrap64 (1 + bt167.1)⟩ : S55)])) else (none))) else (none)) else (none))) = some (r1, r2, r3, r4) := by rw [if_pos rfl] at H; exact H
       clear H
       have H := H1
       clear H1
       replace H := Option.bind_eq_some_iff.mp H
       obtain ⟨⟨t164, t165⟩, A230, H⟩ := H
       replace H : (if 0 ≤ t164 then (if t164 < (l2.length : Int) then ((spec_l6Rd_pick.f kj17 s0_0 t165 9).bind fun bt167 => (if x160002_1.length < 5864062014805 then (spec_l91Dish.l0 kj17 l2 l3 (wrap64 (1 + t160)) (wrap64 (x11_1 + 1)) s0_0 bt167.2 a1 (wrap64 (1 + t154)) (x160002_1 ++ [(⟨0, (rd_T29 l2 t164).f0, wrap64 (1 + bt167.1)⟩ : S55)])) else (none))) else (none)) else (none)) = some (r1, r2, r3, r4) := H
       have A23 := Aside0.mk A230
       clear A230
       by_cases c24 : 0 ≤ t164
       ·rw [if_pos c24] at H
        have c24b0 : decide (0 ≤ t164) = true := decide_eq_true c24
        clear c24
        by_cases c25 : t164 < (l2.length : Int)
        ·rw [if_pos c25] at H
         have c25b0 : decide (t164 < (l2.length : Int)) = true := decide_eq_true c25
         clear c25
         replace H := Option.bind_eq_some_iff.mp H
         obtain ⟨⟨t167, t168⟩, A260, H⟩ := H
         replace H : (if x160002_1.length < 5864062014805 then (spec_l91Dish.l0 kj17 l2 l3 (wrap64 (1 + t160)) (wrap64 (x11_1 + 1)) s0_0 t168 a1 (wrap64 (1 + t154)) (x160002_1 ++ [(⟨0, (rd_T29 l2 t164).f0, wrap64 (1 + t167)⟩ : S55)])) else (none)) = some (r1, r2, r3, r4) := H
         have A26 := Aside0.mk A260
         clear A260
         by_cases c27 : x160002_1.length < 5864062014805
         ·rw [if_pos c27] at H
          have LMc27 := Aside0.mk c27
          clear c27
          obtain ⟨y169, hy169⟩ : ∃ y_ : List (S55), y_ = (x160002_1 ++ [(⟨0, (rd_T29 l2 t164).f0, wrap64 (1 + t167)⟩ : S55)]) := ⟨_, rfl⟩
          replace H : (spec_l91Dish.l0 kj17 l2 l3 (wrap64 (1 + t160)) (wrap64 (x11_1 + 1)) s0_0 t168 a1 (wrap64 (1 + t154)) y169) = some (r1, r2, r3, r4) := by first | (rw [hy169]; with_reducible exact H) | (have H2_ := (Option.bind_some _ _).symm.trans H; rw [hy169]; with_reducible exact H2_) | (have H2_ := (Option.bind_some _ _).symm.trans H; with_reducible exact H2_) | with_reducible exact H | (rw [hy169]; exact H) | exact H
          have Ny169 := Aside0.mk hy169
          clear hy169
          have H' := Aside0.mk H
          clear H
          try go_wp2
          have n0_ := Aside0.mk (Kd.R_drew HO_160002.out)
          have n1_ := Aside0.mk (blk_drew BK153.out)
          have n2_ := Aside0.mk (blk_drew BK159.out)
          have n3_ := Aside0.mk (IsS99.drew HI0.out)
          have n4_ := Aside0.mk (keep_drew HK.out)
          have n5_ := Aside0.mk (below_drew1 HB.out)
          clear HO_160002
          clear BK153
          clear BK159
          clear HI0
          clear HK
          clear HB
          have HO_160002 := n0_
          have BK153 := n1_
          have BK159 := n2_
          have HI0 := n3_
          have HK := n4_
          have HB := n5_
          clear n0_ n1_ n2_ n3_ n4_ n5_
          have p166 : 0 ≤ (t164 : Int) := of_decide_eq_true pA
          have q166 : t164 < (l2.length : Int) := of_decide_eq_true pA
          obtain ⟨ad166, A166_2, c166_2, e166, hx166_0, hx166_1, hx166_2, hl166_2, hi166_2⟩ := at_T29 (Kd.C_foot_now HR2.out HK.out) t164 p166 q166
          have hw166_2 := hx166_2
          have hw166_1 := hx166_1
          have hw166_0 := hx166_0
          cases e166
          have hne166_2 := (show (⟨(ad166.add ((t164).toNat * 3)).block, (ad166.add ((t164).toNat * 3)).off + 2, none⟩ : Addr).block ≠ g from by first | (rw [add_block]; exact Kd.foot_ne HR2.out (by omega) (by decide)) | (show (Addr.add _ _).block ≠ _; rw [add_block]; exact Kd.foot_ne HR2.out (by omega) (by decide)) | exact Kd.foot_ne HR2.out (by omega) (by decide) | (dsimp only; exact Kd.foot_ne HR2.out (by omega) (by decide)))
          have hlt166_2 := (Kd.foot_lt HR2.out (by omega) (by decide))
          have hne166_1 := (show (⟨(ad166.add ((t164).toNat * 3)).block, (ad166.add ((t164).toNat * 3)).off + 1, none⟩ : Addr).block ≠ g from by first | (rw [add_block]; exact Kd.foot_ne HR2.out (by omega) (by decide)) | (show (Addr.add _ _).block ≠ _; rw [add_block]; exact Kd.foot_ne HR2.out (by omega) (by decide)) | exact Kd.foot_ne HR2.out (by omega) (by decide) | (dsimp only; exact Kd.foot_ne HR2.out (by omega) (by decide)))
          have hlt166_1 := (Kd.foot_lt HR2.out (by omega) (by decide))
          have hne166_0 := (show ((ad166.add ((t164).toNat * 3)) : Addr).block ≠ g from by first | (rw [add_block]; exact Kd.foot_ne HR2.out (by omega) (by decide)) | (show (Addr.add _ _).block ≠ _; rw [add_block]; exact Kd.foot_ne HR2.out (by omega) (by decide)) | exact Kd.foot_ne HR2.out (by omega) (by decide) | (dsimp only; exact Kd.foot_ne HR2.out (by omega) (by decide)))
          have hlt166_0 := (Kd.foot_lt HR2.out (by omega) (by decide))
          have HR166_2 := Aside0.mk hi166_2
          have HC166_2 := Aside0.mk hl166_2
          clear hi166_2 hl166_2
          replace p166 := eq_true p166
          replace q166 := eq_true q166
          refine start_ (n := 18) (S := fun w' => w'.cell? ⟨gb159, 0, none⟩ = some (.int .i64 a1) ∧ w'.cell? ⟨gb159, 1, none⟩ = some (.int .i64 (wrap64 (1 + t154))) ∧ w'.cell? ⟨gb159, 2, none⟩ = some (u160002) ∧ w'.cell? (ad166.add ((t164).toNat * 3)) = some (.int .i64 ((rd_T29 l2 t164).f0)) ∧ w'.cell? ⟨(ad166.add ((t164).toNat * 3)).block, (ad166.add ((t164).toNat * 3)).off + 1, none⟩ = some (.int .i64 ((rd_T29 l2 t164).f1)) ∧ w'.cell? ⟨(ad166.add ((t164).toNat * 3)).block, (ad166.add ((t164).toNat * 3)).off + 2, none⟩ = some (.slice A166_2 ((rd_T29 l2 t164).f2).length c166_2)) (ds := [15, 17]) #[false, false, false, false, false, false, false, false, false, false, false, false, false, false, false, false, false, false] pL rfl rfl ⟨(blk_cell BK159.out 0).trans rfl, (blk_cell BK159.out 1).trans rfl, (blk_cell BK159.out 2).trans rfl, hx166_0, hx166_1, hx166_2⟩ (fun hHeld => ?_); refine with_tabW spec_l91Dish.tab7 spec_l91Dish.bits7 (fun HT_ HW_ => ?_)
          generalize wc.drew = w28 at HO_160002 BK153 BK159 HI0 HK HB HR166_2 hx166_0 hx166_1 hx166_2 hHeld ⊢
          refine pure_ (i := 0) (N := some 34) (v := ?_) (a' := ?_) #[true, false, false, false, false, false, false, false, false, false, false, false, false, false, false, false, false, false] rfl rfl (any_of HT_.out pL) (fun _ _ _ h => h) (Or.inl ⟨by rfl, ?_⟩) ?_ ?_
          rotate_left
          ·intro w'
           go_simp
           with_reducible rfl
          rotate_left
          ·exact pP
          refine pure_ (i := 2) (N := some 36) (v := ?_) (a' := ?_) #[true, false, true, false, false, false, false, false, false, false, false, false, false, false, false, false, false, false] rfl rfl (any_of HT_.out pL) (fun _ _ _ h => h) (Or.inl ⟨by rfl, ?_⟩) ?_ ?_
          rotate_left
          ·intro w'
           go_simp
           with_reducible rfl
          rotate_left
          ·exact pP
          refine pure_ (i := 3) (N := some 37) (v := ?_) (a' := ?_) #[true, false, true, true, false, false, false, false, false, false, false, false, false, false, false, false, false, false] rfl rfl (any_of HT_.out pL) (fun _ _ _ h => h) (Or.inl ⟨by rfl, ?_⟩) ?_ ?_
          rotate_left
          ·intro w'
           go_simp
           with_reducible rfl
          rotate_left
          ·exact pP
          refine pure_ (i := 4) (N := some 38) (v := ?_) (a' := ?_) #[true, false, true, true, true, false, false, false, false, false, false, false, false, false, false, false, false, false] rfl rfl (any_of HT_.out pL) (fun _ _ _ h => h) (Or.inl ⟨by rfl, ?_⟩) ?_ ?_
          rotate_left
          ·intro w'
           go_simp
           with_reducible rfl
          rotate_left
          ·exact pP
          refine pure_ (i := 5) (N := some 39) (v := ?_) (a' := ?_) #[true, false, true, true, true, true, false, false, false, false, false, false, false, false, false, false, false, false] rfl rfl (any_of HT_.out pL) (fun _ _ _ h => h) (Or.inl ⟨by rfl, ?_⟩) ?_ ?_
          rotate_left
          ·intro w'
           go_simp
           with_reducible rfl
          rotate_left
          ·exact pP
          refine pure_ (i := 10) (N := some 44) (v := ?_) (a' := ?_) #[true, false, true, true, true, true, false, false, false, false, true, false, false, false, false, false, false, false] rfl rfl (any_of HT_.out pL) (fun _ _ _ h => h) (Or.inl ⟨by rfl, ?_⟩) ?_ ?_
          rotate_left
          ·intro w'
           go_simp
           with_reducible rfl
          rotate_left
          ·exact pP
          refine take_ (i := 1) (N := some 35) (v := ?_) (a' := ?_) #[true, true, true, true, true, true, false, false, false, false, true, false, false, false, false, false, false, false] rfl rfl (take_ofW HT_.out HW_.out pL) (fun _ _ _ h => h) (Or.inl ⟨by rfl, ?_⟩) hHeld ?_ ?_
          rotate_left
          ·rintro w' ⟨s0, s1, s2, s3, s4, s5⟩
           go_simp
           with_reducible rfl
          rotate_left
          ·exact pP
          refine one_ (i := 6) (N := some 40) #[true, true, true, true, true, true, true, false, false, false, true, false, false, false, false, false, false, false] rfl rfl (one_of HT_.out pL) (by decide) (fun K hK => ?_)
          refine goes_ Try.func55 pL rfl #[.pointer (some ⟨g, 0, none⟩), .int .i64 (l2.length : Int)] (by rfl) rfl rfl pM ?_
          with_reducible refine (spec_l6Rd_pick.calls kj17 g s0_0 x1001_17 (l2.length : Int) t164 t165 w0 _ ?side1 ?side2 A23.out).mono ?_
          (case side1 => repeat (first | (with_reducible first | exact HI0.out | apply IsS99.alloc | apply IsS99.drewN | apply IsS99.drew | apply IsS99.set_1 | refine IsS99.far ?_ NB0_153.out _ | refine IsS99.far ?_ NB0_159.out _) | exact HI0.out))
          (case side2 => repeat (first | (with_reducible first | exact HB.out | apply below_alloc | apply pw_below_drewN | apply below_drew1 | refine below_set ?_ (IsS99.ge HI0.out) | refine below_set ?_ GE153.out | refine below_set ?_ GE159.out) | exact HB.out))
          rintro e w29 ⟨rfl, hi, hb, hk⟩
          have HS3_ := keep_cell hk (hHeld.2.2.2.1) (by first | (rw [add_block]; exact hne166_0) | (show (Addr.add _ _).block ≠ _; rw [add_block]; exact hne166_0) | exact hne166_0)
          have HS4_ := keep_cell hk (hHeld.2.2.2.2.1) (by first | (rw [add_block]; exact hne166_1) | (show (Addr.add _ _).block ≠ _; rw [add_block]; exact hne166_1) | exact hne166_1)
          have HS5_ := keep_cell hk (hHeld.2.2.2.2.2) (by first | (rw [add_block]; exact hne166_2) | (show (Addr.add _ _).block ≠ _; rw [add_block]; exact hne166_2) | exact hne166_2)
          refine ⟨_, rfl, ?_⟩
          have n0_ := Aside0.mk (Kd.R_mono (Kd.R_keep (IsS99.apart (show IsS99 w0 _ g s0_0 x1001_17 from by repeat (first | (with_reducible first | exact HI0.out | apply IsS99.alloc | apply IsS99.drewN | apply IsS99.drew | apply IsS99.set_1 | refine IsS99.far ?_ NB0_153.out _ | refine IsS99.far ?_ NB0_159.out _) | exact HI0.out)) (pR HO_160002) (by decide)) hk (fun _ h => h.2)) (fun _ h => h.1))
          have n1_ := Aside0.mk (KeepBut.blk hk (g' := gb153) (o := .cells #[.int .i64 0, .int .i64 0, .slice none 0 0] 29 (0, 0)) (pC BK153) NB153_0.out (by simp))
          have n2_ := Aside0.mk (KeepBut.blk hk (g' := gb159) (o := .cells #[.int .i64 a1, .int .i64 (wrap64 (1 + t154)), u160002] 29 (0, 0)) (pC BK159) NB159_0.out (by simp))
          have n3_ := Aside0.mk (KeepBut.trans (by repeat (first | (with_reducible first | exact HK.out | apply KeepBut.set_ | apply keep_drewN | apply keep_drew | apply keep_alloc | refine keep_far ?_ GW153.out _ | refine keep_far ?_ GW159.out _) | exact HK.out)) hk (.inl rfl))
          have n4_ := Aside0.mk (hb)
          have n5_ := Aside0.mk (hi)
          clear HO_160002
          clear BK153
          clear BK159
          clear HK
          clear HB
          clear HI0
          have HO_160002 := n0_
          have BK153 := n1_
          have BK159 := n2_
          have HK := n3_
          have HB := n4_
          have HI0 := n5_
          clear n0_ n1_ n2_ n3_ n4_ n5_
          (try clear hb)
          (try clear hb2)
          (try clear hk)
          (try clear hi)
          refine hK.out _ _ ⟨(blk_cell BK159.out 0).trans rfl, (blk_cell BK159.out 1).trans rfl, (blk_cell BK159.out 2).trans rfl, HS3_, HS4_, HS5_⟩ (fun hHeld => ?_)
          clear hK K
          refine norm_ (a' := ?_) ?_ ?_
          rotate_left
          ·show Act.put _ (some 40) _ = _
           exact pP
          refine pure_ (i := 7) (N := some 41) (v := ?_) (a' := ?_) #[true, true, true, true, true, true, true, true, false, false, true, false, false, false, false, false, false, false] rfl rfl (any_of HT_.out pL) (fun _ _ _ h => h) (Or.inl ⟨by rfl, ?_⟩) ?_ ?_
          rotate_left
          ·intro w'
           go_simp
           with_reducible rfl
          rotate_left
          ·exact pP
          refine pure_ (i := 8) (N := some 42) (v := ?_) (a' := ?_) #[true, true, true, true, true, true, true, true, true, false, true, false, false, false, false, false, false, false] rfl rfl (any_of HT_.out pL) (fun _ _ _ h => h) (Or.inl ⟨by rfl, ?_⟩) ?_ ?_
          rotate_left
          ·intro w'
           go_simp
           with_reducible rfl
          rotate_left
          ·exact pP
          refine take_ (i := 9) (N := some 43) (v := ?_) (a' := ?_) #[true, true, true, true, true, true, true, true, true, true, true, false, false, false, false, false, false, false] rfl rfl (take_ofW HT_.out HW_.out pL) (fun _ _ _ h => h) (Or.inl ⟨by rfl, ?_⟩) hHeld ?_ ?_
          rotate_left
          ·rintro w' ⟨s0, s1, s2, s3, s4, s5⟩
           go_simp
           with_reducible rfl
          rotate_left
          ·exact pP
          refine one_ (i := 11) (N := some 45) #[true, true, true, true, true, true, true, true, true, true, true, true, false, false, false, false, false, false] rfl rfl (one_of HT_.out pL) (by decide) (fun K hK => ?_)
          refine goes_ Try.func55 pL rfl #[.pointer (some ⟨g, 0, none⟩), .int .i64 9] (by rfl) rfl rfl pM ?_
          with_reducible refine (spec_l6Rd_pick.calls kj17 g s0_0 t165 9 t167 t168 w0 _ ?side1 ?side2 A26.out).mono ?_
          (case side1 => repeat (first | (with_reducible first | exact HI0.out | apply IsS99.alloc | apply IsS99.drewN | apply IsS99.drew | apply IsS99.set_1 | refine IsS99.far ?_ NB0_153.out _ | refine IsS99.far ?_ NB0_159.out _) | exact HI0.out))
          (case side2 => repeat (first | (with_reducible first | exact HB.out | apply below_alloc | apply pw_below_drewN | apply below_drew1 | refine below_set ?_ (IsS99.ge HI0.out) | refine below_set ?_ GE153.out | refine below_set ?_ GE159.out) | exact HB.out))
          rintro e w30 ⟨rfl, hi, hb, hk⟩
          have HS3_ := keep_cell hk (hHeld.2.2.2.1) (by first | (rw [add_block]; exact hne166_0) | (show (Addr.add _ _).block ≠ _; rw [add_block]; exact hne166_0) | exact hne166_0)
          have HS4_ := keep_cell hk (hHeld.2.2.2.2.1) (by first | (rw [add_block]; exact hne166_1) | (show (Addr.add _ _).block ≠ _; rw [add_block]; exact hne166_1) | exact hne166_1)
          have HS5_ := keep_cell hk (hHeld.2.2.2.2.2) (by first | (rw [add_block]; exact hne166_2) | (show (Addr.add _ _).block ≠ _; rw [add_block]; exact hne166_2) | exact hne166_2)
          refine ⟨_, rfl, ?_⟩
          have n0_ := Aside0.mk (Kd.R_mono (Kd.R_keep (IsS99.apart (show IsS99 w0 _ g s0_0 t165 from by repeat (first | (with_reducible first | exact HI0.out | apply IsS99.alloc | apply IsS99.drewN | apply IsS99.drew | apply IsS99.set_1 | refine IsS99.far ?_ NB0_153.out _ | refine IsS99.far ?_ NB0_159.out _) | exact HI0.out)) (pR HO_160002) (by decide)) hk (fun _ h => h.2)) (fun _ h => h.1))
          have n1_ := Aside0.mk (KeepBut.blk hk (g' := gb153) (o := .cells #[.int .i64 0, .int .i64 0, .slice none 0 0] 29 (0, 0)) (pC BK153) NB153_0.out (by simp))
          have n2_ := Aside0.mk (KeepBut.blk hk (g' := gb159) (o := .cells #[.int .i64 a1, .int .i64 (wrap64 (1 + t154)), u160002] 29 (0, 0)) (pC BK159) NB159_0.out (by simp))
          have n3_ := Aside0.mk (KeepBut.trans (by repeat (first | (with_reducible first | exact HK.out | apply KeepBut.set_ | apply keep_drewN | apply keep_drew | apply keep_alloc | refine keep_far ?_ GW153.out _ | refine keep_far ?_ GW159.out _) | exact HK.out)) hk (.inl rfl))
          have n4_ := Aside0.mk (hb)
          have n5_ := Aside0.mk (hi)
          clear HO_160002
          clear BK153
          clear BK159
          clear HK
          clear HB
          clear HI0
          have HO_160002 := n0_
          have BK153 := n1_
          have BK159 := n2_
          have HK := n3_
          have HB := n4_
          have HI0 := n5_
          clear n0_ n1_ n2_ n3_ n4_ n5_
          (try clear hb)
          (try clear hb2)
          (try clear hk)
          (try clear hi)
          refine hK.out _ _ ⟨(blk_cell BK159.out 0).trans rfl, (blk_cell BK159.out 1).trans rfl, (blk_cell BK159.out 2).trans rfl, HS3_, HS4_, HS5_⟩ (fun hHeld => ?_)
          clear hK K
          refine norm_ (a' := ?_) ?_ ?_
          rotate_left
          ·show Act.put _ (some 45) _ = _
           exact pP
          refine pure_ (i := 12) (N := some 46) (v := ?_) (a' := ?_) #[true, true, true, true, true, true, true, true, true, true, true, true, true, false, false, false, false, false] rfl rfl (any_of HT_.out pL) (fun _ _ _ h => h) (Or.inl ⟨by rfl, ?_⟩) ?_ ?_
          rotate_left
          ·intro w'
           go_simp
           with_reducible rfl
          rotate_left
          ·exact pP
          refine pure_ (i := 13) (N := some 47) (v := ?_) (a' := ?_) #[true, true, true, true, true, true, true, true, true, true, true, true, true, true, false, false, false, false] rfl rfl (any_of HT_.out pL) (fun _ _ _ h => h) (Or.inl ⟨by rfl, ?_⟩) ?_ ?_
          rotate_left
          ·intro w'
           go_simp
           with_reducible rfl
          rotate_left
          ·exact pP
          refine one_ (i := 14) (N := some 48) #[true, true, true, true, true, true, true, true, true, true, true, true, true, true, true, false, false, false] rfl rfl (one_of HT_.out pL) (by decide) (fun K hK => ?_)
          refine value_ (w1 := ?_) (v := ?_) (by rfl) rfl ?_ ?_
          rotate_left 2
          ·go_simp
           constructor
           ·rfl
           ·rfl
          refine hK.out _ _ ⟨(blk_cell (blk_alloc BK159.out _) 0).trans rfl, (blk_cell (blk_alloc BK159.out _) 1).trans rfl, (blk_cell (blk_alloc BK159.out _) 2).trans rfl, (World.cell?_alloc_lt _ _ _ (World.block_lt_of_cell? _ _ (hHeld.2.2.2.1))).trans (hHeld.2.2.2.1), (World.cell?_alloc_lt _ _ _ (World.block_lt_of_cell? _ _ (hHeld.2.2.2.2.1))).trans (hHeld.2.2.2.2.1), (World.cell?_alloc_lt _ _ _ (World.block_lt_of_cell? _ _ (hHeld.2.2.2.2.2))).trans (hHeld.2.2.2.2.2)⟩ (fun hHeld => ?_)
          clear hK K
          refine norm_ (a' := ?_) ?_ ?_
          rotate_left
          ·show Act.put _ (some 48) _ = _
           exact pP
          refine last_ (i := 15) (N := some 49) #[true, true, true, true, true, true, true, true, true, true, true, true, true, true, true, true, false, false] rfl rfl (one_of HT_.out pL) (by decide) (fun K hK => ?_)
          refine Kd.R_append_step k55 w.heap.size (by rfl) (.tmp 35) (.tmp 48) 27 55 (.agg #[(.int .i64 0), (.int .i64 0), (.int .i64 0)]) 24 rfl Try.underlying27 info55 rfl (by decide) (by omega) u160002 x160002_1 (⟨0, (rd_T29 l2 t164).f0, wrap64 (1 + t167)⟩ : S55) [.int .i64 0, .int .i64 ((rd_T29 l2 t164).f0), .int .i64 (wrap64 (1 + t167))] (fun _ => True) (fun _ => False) rfl rfl ?aP (fun _ hk => hk.elim) ?aF ?aO (Below.refl _ _) ?aS ?aL ?_
          (case aP => exact k55_mkM _ _ _ (⟨0, (rd_T29 l2 t164).f0, wrap64 (1 + t167)⟩ : S55))
          (case aF => exact (fun _ _ => trivial))
          (case aO => exact (pR HO_160002))
          (case aS => exact (keep_size (w := w) (g := g) (row := none) (by repeat (first | (with_reducible first | exact HK.out | apply KeepBut.set_ | apply keep_drewN | apply keep_drew | apply keep_alloc | refine keep_far ?_ GW153.out _ | refine keep_far ?_ GW159.out _) | exact HK.out))))
          (case aL => have := LMc27.out; omega)
          intro v170 w31 ho hb hg hat
          rw [← Ny169.out] at ho
          have n0_ := Aside0.mk (blk_grown (g := gb153) (o := .cells #[.int .i64 0, .int .i64 0, .slice none 0 0] 29 (0, 0)) (pC BK153) hg (Kd.R_ne HO_160002.out BK153.out (by decide)))
          have n1_ := Aside0.mk (blk_grown (g := gb159) (o := .cells #[.int .i64 a1, .int .i64 (wrap64 (1 + t154)), u160002] 29 (0, 0)) (pC BK159) hg (Kd.R_ne HO_160002.out BK159.out (by decide)))
          have n2_ := Aside0.mk (IsS99.grown (by repeat (first | (with_reducible first | exact HI0.out | apply IsS99.alloc | apply IsS99.drewN | apply IsS99.drew | apply IsS99.set_1 | refine IsS99.far ?_ NB0_153.out _ | refine IsS99.far ?_ NB0_159.out _) | exact HI0.out)) hg (IsS99.own_ne HI0.out HO_160002.out (by decide)))
          have n3_ := Aside0.mk (below_weaken (by repeat (first | (with_reducible first | exact HB.out | apply below_alloc | apply pw_below_drewN | apply below_drew1 | refine below_set ?_ (IsS99.ge HI0.out) | refine below_set ?_ GE153.out | refine below_set ?_ GE159.out) | exact HB.out)) HL.out hb)
          have n4_ := Aside0.mk (KeepBut.trans (by repeat (first | (with_reducible first | exact HK.out | apply KeepBut.set_ | apply keep_drewN | apply keep_drew | apply keep_alloc | refine keep_far ?_ GW153.out _ | refine keep_far ?_ GW159.out _) | exact HK.out)) (KeepBut.of_grown hg g) (Kd.R_base2 HO_160002.out))
          have n5_ := Aside0.mk (ho)
          clear BK153
          clear BK159
          clear HI0
          clear HB
          clear HK
          clear HO_160002
          have BK153 := n0_
          have BK159 := n1_
          have HI0 := n2_
          have HB := n3_
          have HK := n4_
          have HO171 := n5_
          clear n0_ n1_ n2_ n3_ n4_ n5_
          clear ho hb hg hat
          obtain ⟨Ao32, co32, eo32⟩ := Kd.R_slice HO171.out
          (first | subst eo32 | (injection eo32 with f1_ f2_ f3_; have f4_ := f1_.symm; have f5_ := f3_.symm; clear f1_ f2_ f3_; subst f4_; subst f5_))
          refine hK.out _ _ ?_
          clear hK K
          refine norm_ (a' := ?_) ?_ ?_
          rotate_left
          ·show Act.put _ (some 49) _ = _
           exact pP
          refine pure_ (i := 16) (N := some 50) (v := ?_) (a' := ?_) #[true, true, true, true, true, true, true, true, true, true, true, true, true, true, true, true, true, false] rfl rfl (any_of HT_.out pL) (fun _ _ _ h => h) (Or.inl ⟨by rfl, ?_⟩) ?_ ?_
          rotate_left
          ·intro w'
           go_simp
           with_reducible rfl
          rotate_left
          ·exact pP
          refine last_ (i := 17) (N := none) #[true, true, true, true, true, true, true, true, true, true, true, true, true, true, true, true, true, true] rfl rfl (one_of HT_.out pL) (by decide) (fun K hK => ?_)
          have hs33 : w31.cell? ⟨gb159, 2, none⟩ = some (u160002) := (blk_cell BK159.out 2).trans rfl
          have hfs33 := blk_frozen BK159.out 2
          have hns33_0 := NB153_159.out
          have hms33_0 := NB159_153.out
          refine skip_ (w1 := ?_) (by rfl) rfl ?_ ?_
          rotate_left
          ·go_simp
           rfl
          refine hK.out _ _ ?_
          clear hK K
          refine done_ (done_of HT_.out pL) ?_
          try go_wp2
          go_roundg kj17
          case measure => have := HK1.out; have := HJ17.out; omega
          case rel => exact ⟨(wrap64 (x11_1 + 1)), (t168), (y169), (.slice Ao32 y169.length co32), pF, H', ⟨by have := HK1.out; have := HJ17.out; omega⟩, ⟨by (with_reducible repeat (first | apply Kd.R_alloc | apply Kd.R_drewN | apply Kd.R_drew)); exact Kd.R_mono (Kd.R_far (p := ⟨gb159, 2, none⟩) (Kd.R_types HO171.out BK159.out (by decide)) (fun _ hk => hk.2) (.slice Ao32 y169.length co32)) (fun _ hk => trivial)⟩, ⟨by (with_reducible repeat (first | refine blk_drewN ?_ _ | refine blk_drew ?_ | refine blk_alloc ?_ _)); refine blk_far ?_ NB153_159.out _; (with_reducible repeat (first | refine blk_drewN ?_ _ | refine blk_drew ?_ | refine blk_alloc ?_ _)); exact BK153.out⟩, ⟨by (with_reducible repeat (first | refine blk_drewN ?_ _ | refine blk_drew ?_ | refine blk_alloc ?_ _)); refine blk_put (cs := #[.int .i64 a1, .int .i64 (wrap64 (1 + t154)), u160002]) ?_ 2 _ rfl; (with_reducible repeat (first | refine blk_drewN ?_ _ | refine blk_drew ?_ | refine blk_alloc ?_ _)); exact BK159.out⟩, ⟨by repeat (first | (with_reducible first | exact HI0.out | apply IsS99.alloc | apply IsS99.drewN | apply IsS99.drew | apply IsS99.set_1 | refine IsS99.far ?_ NB0_153.out _ | refine IsS99.far ?_ NB0_159.out _) | exact HI0.out)⟩, ⟨by repeat (first | (with_reducible first | exact HK.out | apply KeepBut.set_ | apply keep_drewN | apply keep_drew | apply keep_alloc | refine keep_far ?_ GW153.out _ | refine keep_far ?_ GW159.out _) | exact HK.out)⟩, ⟨by repeat (first | (with_reducible first | exact HB.out | apply below_alloc | apply pw_below_drewN | apply below_drew1 | refine below_set ?_ (IsS99.ge HI0.out) | refine below_set ?_ GE153.out | refine below_set ?_ GE159.out) | exact HB.out)⟩⟩
         ·rw [if_neg c27] at H
          exact absurd H (by simp)
        ·rw [if_neg c25] at H
         exact absurd H (by simp)
       ·rw [if_neg c24] at H
        exact absurd H (by simp)
      ·replace c22 := Bool.eq_false_iff.mpr c22
       subst c22
       have H1 : (if (l3.length : Int) > 0 then ((spec_l6Rd_pick.f kj17 s0_0 x1001_17 (l3.length : Int)).bind fun bt172 => (if 0 ≤ bt172.1 then (if bt172.1 < (l3.length : Int) then ((spec_l6Rd_pick.f kj17 s0_0 bt172.2 200).bind fun bt175 => (if x160002_1.length < 5864062014805 then (spec_l91Dish.l0 kj17 l2 l3 (wrap64 (1 + t160)) (wrap64 (x11_1 + 1)) s0_0 bt175.2 a1 (wrap64 (1 + t154)) (x160002_1 ++ [(⟨(rd_T63 l3 bt172.1).f0, 0, wrap64 (1 + bt175.1)⟩ : S55)])) else (none))) else (none)) else (none))) else (spec_l91Dish.l0 kj17 l2 l3 (wrap64 (1 + t160)) (wrap64 (x11_1 + 1)) s0_0 x1001_17 a1 (wrap64 (1 + t154)) x160002_1)) = some (r1, r2, r3, r4) := by rw [if_neg (show ¬ (false = true) by decide)] at H; exact H
       clear H
       have H := H1
       clear H1
       by_cases c34 : (l3.length : Int) > 0
       ·rw [if_pos c34] at H
        have c34b0 : decide (0 < (l3.length : Int)) = true := decide_eq_true c34
        have c34b1 : decide (0 < l3.length) = true := decide_eq_true (by omega)
        clear c34
        replace H := Option.bind_eq_some_iff.mp H
        obtain ⟨⟨t172, t173⟩, A350, H⟩ := H
        replace H : (if 0 ≤ t172 then (if t172 < (l3.length : Int) then ((spec_l6Rd_pick.f kj17 s0_0 t173 200).bind fun bt175 => (if x160002_1.length < 5864062014805 then (spec_l91Dish.l0 kj17 l2 l3 (wrap64 (1 + t160)) (wrap64 (x11_1 + 1)) s0_0 bt175.2 a1 (wrap64 (1 + t154)) (x160002_1 ++ [(⟨(rd_T63 l3 t172).f0, 0, wrap64 (1 + bt175.1)⟩ : S55)])) else (none))) else (none)) else (none)) = some (r1, r2, r3, r4) := H
        have A35 := Aside0.mk A350
        clear A350
        by_cases c36 : 0 ≤ t172
        ·rw [if_pos c36] at H
         have c36b0 : decide (0 ≤ t172) = true := decide_eq_true c36
         clear c36
         by_cases c37 : t172 < (l3.length : Int)
         ·rw [if_pos c37] at H
          have c37b0 : decide (t172 < (l3.length : Int)) = true := decide_eq_true c37
          clear c37
          replace H := Option.bind_eq_some_iff.mp H
          obtain ⟨⟨t175, t176⟩, A380, H⟩ := H
          replace H : (if x160002_1.length < 5864062014805 then (spec_l91Dish.l0 kj17 l2 l3 (wrap64 (1 + t160)) (wrap64 (x11_1 + 1)) s0_0 t176 a1 (wrap64 (1 + t154)) (x160002_1 ++ [(⟨(rd_T63 l3 t172).f0, 0, wrap64 (1 + t175)⟩ : S55)])) else (none)) = some (r1, r2, r3, r4) := H
          have A38 := Aside0.mk A380
          clear A380
          by_cases c39 : x160002_1.length < 5864062014805
          ·rw [if_pos c39] at H
           have LMc39 := Aside0.mk c39
           clear c39
           obtain ⟨y177, hy177⟩ : ∃ y_ : List (S55), y_ = (x160002_1 ++ [(⟨(rd_T63 l3 t172).f0, 0, wrap64 (1 + t175)⟩ : S55)]) := ⟨_, rfl⟩
           replace H : (spec_l91Dish.l0 kj17 l2 l3 (wrap64 (1 + t160)) (wrap64 (x11_1 + 1)) s0_0 t176 a1 (wrap64 (1 + t154)) y177) = some (r1, r2, r3, r4) := by first | (rw [hy177]; with_reducible exact H) | (have H2_ := (Option.bind_some _ _).symm.trans H; rw [hy177]; with_reducible exact H2_) | (have H2_ := (Option.bind_some _ _).symm.trans H; with_reducible exact H2_) | with_reducible exact H | (rw [hy177]; exact H) | exact H
           have Ny177 := Aside0.mk hy177
           clear hy177
           have H' := Aside0.mk H
           clear H
           try go_wp2
           have n0_ := Aside0.mk (Kd.R_drew HO_160002.out)
           have n1_ := Aside0.mk (blk_drew BK153.out)
           have n2_ := Aside0.mk (blk_drew BK159.out)
           have n3_ := Aside0.mk (IsS99.drew HI0.out)
           have n4_ := Aside0.mk (keep_drew HK.out)
           have n5_ := Aside0.mk (below_drew1 HB.out)
           clear HO_160002
           clear BK153
           clear BK159
           clear HI0
           clear HK
           clear HB
           have HO_160002 := n0_
           have BK153 := n1_
           have BK159 := n2_
           have HI0 := n3_
           have HK := n4_
           have HB := n5_
           clear n0_ n1_ n2_ n3_ n4_ n5_
           have p174 : 0 ≤ (t172 : Int) := of_decide_eq_true pA
           have q174 : t172 < (l3.length : Int) := of_decide_eq_true pA
           obtain ⟨ad174, e174, hx174_0, hx174_1, hx174_2, hx174_3, hx174_4, hx174_5⟩ := at_T63 (Kd.C_foot_now HR3.out HK.out) t172 p174 q174
           have hw174_5 := hx174_5
           have hw174_4 := hx174_4
           have hw174_3 := hx174_3
           have hw174_2 := hx174_2
           have hw174_1 := hx174_1
           have hw174_0 := hx174_0
           cases e174
           have hne174_5 := (show (⟨(ad174.add ((t172).toNat * 6)).block, (ad174.add ((t172).toNat * 6)).off + 5, none⟩ : Addr).block ≠ g from by first | (rw [add_block]; exact Kd.foot_ne HR3.out (by omega) (by decide)) | (show (Addr.add _ _).block ≠ _; rw [add_block]; exact Kd.foot_ne HR3.out (by omega) (by decide)) | exact Kd.foot_ne HR3.out (by omega) (by decide) | (dsimp only; exact Kd.foot_ne HR3.out (by omega) (by decide)))
           have hlt174_5 := (Kd.foot_lt HR3.out (by omega) (by decide))
           have hne174_4 := (show (⟨(ad174.add ((t172).toNat * 6)).block, (ad174.add ((t172).toNat * 6)).off + 4, none⟩ : Addr).block ≠ g from by first | (rw [add_block]; exact Kd.foot_ne HR3.out (by omega) (by decide)) | (show (Addr.add _ _).block ≠ _; rw [add_block]; exact Kd.foot_ne HR3.out (by omega) (by decide)) | exact Kd.foot_ne HR3.out (by omega) (by decide) | (dsimp only; exact Kd.foot_ne HR3.out (by omega) (by decide)))
           have hlt174_4 := (Kd.foot_lt HR3.out (by omega) (by decide))
           have hne174_3 := (show (⟨(ad174.add ((t172).toNat * 6)).block, (ad174.add ((t172).toNat * 6)).off + 3, none⟩ : Addr).block ≠ g from by first | (rw [add_block]; exact Kd.foot_ne HR3.out (by omega) (by decide)) | (show (Addr.add _ _).block ≠ _; rw [add_block]; exact Kd.foot_ne HR3.out (by omega) (by decide)) | exact Kd.foot_ne HR3.out (by omega) (by decide) | (dsimp only; exact Kd.foot_ne HR3.out (by omega) (by decide)))
           have hlt174_3 := (Kd.foot_lt HR3.out (by omega) (by decide))
           have hne174_2 := (show (⟨(ad174.add ((t172).toNat * 6)).block, (ad174.add ((t172).toNat * 6)).off + 2, none⟩ : Addr).block ≠ g from by first | (rw [add_block]; exact Kd.foot_ne HR3.out (by omega) (by decide)) | (show (Addr.add _ _).block ≠ _; rw [add_block]; exact Kd.foot_ne HR3.out (by omega) (by decide)) | exact Kd.foot_ne HR3.out (by omega) (by decide) | (dsimp only; exact Kd.foot_ne HR3.out (by omega) (by decide)))
           have hlt174_2 := (Kd.foot_lt HR3.out (by omega) (by decide))
           have hne174_1 := (show (⟨(ad174.add ((t172).toNat * 6)).block, (ad174.add ((t172).toNat * 6)).off + 1, none⟩ : Addr).block ≠ g from by first | (rw [add_block]; exact Kd.foot_ne HR3.out (by omega) (by decide)) | (show (Addr.add _ _).block ≠ _; rw [add_block]; exact Kd.foot_ne HR3.out (by omega) (by decide)) | exact Kd.foot_ne HR3.out (by omega) (by decide) | (dsimp only; exact Kd.foot_ne HR3.out (by omega) (by decide)))
           have hlt174_1 := (Kd.foot_lt HR3.out (by omega) (by decide))
           have hne174_0 := (show ((ad174.add ((t172).toNat * 6)) : Addr).block ≠ g from by first | (rw [add_block]; exact Kd.foot_ne HR3.out (by omega) (by decide)) | (show (Addr.add _ _).block ≠ _; rw [add_block]; exact Kd.foot_ne HR3.out (by omega) (by decide)) | exact Kd.foot_ne HR3.out (by omega) (by decide) | (dsimp only; exact Kd.foot_ne HR3.out (by omega) (by decide)))
           have hlt174_0 := (Kd.foot_lt HR3.out (by omega) (by decide))
           replace p174 := eq_true p174
           replace q174 := eq_true q174
           refine start_ (n := 18) (S := fun w' => w'.cell? ⟨gb159, 0, none⟩ = some (.int .i64 a1) ∧ w'.cell? ⟨gb159, 1, none⟩ = some (.int .i64 (wrap64 (1 + t154))) ∧ w'.cell? ⟨gb159, 2, none⟩ = some (u160002) ∧ w'.cell? (ad174.add ((t172).toNat * 6)) = some (.int .i64 ((rd_T63 l3 t172).f0)) ∧ w'.cell? ⟨(ad174.add ((t172).toNat * 6)).block, (ad174.add ((t172).toNat * 6)).off + 1, none⟩ = some (.int .i64 ((rd_T63 l3 t172).f1)) ∧ w'.cell? ⟨(ad174.add ((t172).toNat * 6)).block, (ad174.add ((t172).toNat * 6)).off + 2, none⟩ = some (.int .i64 ((rd_T63 l3 t172).f2)) ∧ w'.cell? ⟨(ad174.add ((t172).toNat * 6)).block, (ad174.add ((t172).toNat * 6)).off + 3, none⟩ = some (.int .i64 ((rd_T63 l3 t172).f3)) ∧ w'.cell? ⟨(ad174.add ((t172).toNat * 6)).block, (ad174.add ((t172).toNat * 6)).off + 4, none⟩ = some (.int .i64 ((rd_T63 l3 t172).f4)) ∧ w'.cell? ⟨(ad174.add ((t172).toNat * 6)).block, (ad174.add ((t172).toNat * 6)).off + 5, none⟩ = some (.int .i64 ((rd_T63 l3 t172).f5))) (ds := [15, 17]) #[false, false, false, false, false, false, false, false, false, false, false, false, false, false, false, false, false, false] pL rfl rfl ⟨(blk_cell BK159.out 0).trans rfl, (blk_cell BK159.out 1).trans rfl, (blk_cell BK159.out 2).trans rfl, hx174_0, hx174_1, hx174_2, hx174_3, hx174_4, hx174_5⟩ (fun hHeld => ?_); refine with_tabW spec_l91Dish.tab9 spec_l91Dish.bits9 (fun HT_ HW_ => ?_)
           generalize wc.drew = w40 at HO_160002 BK153 BK159 HI0 HK HB hx174_0 hx174_1 hx174_2 hx174_3 hx174_4 hx174_5 hHeld ⊢
           refine pure_ (i := 0) (N := some 54) (v := ?_) (a' := ?_) #[true, false, false, false, false, false, false, false, false, false, false, false, false, false, false, false, false, false] rfl rfl (any_of HT_.out pL) (fun _ _ _ h => h) (Or.inl ⟨by rfl, ?_⟩) ?_ ?_
           rotate_left
           ·intro w'
            go_simp
            with_reducible rfl
           rotate_left
           ·exact pP
           refine pure_ (i := 2) (N := some 56) (v := ?_) (a' := ?_) #[true, false, true, false, false, false, false, false, false, false, false, false, false, false, false, false, false, false] rfl rfl (any_of HT_.out pL) (fun _ _ _ h => h) (Or.inl ⟨by rfl, ?_⟩) ?_ ?_
           rotate_left
           ·intro w'
            go_simp
            with_reducible rfl
           rotate_left
           ·exact pP
           refine pure_ (i := 3) (N := some 57) (v := ?_) (a' := ?_) #[true, false, true, true, false, false, false, false, false, false, false, false, false, false, false, false, false, false] rfl rfl (any_of HT_.out pL) (fun _ _ _ h => h) (Or.inl ⟨by rfl, ?_⟩) ?_ ?_
           rotate_left
           ·intro w'
            go_simp
            with_reducible rfl
           rotate_left
           ·exact pP
           refine pure_ (i := 4) (N := some 58) (v := ?_) (a' := ?_) #[true, false, true, true, true, false, false, false, false, false, false, false, false, false, false, false, false, false] rfl rfl (any_of HT_.out pL) (fun _ _ _ h => h) (Or.inl ⟨by rfl, ?_⟩) ?_ ?_
           rotate_left
           ·intro w'
            go_simp
            with_reducible rfl
           rotate_left
           ·exact pP
           refine pure_ (i := 5) (N := some 59) (v := ?_) (a' := ?_) #[true, false, true, true, true, true, false, false, false, false, false, false, false, false, false, false, false, false] rfl rfl (any_of HT_.out pL) (fun _ _ _ h => h) (Or.inl ⟨by rfl, ?_⟩) ?_ ?_
           rotate_left
           ·intro w'
            go_simp
            with_reducible rfl
           rotate_left
           ·exact pP
           refine pure_ (i := 10) (N := some 64) (v := ?_) (a' := ?_) #[true, false, true, true, true, true, false, false, false, false, true, false, false, false, false, false, false, false] rfl rfl (any_of HT_.out pL) (fun _ _ _ h => h) (Or.inl ⟨by rfl, ?_⟩) ?_ ?_
           rotate_left
           ·intro w'
            go_simp
            with_reducible rfl
           rotate_left
           ·exact pP
           refine take_ (i := 1) (N := some 55) (v := ?_) (a' := ?_) #[true, true, true, true, true, true, false, false, false, false, true, false, false, false, false, false, false, false] rfl rfl (take_ofW HT_.out HW_.out pL) (fun _ _ _ h => h) (Or.inl ⟨by rfl, ?_⟩) hHeld ?_ ?_
           rotate_left
           ·rintro w' ⟨s0, s1, s2, s3, s4, s5, s6, s7, s8⟩
            go_simp
            with_reducible rfl
           rotate_left
           ·exact pP
           refine one_ (i := 6) (N := some 60) #[true, true, true, true, true, true, true, false, false, false, true, false, false, false, false, false, false, false] rfl rfl (one_of HT_.out pL) (by decide) (fun K hK => ?_)
           refine goes_ Try.func55 pL rfl #[.pointer (some ⟨g, 0, none⟩), .int .i64 (l3.length : Int)] (by rfl) rfl rfl pM ?_
           with_reducible refine (spec_l6Rd_pick.calls kj17 g s0_0 x1001_17 (l3.length : Int) t172 t173 w0 _ ?side1 ?side2 A35.out).mono ?_
           (case side1 => repeat (first | (with_reducible first | exact HI0.out | apply IsS99.alloc | apply IsS99.drewN | apply IsS99.drew | apply IsS99.set_1 | refine IsS99.far ?_ NB0_153.out _ | refine IsS99.far ?_ NB0_159.out _) | exact HI0.out))
           (case side2 => repeat (first | (with_reducible first | exact HB.out | apply below_alloc | apply pw_below_drewN | apply below_drew1 | refine below_set ?_ (IsS99.ge HI0.out) | refine below_set ?_ GE153.out | refine below_set ?_ GE159.out) | exact HB.out))
           rintro e w41 ⟨rfl, hi, hb, hk⟩
           have HS3_ := keep_cell hk (hHeld.2.2.2.1) (by first | (rw [add_block]; exact hne174_0) | (show (Addr.add _ _).block ≠ _; rw [add_block]; exact hne174_0) | exact hne174_0)
           have HS4_ := keep_cell hk (hHeld.2.2.2.2.1) (by first | (rw [add_block]; exact hne174_1) | (show (Addr.add _ _).block ≠ _; rw [add_block]; exact hne174_1) | exact hne174_1)
           have HS5_ := keep_cell hk (hHeld.2.2.2.2.2.1) (by first | (rw [add_block]; exact hne174_2) | (show (Addr.add _ _).block ≠ _; rw [add_block]; exact hne174_2) | exact hne174_2)
           have HS6_ := keep_cell hk (hHeld.2.2.2.2.2.2.1) (by first | (rw [add_block]; exact hne174_3) | (show (Addr.add _ _).block ≠ _; rw [add_block]; exact hne174_3) | exact hne174_3)
           have HS7_ := keep_cell hk (hHeld.2.2.2.2.2.2.2.1) (by first | (rw [add_block]; exact hne174_4) | (show (Addr.add _ _).block ≠ _; rw [add_block]; exact hne174_4) | exact hne174_4)
           have HS8_ := keep_cell hk (hHeld.2.2.2.2.2.2.2.2) (by first | (rw [add_block]; exact hne174_5) | (show (Addr.add _ _).block ≠ _; rw [add_block]; exact hne174_5) | exact hne174_5)
           refine ⟨_, rfl, ?_⟩
           have n0_ := Aside0.mk (Kd.R_mono (Kd.R_keep (IsS99.apart (show IsS99 w0 _ g s0_0 x1001_17 from by repeat (first | (with_reducible first | exact HI0.out | apply IsS99.alloc | apply IsS99.drewN | apply IsS99.drew | apply IsS99.set_1 | refine IsS99.far ?_ NB0_153.out _ | refine IsS99.far ?_ NB0_159.out _) | exact HI0.out)) (pR HO_160002) (by decide)) hk (fun _ h => h.2)) (fun _ h => h.1))
           have n1_ := Aside0.mk (KeepBut.blk hk (g' := gb153) (o := .cells #[.int .i64 0, .int .i64 0, .slice none 0 0] 29 (0, 0)) (pC BK153) NB153_0.out (by simp))
           have n2_ := Aside0.mk (KeepBut.blk hk (g' := gb159) (o := .cells #[.int .i64 a1, .int .i64 (wrap64 (1 + t154)), u160002] 29 (0, 0)) (pC BK159) NB159_0.out (by simp))
           have n3_ := Aside0.mk (KeepBut.trans (by repeat (first | (with_reducible first | exact HK.out | apply KeepBut.set_ | apply keep_drewN | apply keep_drew | apply keep_alloc | refine keep_far ?_ GW153.out _ | refine keep_far ?_ GW159.out _) | exact HK.out)) hk (.inl rfl))
           have n4_ := Aside0.mk (hb)
           have n5_ := Aside0.mk (hi)
           clear HO_160002
           clear BK153
           clear BK159
           clear HK
           clear HB
           clear HI0
           have HO_160002 := n0_
           have BK153 := n1_
           have BK159 := n2_
           have HK := n3_
           have HB := n4_
           have HI0 := n5_
           clear n0_ n1_ n2_ n3_ n4_ n5_
           (try clear hb)
           (try clear hb2)
           (try clear hk)
           (try clear hi)
           refine hK.out _ _ ⟨(blk_cell BK159.out 0).trans rfl, (blk_cell BK159.out 1).trans rfl, (blk_cell BK159.out 2).trans rfl, HS3_, HS4_, HS5_, HS6_, HS7_, HS8_⟩ (fun hHeld => ?_)
           clear hK K
           refine norm_ (a' := ?_) ?_ ?_
           rotate_left
           ·show Act.put _ (some 60) _ = _
            exact pP
           refine pure_ (i := 7) (N := some 61) (v := ?_) (a' := ?_) #[true, true, true, true, true, true, true, true, false, false, true, false, false, false, false, false, false, false] rfl rfl (any_of HT_.out pL) (fun _ _ _ h => h) (Or.inl ⟨by rfl, ?_⟩) ?_ ?_
           rotate_left
           ·intro w'
            go_simp
            with_reducible rfl
           rotate_left
           ·exact pP
           refine pure_ (i := 8) (N := some 62) (v := ?_) (a' := ?_) #[true, true, true, true, true, true, true, true, true, false, true, false, false, false, false, false, false, false] rfl rfl (any_of HT_.out pL) (fun _ _ _ h => h) (Or.inl ⟨by rfl, ?_⟩) ?_ ?_
           rotate_left
           ·intro w'
            go_simp
            with_reducible rfl
           rotate_left
           ·exact pP
           refine take_ (i := 9) (N := some 63) (v := ?_) (a' := ?_) #[true, true, true, true, true, true, true, true, true, true, true, false, false, false, false, false, false, false] rfl rfl (take_ofW HT_.out HW_.out pL) (fun _ _ _ h => h) (Or.inl ⟨by rfl, ?_⟩) hHeld ?_ ?_
           rotate_left
           ·rintro w' ⟨s0, s1, s2, s3, s4, s5, s6, s7, s8⟩
            go_simp
            with_reducible rfl
           rotate_left
           ·exact pP
           refine one_ (i := 11) (N := some 65) #[true, true, true, true, true, true, true, true, true, true, true, true, false, false, false, false, false, false] rfl rfl (one_of HT_.out pL) (by decide) (fun K hK => ?_)
           refine goes_ Try.func55 pL rfl #[.pointer (some ⟨g, 0, none⟩), .int .i64 200] (by rfl) rfl rfl pM ?_
           with_reducible refine (spec_l6Rd_pick.calls kj17 g s0_0 t173 200 t175 t176 w0 _ ?side1 ?side2 A38.out).mono ?_
           (case side1 => repeat (first | (with_reducible first | exact HI0.out | apply IsS99.alloc | apply IsS99.drewN | apply IsS99.drew | apply IsS99.set_1 | refine IsS99.far ?_ NB0_153.out _ | refine IsS99.far ?_ NB0_159.out _) | exact HI0.out))
           (case side2 => repeat (first | (with_reducible first | exact HB.out | apply below_alloc | apply pw_below_drewN | apply below_drew1 | refine below_set ?_ (IsS99.ge HI0.out) | refine below_set ?_ GE153.out | refine below_set ?_ GE159.out) | exact HB.out))
           rintro e w42 ⟨rfl, hi, hb, hk⟩
           have HS3_ := keep_cell hk (hHeld.2.2.2.1) (by first | (rw [add_block]; exact hne174_0) | (show (Addr.add _ _).block ≠ _; rw [add_block]; exact hne174_0) | exact hne174_0)
           have HS4_ := keep_cell hk (hHeld.2.2.2.2.1) (by first | (rw [add_block]; exact hne174_1) | (show (Addr.add _ _).block ≠ _; rw [add_block]; exact hne174_1) | exact hne174_1)
           have HS5_ := keep_cell hk (hHeld.2.2.2.2.2.1) (by first | (rw [add_block]; exact hne174_2) | (show (Addr.add _ _).block ≠ _; rw [add_block]; exact hne174_2) | exact hne174_2)
           have HS6_ := keep_cell hk (hHeld.2.2.2.2.2.2.1) (by first | (rw [add_block]; exact hne174_3) | (show (Addr.add _ _).block ≠ _; rw [add_block]; exact hne174_3) | exact hne174_3)
           have HS7_ := keep_cell hk (hHeld.2.2.2.2.2.2.2.1) (by first | (rw [add_block]; exact hne174_4) | (show (Addr.add _ _).block ≠ _; rw [add_block]; exact hne174_4) | exact hne174_4)
           have HS8_ := keep_cell hk (hHeld.2.2.2.2.2.2.2.2) (by first | (rw [add_block]; exact hne174_5) | (show (Addr.add _ _).block ≠ _; rw [add_block]; exact hne174_5) | exact hne174_5)
           refine ⟨_, rfl, ?_⟩
           have n0_ := Aside0.mk (Kd.R_mono (Kd.R_keep (IsS99.apart (show IsS99 w0 _ g s0_0 t173 from by repeat (first | (with_reducible first | exact HI0.out | apply IsS99.alloc | apply IsS99.drewN | apply IsS99.drew | apply IsS99.set_1 | refine IsS99.far ?_ NB0_153.out _ | refine IsS99.far ?_ NB0_159.out _) | exact HI0.out)) (pR HO_160002) (by decide)) hk (fun _ h => h.2)) (fun _ h => h.1))
           have n1_ := Aside0.mk (KeepBut.blk hk (g' := gb153) (o := .cells #[.int .i64 0, .int .i64 0, .slice none 0 0] 29 (0, 0)) (pC BK153) NB153_0.out (by simp))
           have n2_ := Aside0.mk (KeepBut.blk hk (g' := gb159) (o := .cells #[.int .i64 a1, .int .i64 (wrap64 (1 + t154)), u160002] 29 (0, 0)) (pC BK159) NB159_0.out (by simp))
           have n3_ := Aside0.mk (KeepBut.trans (by repeat (first | (with_reducible first | exact HK.out | apply KeepBut.set_ | apply keep_drewN | apply keep_drew | apply keep_alloc | refine keep_far ?_ GW153.out _ | refine keep_far ?_ GW159.out _) | exact HK.out)) hk (.inl rfl))
           have n4_ := Aside0.mk (hb)
           have n5_ := Aside0.mk (hi)
           clear HO_160002
           clear BK153
           clear BK159
           clear HK
           clear HB
           clear HI0
           have HO_160002 := n0_
           have BK153 := n1_
           have BK159 := n2_
           have HK := n3_
           have HB := n4_
           have HI0 := n5_
           clear n0_ n1_ n2_ n3_ n4_ n5_
           (try clear hb)
           (try clear hb2)
           (try clear hk)
           (try clear hi)
           refine hK.out _ _ ⟨(blk_cell BK159.out 0).trans rfl, (blk_cell BK159.out 1).trans rfl, (blk_cell BK159.out 2).trans rfl, HS3_, HS4_, HS5_, HS6_, HS7_, HS8_⟩ (fun hHeld => ?_)
           clear hK K
           refine norm_ (a' := ?_) ?_ ?_
           rotate_left
           ·show Act.put _ (some 65) _ = _
            exact pP
           refine pure_ (i := 12) (N := some 66) (v := ?_) (a' := ?_) #[true, true, true, true, true, true, true, true, true, true, true, true, true, false, false, false, false, false] rfl rfl (any_of HT_.out pL) (fun _ _ _ h => h) (Or.inl ⟨by rfl, ?_⟩) ?_ ?_
           rotate_left
           ·intro w'
            go_simp
            with_reducible rfl
           rotate_left
           ·exact pP
           refine pure_ (i := 13) (N := some 67) (v := ?_) (a' := ?_) #[true, true, true, true, true, true, true, true, true, true, true, true, true, true, false, false, false, false] rfl rfl (any_of HT_.out pL) (fun _ _ _ h => h) (Or.inl ⟨by rfl, ?_⟩) ?_ ?_
           rotate_left
           ·intro w'
            go_simp
            with_reducible rfl
           rotate_left
           ·exact pP
           refine one_ (i := 14) (N := some 68) #[true, true, true, true, true, true, true, true, true, true, true, true, true, true, true, false, false, false] rfl rfl (one_of HT_.out pL) (by decide) (fun K hK => ?_)
           refine value_ (w1 := ?_) (v := ?_) (by rfl) rfl ?_ ?_
           rotate_left 2
           ·go_simp
            constructor
            ·rfl
            ·rfl
           refine hK.out _ _ ⟨(blk_cell (blk_alloc BK159.out _) 0).trans rfl, (blk_cell (blk_alloc BK159.out _) 1).trans rfl, (blk_cell (blk_alloc BK159.out _) 2).trans rfl, (World.cell?_alloc_lt _ _ _ (World.block_lt_of_cell? _ _ (hHeld.2.2.2.1))).trans (hHeld.2.2.2.1), (World.cell?_alloc_lt _ _ _ (World.block_lt_of_cell? _ _ (hHeld.2.2.2.2.1))).trans (hHeld.2.2.2.2.1), (World.cell?_alloc_lt _ _ _ (World.block_lt_of_cell? _ _ (hHeld.2.2.2.2.2.1))).trans (hHeld.2.2.2.2.2.1), (World.cell?_alloc_lt _ _ _ (World.block_lt_of_cell? _ _ (hHeld.2.2.2.2.2.2.1))).trans (hHeld.2.2.2.2.2.2.1), (World.cell?_alloc_lt _ _ _ (World.block_lt_of_cell? _ _ (hHeld.2.2.2.2.2.2.2.1))).trans (hHeld.2.2.2.2.2.2.2.1), (World.cell?_alloc_lt _ _ _ (World.block_lt_of_cell? _ _ (hHeld.2.2.2.2.2.2.2.2))).trans (hHeld.2.2.2.2.2.2.2.2)⟩ (fun hHeld => ?_)
           clear hK K
           refine norm_ (a' := ?_) ?_ ?_
           rotate_left
           ·show Act.put _ (some 68) _ = _
            exact pP
           refine last_ (i := 15) (N := some 69) #[true, true, true, true, true, true, true, true, true, true, true, true, true, true, true, true, false, false] rfl rfl (one_of HT_.out pL) (by decide) (fun K hK => ?_)
           refine Kd.R_append_step k55 w.heap.size (by rfl) (.tmp 55) (.tmp 68) 27 55 (.agg #[(.int .i64 0), (.int .i64 0), (.int .i64 0)]) 24 rfl Try.underlying27 info55 rfl (by decide) (by omega) u160002 x160002_1 (⟨(rd_T63 l3 t172).f0, 0, wrap64 (1 + t175)⟩ : S55) [.int .i64 ((rd_T63 l3 t172).f0), .int .i64 0, .int .i64 (wrap64 (1 + t175))] (fun _ => True) (fun _ => False) rfl rfl ?aP (fun _ hk => hk.elim) ?aF ?aO (Below.refl _ _) ?aS ?aL ?_
           (case aP => exact k55_mkM _ _ _ (⟨(rd_T63 l3 t172).f0, 0, wrap64 (1 + t175)⟩ : S55))
           (case aF => exact (fun _ _ => trivial))
           (case aO => exact (pR HO_160002))
           (case aS => exact (keep_size (w := w) (g := g) (row := none) (by repeat (first | (with_reducible first | exact HK.out | apply KeepBut.set_ | apply keep_drewN | apply keep_drew | apply keep_alloc | refine keep_far ?_ GW153.out _ | refine keep_far ?_ GW159.out _) | exact HK.out))))
           (case aL => have := LMc39.out; omega)
           intro v178 w43 ho hb hg hat
           rw [← Ny177.out] at ho
           have n0_ := Aside0.mk (blk_grown (g := gb153) (o := .cells #[.int .i64 0, .int .i64 0, .slice none 0 0] 29 (0, 0)) (pC BK153) hg (Kd.R_ne HO_160002.out BK153.out (by decide)))
           have n1_ := Aside0.mk (blk_grown (g := gb159) (o := .cells #[.int .i64 a1, .int .i64 (wrap64 (1 + t154)), u160002] 29 (0, 0)) (pC BK159) hg (Kd.R_ne HO_160002.out BK159.out (by decide)))
           have n2_ := Aside0.mk (IsS99.grown (by repeat (first | (with_reducible first | exact HI0.out | apply IsS99.alloc | apply IsS99.drewN | apply IsS99.drew | apply IsS99.set_1 | refine IsS99.far ?_ NB0_153.out _ | refine IsS99.far ?_ NB0_159.out _) | exact HI0.out)) hg (IsS99.own_ne HI0.out HO_160002.out (by decide)))
           have n3_ := Aside0.mk (below_weaken (by repeat (first | (with_reducible first | exact HB.out | apply below_alloc | apply pw_below_drewN | apply below_drew1 | refine below_set ?_ (IsS99.ge HI0.out) | refine below_set ?_ GE153.out | refine below_set ?_ GE159.out) | exact HB.out)) HL.out hb)
           have n4_ := Aside0.mk (KeepBut.trans (by repeat (first | (with_reducible first | exact HK.out | apply KeepBut.set_ | apply keep_drewN | apply keep_drew | apply keep_alloc | refine keep_far ?_ GW153.out _ | refine keep_far ?_ GW159.out _) | exact HK.out)) (KeepBut.of_grown hg g) (Kd.R_base2 HO_160002.out))
           have n5_ := Aside0.mk (ho)
           clear BK153
           clear BK159
           clear HI0
           clear HB
           clear HK
           clear HO_160002
           have BK153 := n0_
           have BK159 := n1_
           have HI0 := n2_
           have HB := n3_
           have HK := n4_
           have HO179 := n5_
           clear n0_ n1_ n2_ n3_ n4_ n5_
           clear ho hb hg hat
           obtain ⟨Ao44, co44, eo44⟩ := Kd.R_slice HO179.out
           (first | subst eo44 | (injection eo44 with f1_ f2_ f3_; have f4_ := f1_.symm; have f5_ := f3_.symm; clear f1_ f2_ f3_; subst f4_; subst f5_))
           refine hK.out _ _ ?_
           clear hK K
           refine norm_ (a' := ?_) ?_ ?_
           rotate_left
           ·show Act.put _ (some 69) _ = _
            exact pP
           refine pure_ (i := 16) (N := some 70) (v := ?_) (a' := ?_) #[true, true, true, true, true, true, true, true, true, true, true, true, true, true, true, true, true, false] rfl rfl (any_of HT_.out pL) (fun _ _ _ h => h) (Or.inl ⟨by rfl, ?_⟩) ?_ ?_
           rotate_left
           ·intro w'
            go_simp
            with_reducible rfl
           rotate_left
           ·exact pP
           refine last_ (i := 17) (N := none) #[true, true, true, true, true, true, true, true, true, true, true, true, true, true, true, true, true, true] rfl rfl (one_of HT_.out pL) (by decide) (fun K hK => ?_)
           have hs45 : w43.cell? ⟨gb159, 2, none⟩ = some (u160002) := (blk_cell BK159.out 2).trans rfl
           have hfs45 := blk_frozen BK159.out 2
           have hns45_0 := NB153_159.out
           have hms45_0 := NB159_153.out
           refine skip_ (w1 := ?_) (by rfl) rfl ?_ ?_
           rotate_left
           ·go_simp
            rfl
           refine hK.out _ _ ?_
           clear hK K
           refine done_ (done_of HT_.out pL) ?_
           try go_wp2
           go_roundg kj17
           case measure => have := HK1.out; have := HJ17.out; omega
           case rel => exact ⟨(wrap64 (x11_1 + 1)), (t176), (y177), (.slice Ao44 y177.length co44), pF, H', ⟨by have := HK1.out; have := HJ17.out; omega⟩, ⟨by (with_reducible repeat (first | apply Kd.R_alloc | apply Kd.R_drewN | apply Kd.R_drew)); exact Kd.R_mono (Kd.R_far (p := ⟨gb159, 2, none⟩) (Kd.R_types HO179.out BK159.out (by decide)) (fun _ hk => hk.2) (.slice Ao44 y177.length co44)) (fun _ hk => trivial)⟩, ⟨by (with_reducible repeat (first | refine blk_drewN ?_ _ | refine blk_drew ?_ | refine blk_alloc ?_ _)); refine blk_far ?_ NB153_159.out _; (with_reducible repeat (first | refine blk_drewN ?_ _ | refine blk_drew ?_ | refine blk_alloc ?_ _)); exact BK153.out⟩, ⟨by (with_reducible repeat (first | refine blk_drewN ?_ _ | refine blk_drew ?_ | refine blk_alloc ?_ _)); refine blk_put (cs := #[.int .i64 a1, .int .i64 (wrap64 (1 + t154)), u160002]) ?_ 2 _ rfl; (with_reducible repeat (first | refine blk_drewN ?_ _ | refine blk_drew ?_ | refine blk_alloc ?_ _)); exact BK159.out⟩, ⟨by repeat (first | (with_reducible first | exact HI0.out | apply IsS99.alloc | apply IsS99.drewN | apply IsS99.drew | apply IsS99.set_1 | refine IsS99.far ?_ NB0_153.out _ | refine IsS99.far ?_ NB0_159.out _) | exact HI0.out)⟩, ⟨by repeat (first | (with_reducible first | exact HK.out | apply KeepBut.set_ | apply keep_drewN | apply keep_drew | apply keep_alloc | refine keep_far ?_ GW153.out _ | refine keep_far ?_ GW159.out _) | exact HK.out)⟩, ⟨by repeat (first | (with_reducible first | exact HB.out | apply below_alloc | apply pw_below_drewN | apply below_drew1 | refine below_set ?_ (IsS99.ge HI0.out) | refine below_set ?_ GE153.out | refine below_set ?_ GE159.out) | exact HB.out)⟩⟩
          ·rw [if_neg c39] at H
           exact absurd H (by simp)
         ·rw [if_neg c37] at H
          exact absurd H (by simp)
        ·rw [if_neg c36] at H
         exact absurd H (by simp)
       ·rw [if_neg c34] at H
        have c34b0 : decide (0 < (l3.length : Int)) = false := decide_eq_false c34
        have c34b1 : decide (0 < l3.length) = false := decide_eq_false (by omega)
        clear c34
        have H' := Aside0.mk H
        clear H
        go_wp2
        go_roundg kj17
        case measure => have := HK1.out; have := HJ17.out; omega
        case rel => exact ⟨(wrap64 (x11_1 + 1)), (x1001_17), (x160002_1), (u160002), pF, H', ⟨by have := HK1.out; have := HJ17.out; omega⟩, ⟨pR HO_160002⟩, ⟨pC BK153⟩, ⟨pC BK159⟩, ⟨by repeat (first | (with_reducible first | exact HI0.out | apply IsS99.alloc | apply IsS99.drewN | apply IsS99.drew | apply IsS99.set_1 | refine IsS99.far ?_ NB0_153.out _ | refine IsS99.far ?_ NB0_159.out _) | exact HI0.out)⟩, ⟨by repeat (first | (with_reducible first | exact HK.out | apply KeepBut.set_ | apply keep_drewN | apply keep_drew | apply keep_alloc | refine keep_far ?_ GW153.out _ | refine keep_far ?_ GW159.out _) | exact HK.out)⟩, ⟨by repeat (first | (with_reducible first | exact HB.out | apply below_alloc | apply pw_below_drewN | apply below_drew1 | refine below_set ?_ (IsS99.ge HI0.out) | refine below_set ?_ GE153.out | refine below_set ?_ GE159.out) | exact HB.out)⟩⟩
   ·rw [if_neg c17] at H
    have c17b0 : decide (x11_1 < (wrap64 (1 + t160))) = false := decide_eq_false c17
    clear c17
    simp only [Option.some.injEq, Prod.mk.injEq] at H
    obtain ⟨rfl, rfl, rfl, rfl⟩ := H
    have hnb46 := NB159_153.out
    have hnc46 := NB153_159.out
    have hnb47 := NB159_0.out
    have hnc47 := NB0_159.out
    have hcz48_0 : wr.cell? ⟨gb159, 0, none⟩ = some (.int .i64 a1) := (blk_cell BK159.out 0).trans rfl
    have hcz48_1 : wr.cell? ⟨gb159, 1, none⟩ = some (.int .i64 (wrap64 (1 + t154))) := (blk_cell BK159.out 1).trans rfl
    have hcz48_2 : wr.cell? ⟨gb159, 2, none⟩ = some (u160002) := (blk_cell BK159.out 2).trans rfl
    have hfz48_0 := blk_frozen BK159.out 0
    have hfz48_1 := blk_frozen BK159.out 1
    have hfz48_2 := blk_frozen BK159.out 2
    have hnb49 := NB153_0.out
    have hnc49 := NB0_153.out
    have hcz50_0 : wr.cell? ⟨gb153, 0, none⟩ = some (.int .i64 0) := (blk_cell BK153.out 0).trans rfl
    have hcz50_1 : wr.cell? ⟨gb153, 1, none⟩ = some (.int .i64 0) := (blk_cell BK153.out 1).trans rfl
    have hcz50_2 : wr.cell? ⟨gb153, 2, none⟩ = some (.slice none 0 0) := (blk_cell BK153.out 2).trans rfl
    have hfz50_0 := blk_frozen BK153.out 0
    have hfz50_1 := blk_frozen BK153.out 1
    have hfz50_2 := blk_frozen BK153.out 2
    obtain ⟨Ao51, co51, eo51⟩ := Kd.R_slice HO_160002.out
    subst eo51
    go_wp2
    refine bodyPost_ret (results_cell_row rfl _ _ gb153 29 #[.int .i64 a1, .int .i64 (wrap64 (1 + t154)), .slice Ao51 x160002_1.length co51] (0, 0) _ rfl (by (with_reducible repeat (first | refine blk_drewN ?_ _ | refine blk_drew ?_ | refine blk_alloc ?_ _)); refine blk_put (cs := #[.int .i64 a1, .int .i64 (wrap64 (1 + t154)), .slice none 0 0]) ?_ 2 _ rfl; (with_reducible repeat (first | refine blk_drewN ?_ _ | refine blk_drew ?_ | refine blk_alloc ?_ _)); refine blk_put (cs := #[.int .i64 a1, .int .i64 0, .slice none 0 0]) ?_ 1 _ rfl; (with_reducible repeat (first | refine blk_drewN ?_ _ | refine blk_drew ?_ | refine blk_alloc ?_ _)); refine blk_put (cs := #[.int .i64 0, .int .i64 0, .slice none 0 0]) ?_ 0 _ rfl; (with_reducible repeat (first | refine blk_drewN ?_ _ | refine blk_drew ?_ | refine blk_alloc ?_ _)); exact BK153.out) Try.underlying29 rfl pL) rfl ?_
    exact ⟨_, pE, by (with_reducible repeat (first | apply Kd.R_alloc | apply Kd.R_drewN | apply Kd.R_drew)); exact Kd.R_mono (Kd.R_far (p := ⟨gb153, 2, none⟩) (Kd.R_far (p := ⟨gb153, 1, none⟩) (Kd.R_far (p := ⟨gb153, 0, none⟩) (Kd.R_types HO_160002.out BK153.out (by decide)) (fun _ hk => hk.2) (.int .i64 a1)) (fun _ hk => hk.2) (.int .i64 (wrap64 (1 + t154)))) (fun _ hk => hk.2) (.slice Ao51 x160002_1.length co51)) (fun _ hk => trivial), by repeat (first | (with_reducible first | exact HI0.out | apply IsS99.alloc | apply IsS99.drewN | apply IsS99.drew | apply IsS99.set_1 | refine IsS99.far ?_ NB0_153.out _ | refine IsS99.far ?_ NB0_159.out _) | exact HI0.out), by repeat (first | (with_reducible first | exact HB.out | apply below_alloc | apply pw_below_drewN | apply below_drew1 | refine below_set ?_ (IsS99.ge HI0.out) | refine below_set ?_ GE153.out | refine below_set ?_ GE159.out) | exact HB.out), by repeat (first | (with_reducible first | exact HK.out | apply KeepBut.set_ | apply keep_drewN | apply keep_drew | apply keep_alloc | refine keep_far ?_ GW153.out _ | refine keep_far ?_ GW159.out _) | exact HK.out)⟩

end Go.Proofs.Ytclldijjbmnkeaa.Q
