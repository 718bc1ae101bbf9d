-- Written by the kit's print.py for all laws of the seat at once (one namespace), by a program of this session.
import Derived.Test.YtclldijjbmnkeaaQx0
import Derived.Test.YtclldijjbmnkeaaQx1
import Derived.Test.YtclldijjbmnkeaaQx2
import Derived.Test.YtclldijjbmnkeaaQx5
import Derived.Test.YtclldijjbmnkeaaQx6
namespace Go.Proofs.Ytclldijjbmnkeaa.Q
open Go.RowKit Go.Proofs.YtclldijjbmnkeaaW.PrintWords Go.Proofs.YtclldijjbmnkeaaW.PrintLast Go.Proofs.YtclldijjbmnkeaaW.PrintMore
attribute [local go_sem] max2_int min2_int max_two min_two max_three min_three max_four min_four   -- for this text's walks alone
set_option linter.unusedVariables false
set_option linter.unusedSimpArgs false

/-! ### spec_DrawDishesFind: function 19 -/
def spec_DrawDishesFind.f (k : Nat) (l0 : List Int) : Option ((List (S29)) × Int) := (spec_l6Open.f l0).bind fun bt221 => ((spec_l91Menu.f k bt221.1 bt221.2).bind fun bt224 => ((spec_l6Rd_pick.f k bt221.1 bt224.2.2 9).bind fun bt231 => (some (bt224.1, bt231.1))))
theorem spec_DrawDishesFind.mono : ∀ a0 k, LeO (spec_DrawDishesFind.f k a0) (spec_DrawDishesFind.f (k + 1) a0) := by
 intro a0 k
 unfold spec_DrawDishesFind.f
 repeat' first
   | (with_reducible exact spec_l6Rd_pick.mono _ _ _ _)
   | (with_reducible exact spec_l91Menu.mono _ _ _)
   | (with_reducible exact LeO.refl _)
   | (with_reducible exact LeO.none _)
   | (with_reducible refine LeO.ite ?_ ?_)
   | (with_reducible refine LeO.bind ?_ (fun _ => ?_))
   | exact spec_l6Rd_pick.mono _ _ _ _
   | exact spec_l91Menu.mono _ _ _
   | exact LeO.none _
   | refine LeO.ite ?_ ?_
   | refine LeO.bind ?_ (fun _ => ?_)
set_option maxHeartbeats 8000000 in
set_option maxRecDepth 100000 in
theorem spec_DrawDishesFind.calls (k : Nat) (A0 : Option Addr) (c0 : Nat) (l0 : List Int) (r1 : List (S29)) (r2 : Int) (w : World) (hr0 : Kd.C (Kd.int .u8) w A0 l0.length l0) (hc0 : l0.length ≤ c0) (h : spec_DrawDishesFind.f k l0 = some (r1, r2)) :
  Calls Try.prog 19 #[.slice A0 l0.length c0] w fun e w' => ∃ v0_ : Value, e = .returned (.tuple #[v0_, .int .i64 r2]) ∧ Kd.N k29 29 w' w.heap.size (fun k_ => (w.heap.size ≤ k_)) v0_ r1 ∧ Below w.heap.size w w' := by
 have HR0 := Aside0.mk hr0
 have HC0 := Aside0.mk hc0
 clear hr0 hc0
 have HB := Aside0.mk (Below.refl w.heap.size w)
 have H : ((spec_l6Open.f l0).bind fun bt221 => ((spec_l91Menu.f k bt221.1 bt221.2).bind fun bt224 => ((spec_l6Rd_pick.f k bt221.1 bt224.2.2 9).bind fun bt231 => (some (bt224.1, bt231.1))))) = some (r1, r2) := h
 clear h
 replace H := Option.bind_eq_some_iff.mp H
 obtain ⟨⟨t221, t222⟩, A20, H⟩ := H
 replace H : ((spec_l91Menu.f k t221 t222).bind fun bt224 => ((spec_l6Rd_pick.f k t221 bt224.2.2 9).bind fun bt231 => (some (bt224.1, bt231.1)))) = some (r1, r2) := H
 have A2 := Aside0.mk A20
 clear A20
 replace H := Option.bind_eq_some_iff.mp H
 obtain ⟨⟨t224, t227, t230⟩, A30, H⟩ := H
 replace H : ((spec_l6Rd_pick.f k t221 t230 9).bind fun bt231 => (some (t224, bt231.1))) = some (r1, r2) := H
 have A3 := Aside0.mk A30
 clear A30
 replace H := Option.bind_eq_some_iff.mp H
 obtain ⟨⟨t231, t232⟩, A40, H⟩ := H
 replace H : (some (t224, t231)) = some (r1, r2) := H
 have A4 := Aside0.mk A40
 clear A40
 simp only [Option.some.injEq, Prod.mk.injEq] at H
 obtain ⟨rfl, rfl⟩ := H
 go_enter Try.func19, Try.ntmps19
 go_wp2_with (first | ((with_reducible refine gate_callee (f := 53) rfl ?_); refine goesL_ (some 8) rfl rfl Try.func53 pL rfl #[.slice A0 l0.length c0] rfl pM ?_; (with_reducible refine (spec_l6Open.calls _ _ l0 t221 t222 w _ ?side1 ?side2 ?side3 A2.out).mono ?_); (case side1 => exact pB); (case side2 => exact HR0.out); (case side3 => exact HC0.out); rintro e w5 ⟨g223, rfl, hi, hb, hb2⟩; refine ⟨_, rfl, ?_⟩; have n0_ := Aside0.mk (hb); have n1_ := Aside0.mk (hi); clear HB; have HB := n0_; have HI223 := n1_; clear n0_ n1_; (try clear hb); (try clear hb2); (try clear hk); (try clear hi)) | ((with_reducible refine gate_callee (f := 54) rfl ?_); refine goesL_ (some 11) rfl rfl Try.func54 pL rfl #[.pointer (some ⟨g223, 0, none⟩)] rfl pM ?_; (with_reducible refine (spec_l91Menu.calls k g223 t221 t222 t224 t227 t230 w _ ?side1 ?side2 A3.out).mono ?_); (case side1 => repeat (first | (with_reducible first | exact HI223.out | apply IsS99.alloc | apply IsS99.drewN | apply IsS99.drew | apply IsS99.set_1) | exact HI223.out)); (case side2 => repeat (first | (with_reducible first | exact HB.out | apply below_alloc | apply pw_below_drewN | apply below_drew1 | refine below_set ?_ (IsS99.ge HI223.out)) | exact HB.out)); rintro e w6 ⟨v225, v228, rfl, ho0, ho1, hi, hb, hk⟩; refine ⟨_, rfl, ?_⟩; have n0_ := Aside0.mk (Kd.N_lower (Kd.N_mono (ok' := fun k_ => (w.heap.size ≤ k_) ∧ some k_ ≠ (v228 : Value).ownBlock ∧ k_ ≠ g223) ho0 (fun k_ hk_ => ⟨(Nat.le_trans (below_size (by repeat (first | (with_reducible first | exact HB.out | apply below_alloc | apply pw_below_drewN | apply below_drew1 | refine below_set ?_ (IsS99.ge HI223.out)) | exact HB.out))) hk_.1), hk_.2, (IsS99.fresh (by repeat (first | (with_reducible first | exact HI223.out | apply IsS99.alloc | apply IsS99.drewN | apply IsS99.drew | apply IsS99.set_1) | exact HI223.out)) k_ hk_.1)⟩)) (below_size (by repeat (first | (with_reducible first | exact HB.out | apply below_alloc | apply pw_below_drewN | apply below_drew1 | refine below_set ?_ (IsS99.ge HI223.out)) | exact HB.out)))); have n1_ := Aside0.mk (Kd.R_lower (Kd.R_newM (M := fun k_ => (w.heap.size ≤ k_)) (Kd.R_mono (ok' := fun k_ => True) ho1 (fun _ hk_ => trivial)) (below_size (by repeat (first | (with_reducible first | exact HB.out | apply below_alloc | apply pw_below_drewN | apply below_drew1 | refine below_set ?_ (IsS99.ge HI223.out)) | exact HB.out))) (fun k_ h_ => h_)) (below_size (by repeat (first | (with_reducible first | exact HB.out | apply below_alloc | apply pw_below_drewN | apply below_drew1 | refine below_set ?_ (IsS99.ge HI223.out)) | exact HB.out)))); have n2_ := Aside0.mk (hb); have n3_ := Aside0.mk (hi); clear HB; clear HI223; have HO226 := n0_; have HO229 := n1_; have HB := n2_; have HI223 := n3_; clear n0_ n1_ n2_ n3_; (try clear hb); (try clear hb2); (try clear hk); (try clear hi); (try clear ho0); (try clear ho1)) | ((with_reducible refine gate_callee (f := 55) rfl ?_); refine goesL_ (some 16) rfl rfl Try.func55 pL rfl #[.pointer (some ⟨g223, 0, none⟩), .int .i64 9] rfl pM ?_; (with_reducible refine (spec_l6Rd_pick.calls k g223 t221 t230 9 t231 t232 w _ ?side1 ?side2 A4.out).mono ?_); (case side1 => repeat (first | (with_reducible first | exact HI223.out | apply IsS99.alloc | apply IsS99.drewN | apply IsS99.drew | apply IsS99.set_1) | exact HI223.out)); (case side2 => repeat (first | (with_reducible first | exact HB.out | apply below_alloc | apply pw_below_drewN | apply below_drew1 | refine below_set ?_ (IsS99.ge HI223.out)) | exact HB.out)); rintro e w7 ⟨rfl, hi, hb, hk⟩; refine ⟨_, rfl, ?_⟩; have n0_ := Aside0.mk (Kd.N_mono (Kd.N_keep (Kd.N_mono (ok := fun k_ => (((w.heap.size ≤ k_)) ∧ (some k_ ≠ (v228 : Value).ownBlock ∧ k_ ≠ g223))) (by (with_reducible repeat (first | apply Kd.N_alloc | apply Kd.N_drewN | apply Kd.N_drew)); exact HO226.out) (fun k_ hk_ => (⟨hk_, hk_.2.2⟩ : _ ∧ k_ ≠ g223))) hk (fun _ h => h.2)) (fun _ h => h.1)); have n1_ := Aside0.mk (Kd.R_mono (Kd.R_keep (IsS99.apart (show IsS99 w _ g223 t221 t230 from by repeat (first | (with_reducible first | exact HI223.out | apply IsS99.alloc | apply IsS99.drewN | apply IsS99.drew | apply IsS99.set_1) | exact HI223.out)) (pR HO229) (by decide)) hk (fun _ h => h.2)) (fun _ h => h.1)); have n2_ := Aside0.mk (hb); have n3_ := Aside0.mk (hi); clear HO226; clear HO229; clear HB; clear HI223; have HO226 := n0_; have HO229 := n1_; have HB := n2_; have HI223 := n3_; clear n0_ n1_ n2_ n3_; (try clear hb); (try clear hb2); (try clear hk); (try clear hi)))
 go_ret2
 exact ⟨_, pE, by (with_reducible repeat (first | apply Kd.N_alloc | apply Kd.N_drewN | apply Kd.N_drew)); exact Kd.N_mono HO226.out (fun _ hk => hk.1), by repeat (first | (with_reducible first | exact HB.out | apply below_alloc | apply pw_below_drewN | apply below_drew1 | refine below_set ?_ (IsS99.ge HI223.out)) | exact HB.out)⟩

/-! ### laws_FnDishesFind: function 3 -/
def laws_FnDishesFind.l0 : Nat → List (S29) → Int → Int → Int → Option (Bool)
 | 0, _, _, _, _ => none
 | k + 1, x3, x4, x5, x7 => if x7 < (x3.length : Int) then (if 0 ≤ x7 then (if ((rd_T29 x3 x7).f0) = x4 then (some (x5 == x7)) else (laws_FnDishesFind.l0 k x3 x4 x5 (wrap64 (x7 + 1)))) else (none)) else (some (x5 == (-1)))
def laws_FnDishesFind.f (k : Nat) (l0 : List Int) : Option (Bool) := if (l0.length : Int) > 1048576 then (some true) else ((spec_DrawDishesFind.f k l0).bind fun bt235 => ((impl_DishesFind.f bt235.1 bt235.2).bind fun t239 => ((spec_DishesFind.f k bt235.1 bt235.2).bind fun t240 => (if t239 = t240 then (laws_FnDishesFind.l0 k bt235.1 bt235.2 t239 0) else (some (t239 == t240))))))
theorem laws_FnDishesFind.mono_l : ∀ k, (∀ y0 y1 y2 y3, LeO (laws_FnDishesFind.l0 k y0 y1 y2 y3) (laws_FnDishesFind.l0 (k + 1) y0 y1 y2 y3))
 | 0 => fun _ _ _ _ r h => by simp [laws_FnDishesFind.l0] at h
 | k + 1 => by
  have ih0 := laws_FnDishesFind.mono_l k
  ·intro y0 y1 y2 y3
   unfold laws_FnDishesFind.l0
   repeat' first
   | (with_reducible exact ih0 _ _ _ _)
   | (with_reducible exact spec_DishesFind.mono _ _ _)
   | (with_reducible exact spec_DrawDishesFind.mono _ _)
   | (with_reducible exact LeO.refl _)
   | (with_reducible exact LeO.none _)
   | (with_reducible refine LeO.ite ?_ ?_)
   | (with_reducible refine LeO.bind ?_ (fun _ => ?_))
   | exact ih0 _ _ _ _
   | exact spec_DishesFind.mono _ _ _
   | exact spec_DrawDishesFind.mono _ _
   | exact LeO.none _
   | refine LeO.ite ?_ ?_
   | refine LeO.bind ?_ (fun _ => ?_)
theorem laws_FnDishesFind.mono : ∀ a0 k, LeO (laws_FnDishesFind.f k a0) (laws_FnDishesFind.f (k + 1) a0) := by
 intro a0 k
 have ih0 := laws_FnDishesFind.mono_l k
 unfold laws_FnDishesFind.f
 repeat' first
   | (with_reducible exact ih0 _ _ _ _)
   | (with_reducible exact spec_DishesFind.mono _ _ _)
   | (with_reducible exact spec_DrawDishesFind.mono _ _)
   | (with_reducible exact LeO.refl _)
   | (with_reducible exact LeO.none _)
   | (with_reducible refine LeO.ite ?_ ?_)
   | (with_reducible refine LeO.bind ?_ (fun _ => ?_))
   | exact ih0 _ _ _ _
   | exact spec_DishesFind.mono _ _ _
   | exact spec_DrawDishesFind.mono _ _
   | exact LeO.none _
   | refine LeO.ite ?_ ?_
   | refine LeO.bind ?_ (fun _ => ?_)
set_option maxHeartbeats 8000000 in
set_option maxRecDepth 100000 in
theorem laws_FnDishesFind.calls (k : Nat) (A0 : Option Addr) (c0 : Nat) (l0 : List Int) (r : Bool) (w : World) (hr0 : Kd.C (Kd.int .u8) w A0 l0.length l0) (hc0 : l0.length ≤ c0) (h : laws_FnDishesFind.f k l0 = some r) :
  Calls Try.prog 3 #[.slice A0 l0.length c0] w fun e w' => e = .returned (.bool r) ∧ Below w.heap.size w w' := by
 have HR0 := Aside0.mk hr0
 have HC0 := Aside0.mk hc0
 clear hr0 hc0
 have HB := Aside0.mk (Below.refl w.heap.size w)
 have H : (if (l0.length : Int) > 1048576 then (some true) else ((spec_DrawDishesFind.f k l0).bind fun bt235 => ((impl_DishesFind.f bt235.1 bt235.2).bind fun t239 => ((spec_DishesFind.f k bt235.1 bt235.2).bind fun t240 => (if t239 = t240 then (laws_FnDishesFind.l0 k bt235.1 bt235.2 t239 0) else (some (t239 == t240))))))) = some r := h
 clear h
 by_cases c2 : (l0.length : Int) > 1048576
 ·rw [if_pos c2] at H
  have c2b0 : decide (1048576 < (l0.length : Int)) = true := decide_eq_true c2
  have c2b1 : decide (1048576 < l0.length) = true := decide_eq_true (by omega)
  clear c2
  obtain rfl := Option.some.inj H
  go_enter Try.func3, Try.ntmps3
  go_wp2
  go_ret
  exact ⟨pE, pB⟩
 rw [if_neg c2] at H
 have c2b0 : decide (1048576 < (l0.length : Int)) = false := decide_eq_false c2
 have c2b1 : decide (1048576 < l0.length) = false := decide_eq_false (by omega)
 clear c2
 replace H := Option.bind_eq_some_iff.mp H
 obtain ⟨⟨t235, t238⟩, A30, H⟩ := H
 replace H : ((impl_DishesFind.f t235 t238).bind fun t239 => ((spec_DishesFind.f k t235 t238).bind fun t240 => (if t239 = t240 then (laws_FnDishesFind.l0 k t235 t238 t239 0) else (some (t239 == t240))))) = some r := H
 have A3 := Aside0.mk A30
 clear A30
 replace H := Option.bind_eq_some_iff.mp H
 obtain ⟨t239, A40, H⟩ := H
 replace H : ((spec_DishesFind.f k t235 t238).bind fun t240 => (if t239 = t240 then (laws_FnDishesFind.l0 k t235 t238 t239 0) else (some (t239 == t240)))) = some r := H
 have A4 := Aside0.mk A40
 clear A40
 replace H := Option.bind_eq_some_iff.mp H
 obtain ⟨t240, A50, H⟩ := H
 replace H : (if t239 = t240 then (laws_FnDishesFind.l0 k t235 t238 t239 0) else (some (t239 == t240))) = some r := H
 have A5 := Aside0.mk A50
 clear A50
 rcases (Classical.em (t239 = t240)).symm with c6 | c6
 ·rw [if_neg c6] at H
  have c6b0 : (t239 == t240) = false := beq_eq_false_iff_ne.mpr c6
  have c6b1 : (t239 != t240) = true := bne_iff_ne.mpr c6
  obtain rfl := Option.some.inj H
  go_enter Try.func3, Try.ntmps3
  go_wp2_with (first | ((with_reducible refine gate_callee (f := 19) rfl ?_); refine goesL_ (some 13) rfl rfl Try.func19 pL rfl #[.slice A0 l0.length c0] rfl pM ?_; (with_reducible refine (spec_DrawDishesFind.calls k _ _ l0 t235 t238 _ ?side1 ?side2 A3.out).mono ?_); (case side1 => exact pS (HR0.out)); (case side2 => exact HC0.out); rintro e w13 ⟨v236, rfl, ho0, hb⟩; refine ⟨_, rfl, ?_⟩; have n0_ := Aside0.mk (Kd.N_lower (Kd.N_mono (ok' := fun k_ => True) ho0 (fun k_ hk_ => trivial)) (below_size pB)); have n1_ := Aside0.mk (below_step pB hb); clear HB; have HO237 := n0_; have HB := n1_; clear n0_ n1_; (try clear hb); (try clear hb2); (try clear hk); (try clear hi); (try clear ho0); obtain ⟨Ao14, co14, eo14⟩ := Kd.N_slice HO237.out; subst eo14) | ((with_reducible refine gate_callee (f := 20) rfl ?_); refine goesL_ (some 18) rfl rfl Try.func20 pL rfl #[.slice Ao14 t235.length co14, .int .i64 t238] rfl pM ?_; (with_reducible refine (impl_DishesFind.calls _ _ t235 t238 t239 _ ?side1 ?side2 A4.out).mono ?_); (case side1 => exact pS ((Kd.N_reads' HO237.out).2.2)); (case side2 => exact (Kd.N_reads' HO237.out).2.1); rintro e w15 ⟨rfl, hb⟩; refine ⟨_, rfl, ?_⟩; have n0_ := Aside0.mk (Kd.N_below (by (with_reducible repeat (first | apply Kd.N_alloc | apply Kd.N_drewN | apply Kd.N_drew)); exact HO237.out) hb); have n1_ := Aside0.mk (below_step pB hb); clear HO237; clear HB; have HO237 := n0_; have HB := n1_; clear n0_ n1_; (try clear hb); (try clear hb2); (try clear hk); (try clear hi)) | ((with_reducible refine gate_callee (f := 21) rfl ?_); refine goesL_ (some 21) rfl rfl Try.func21 pL rfl #[.slice Ao14 t235.length co14, .int .i64 t238] rfl pM ?_; (with_reducible refine (spec_DishesFind.calls k _ _ t235 t238 t240 _ ?side1 ?side2 A5.out).mono ?_); (case side1 => exact pS ((Kd.N_reads' HO237.out).2.2)); (case side2 => exact (Kd.N_reads' HO237.out).2.1); rintro e w' ⟨rfl, ⟨nd, rfl⟩⟩; refine ⟨_, rfl, ?_⟩))
  go_ret
  exact ⟨pE, pB⟩

 rw [if_pos c6] at H
 have c6b0 : (t239 == t240) = true := beq_iff_eq.mpr c6
 have c6b1 : (t239 != t240) = false := bne_eq_false_iff_eq.mpr c6
 clear c6
 have H' := Aside0.mk H
 clear H
 go_enter Try.func3, Try.ntmps3
 go_wp2_with (first | ((with_reducible refine gate_callee (f := 19) rfl ?_); refine goesL_ (some 13) rfl rfl Try.func19 pL rfl #[.slice A0 l0.length c0] rfl pM ?_; (with_reducible refine (spec_DrawDishesFind.calls k _ _ l0 t235 t238 _ ?side1 ?side2 A3.out).mono ?_); (case side1 => exact pS (HR0.out)); (case side2 => exact HC0.out); rintro e w7 ⟨v236, rfl, ho0, hb⟩; refine ⟨_, rfl, ?_⟩; have n0_ := Aside0.mk (Kd.N_lower (Kd.N_mono (ok' := fun k_ => True) ho0 (fun k_ hk_ => trivial)) (below_size pB)); have n1_ := Aside0.mk (below_step pB hb); clear HB; have HO237 := n0_; have HB := n1_; clear n0_ n1_; (try clear hb); (try clear hb2); (try clear hk); (try clear hi); (try clear ho0); obtain ⟨Ao8, co8, eo8⟩ := Kd.N_slice HO237.out; subst eo8) | ((with_reducible refine gate_callee (f := 20) rfl ?_); refine goesL_ (some 18) rfl rfl Try.func20 pL rfl #[.slice Ao8 t235.length co8, .int .i64 t238] rfl pM ?_; (with_reducible refine (impl_DishesFind.calls _ _ t235 t238 t239 _ ?side1 ?side2 A4.out).mono ?_); (case side1 => exact pS ((Kd.N_reads' HO237.out).2.2)); (case side2 => exact (Kd.N_reads' HO237.out).2.1); rintro e w9 ⟨rfl, hb⟩; refine ⟨_, rfl, ?_⟩; have n0_ := Aside0.mk (Kd.N_below (by (with_reducible repeat (first | apply Kd.N_alloc | apply Kd.N_drewN | apply Kd.N_drew)); exact HO237.out) hb); have n1_ := Aside0.mk (below_step pB hb); clear HO237; clear HB; have HO237 := n0_; have HB := n1_; clear n0_ n1_; (try clear hb); (try clear hb2); (try clear hk); (try clear hi)) | ((with_reducible refine gate_callee (f := 21) rfl ?_); refine goesL_ (some 21) rfl rfl Try.func21 pL rfl #[.slice Ao8 t235.length co8, .int .i64 t238] rfl pM ?_; (with_reducible refine (spec_DishesFind.calls k _ _ t235 t238 t240 _ ?side1 ?side2 A5.out).mono ?_); (case side1 => exact pS ((Kd.N_reads' HO237.out).2.2)); (case side2 => exact (Kd.N_reads' HO237.out).2.1); rintro e w' ⟨rfl, ⟨nd, rfl⟩⟩; refine ⟨_, rfl, ?_⟩))
 go_loopg [7] k (fun kq v7 w' => ∃ (x7_1 : Int), v7 = .int .i64 x7_1 ∧ Aside0 (laws_FnDishesFind.l0 kq t235 t238 t239 x7_1 = some r) ∧ Aside0 (kq ≤ k) ∧ Aside0 (Kd.N k29 29 w' w.heap.size (fun _ => True) (.slice Ao8 t235.length co8) t235) ∧ Aside0 (Below w.heap.size w w'))
 case atStart => exact ⟨(0), pF, H', ⟨Nat.le_refl _⟩, ⟨by (with_reducible repeat (first | apply Kd.N_alloc | apply Kd.N_drewN | apply Kd.N_drew)); exact HO237.out⟩, ⟨pB⟩⟩
 case round =>
  clear H'
  try clear c1
  try clear c2
  try clear c2b0
  try clear c2b1
  try clear p2
  try clear c3
  try clear c6
  try clear c6b0
  try clear c6b1
  obtain ⟨x7_1, rfl, HA, HK1, HO_3, HB⟩ := hrel
  cases gk with
  | zero => exact absurd HA.out (by simp [laws_FnDishesFind.l0])
  | succ k1 =>
   have H := HA.out
   clear HA
   simp only [laws_FnDishesFind.l0] at H
   rcases (Classical.em (x7_1 < (t235.length : Int))).symm with c10 | c10
   ·rw [if_neg c10] at H
    have c10b0 : decide (x7_1 < (t235.length : Int)) = false := decide_eq_false c10
    clear c10
    obtain rfl := Option.some.inj H
    go_wp2
    go_ret
    exact ⟨pE, pB⟩
   rw [if_pos c10] at H
   have c10b0 : decide (x7_1 < (t235.length : Int)) = true := decide_eq_true c10
   clear c10
   rcases (Classical.em (0 ≤ x7_1)).symm with c11 | c11
   ·rw [if_neg c11] at H
    exact absurd H (by simp)
   rw [if_pos c11] at H
   have c11b0 : decide (0 ≤ x7_1) = true := decide_eq_true c11
   clear c11
   by_cases c12 : ((rd_T29 t235 x7_1).f0) = t238
   ·rw [if_pos c12] at H
    have c12b0 : (((rd_T29 t235 x7_1).f0) == t238) = true := beq_iff_eq.mpr c12
    have c12b1 : (((rd_T29 t235 x7_1).f0) != t238) = false := bne_eq_false_iff_eq.mpr c12
    clear c12
    obtain rfl := Option.some.inj H
    have p241 : 0 ≤ (x7_1 : Int) := of_decide_eq_true pA
    have q241 : x7_1 < (t235.length : Int) := of_decide_eq_true pA
    obtain ⟨ad241, A241_2, c241_2, e241, hx241_0, hx241_1, hx241_2, hl241_2, hi241_2⟩ := at_T29 (Kd.N_reads' HO_3.out).2.2 x7_1 p241 q241
    cases e241
    obtain ⟨ce241, hce241, hMe241, hcc241⟩ := Kd.N_get HO_3.out z29 x7_1 p241 (by first | exact q241 | exact of_decide_eq_true pA | (have e_ := (Kd.N_reads' HO_3.out).1; omega))
    obtain ⟨ua241_2, uc241_2, rfl, ul241_2, ge241_2⟩ := k29_openF hMe241
    have hv241_2 := hcc241 2 _ rfl
    rw [add_field _ _ 2 (by omega)] at hv241_2
    replace hv241_2 := Option.some.inj (hv241_2.symm.trans hx241_2)
    injection hv241_2 with hva_ hvn_ hvc_
    rw [hva_] at ge241_2
    rw [hvc_] at ul241_2
    have HL241_2 := Aside0.mk (show Kd.V k55 55 _ w.heap.size _ _ ((rd_T29 t235 x7_1).f2) from Kd.V_mk ul241_2 ge241_2)
    clear hva_ hvn_ hvc_ ge241_2 ul241_2
    clear hcc241 hce241
    have HR241_2 := Aside0.mk (hi241_2)
    have HC241_2 := Aside0.mk hl241_2
    clear hi241_2 hl241_2
    replace p241 := eq_true p241
    replace q241 := eq_true q241
    go_wp2
    go_ret
    exact ⟨pE, pB⟩
   rw [if_neg c12] at H
   have c12b0 : (((rd_T29 t235 x7_1).f0) == t238) = false := beq_eq_false_iff_ne.mpr c12
   have c12b1 : (((rd_T29 t235 x7_1).f0) != t238) = true := bne_iff_ne.mpr c12
   have H' := Aside0.mk H
   clear H
   have p241 : 0 ≤ (x7_1 : Int) := of_decide_eq_true pA
   have q241 : x7_1 < (t235.length : Int) := of_decide_eq_true pA
   obtain ⟨ad241, A241_2, c241_2, e241, hx241_0, hx241_1, hx241_2, hl241_2, hi241_2⟩ := at_T29 (Kd.N_reads' HO_3.out).2.2 x7_1 p241 q241
   cases e241
   obtain ⟨ce241, hce241, hMe241, hcc241⟩ := Kd.N_get HO_3.out z29 x7_1 p241 (by first | exact q241 | exact of_decide_eq_true pA | (have e_ := (Kd.N_reads' HO_3.out).1; omega))
   obtain ⟨ua241_2, uc241_2, rfl, ul241_2, ge241_2⟩ := k29_openF hMe241
   have hv241_2 := hcc241 2 _ rfl
   rw [add_field _ _ 2 (by omega)] at hv241_2
   replace hv241_2 := Option.some.inj (hv241_2.symm.trans hx241_2)
   injection hv241_2 with hva_ hvn_ hvc_
   rw [hva_] at ge241_2
   rw [hvc_] at ul241_2
   have HL241_2 := Aside0.mk (show Kd.V k55 55 _ w.heap.size _ _ ((rd_T29 t235 x7_1).f2) from Kd.V_mk ul241_2 ge241_2)
   clear hva_ hvn_ hvc_ ge241_2 ul241_2
   clear hcc241 hce241
   have HR241_2 := Aside0.mk (hi241_2)
   have HC241_2 := Aside0.mk hl241_2
   clear hi241_2 hl241_2
   replace p241 := eq_true p241
   replace q241 := eq_true q241
   go_wp2
   go_roundg k1
   case measure => have := HK1.out; omega
   case rel => exact ⟨(wrap64 (x7_1 + 1)), pF, H', ⟨by have := HK1.out; omega⟩, ⟨by (with_reducible repeat (first | apply Kd.N_alloc | apply Kd.N_drewN | apply Kd.N_drew)); exact HO_3.out⟩, ⟨pB⟩⟩
/-- THE ONE PURE STATEMENT of laws_FnDishesFind: yours. -/
def laws_FnDishesFind.Pure : Prop := ∀ (l0 : List Int), l0.length ≤ maxLen → l0.length * 1 ≤ 140737488351232 → (∀ x ∈ l0, (Lit.int .u8 x).wf = true) → ∃ k, laws_FnDishesFind.f k l0 = some true
theorem laws_FnDishesFind.walk (P : laws_FnDishesFind.Pure) (a0 : Option Addr) (len0 cap0 : Nat) (z0 : List Int) (w : World) (w0 : (a0 = none ∧ len0 = 0 ∧ cap0 = 0 ∧ z0 = []) ∨ ∃ x, a0 = some x ∧ len0 ≤ cap0 ∧ cap0 ≤ maxLen ∧ z0.length = cap0 ∧ (∀ i, i < z0.length → w.cell? (x.add i) = some (.int .u8 (z0.getD i 0))) ∧ ∀ n ∈ z0, (Lit.int .u8 n).wf = true) (y0 : len0 * 1 ≤ 140737488351232) :
  Calls Try.prog 3 #[.slice a0 len0 cap0] w fun e w' => e = .returned (.bool true) ∧ Below w.heap.size w w' := by
 obtain ⟨l0, rfl, hr0, hm0, hw0, hc0⟩ := ReadsInt.ofRowC w0
 obtain ⟨k, h⟩ := P l0 hm0 y0 hw0
 refine (laws_FnDishesFind.calls k _ _ l0 true w (Kd.C_of_reads (d := (0 : Int)) (h1 := fun _ => rfl) hr0) hc0 h).mono ?_
 rintro e w' ⟨rfl, hd⟩
 exact ⟨rfl, hd⟩

end Go.Proofs.Ytclldijjbmnkeaa.Q
