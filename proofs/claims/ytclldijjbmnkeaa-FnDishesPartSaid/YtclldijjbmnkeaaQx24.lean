-- Written by the kit's print.py for all laws of the seat at once (one namespace), by a program of this session.
import Derived.Test.YtclldijjbmnkeaaQx0
import Derived.Test.YtclldijjbmnkeaaQx1
import Derived.Test.YtclldijjbmnkeaaQx2
import Derived.Test.YtclldijjbmnkeaaQx10
import Derived.Test.YtclldijjbmnkeaaQx12
namespace Go.Proofs.Ytclldijjbmnkeaa.Q
open Go.RowKit Go.Proofs.YtclldijjbmnkeaaW.PrintWords Go.Proofs.YtclldijjbmnkeaaW.PrintLast Go.Proofs.YtclldijjbmnkeaaW.PrintMore
attribute [local go_sem] max2_int min2_int max_two min_two max_three min_three max_four min_four   -- for this text's walks alone
set_option linter.unusedVariables false
set_option linter.unusedSimpArgs false

/-! ### spec_DrawDishesValid: function 39 -/
def spec_DrawDishesValid.f (k : Nat) (l0 : List Int) : Option ((List (S29)) × (List (S63))) := (spec_l6Open.f l0).bind fun bt670 => ((spec_l91Menu.f k bt670.1 bt670.2).bind fun bt673 => (some (bt673.1, bt673.2.1)))
theorem spec_DrawDishesValid.mono : ∀ a0 k, LeO (spec_DrawDishesValid.f k a0) (spec_DrawDishesValid.f (k + 1) a0) := by
 intro a0 k
 unfold spec_DrawDishesValid.f
 repeat' first
   | (with_reducible exact spec_l91Menu.mono _ _ _)
   | (with_reducible exact LeO.refl _)
   | (with_reducible exact LeO.none _)
   | (with_reducible refine LeO.ite ?_ ?_)
   | (with_reducible refine LeO.bind ?_ (fun _ => ?_))
   | exact spec_l91Menu.mono _ _ _
   | exact LeO.none _
   | refine LeO.ite ?_ ?_
   | refine LeO.bind ?_ (fun _ => ?_)
set_option maxHeartbeats 8000000 in
set_option maxRecDepth 100000 in
theorem spec_DrawDishesValid.calls (k : Nat) (A0 : Option Addr) (c0 : Nat) (l0 : List Int) (r1 : List (S29)) (r2 : List (S63)) (w : World) (hr0 : Kd.C (Kd.int .u8) w A0 l0.length l0) (hc0 : l0.length ≤ c0) (h : spec_DrawDishesValid.f k l0 = some (r1, r2)) :
  Calls Try.prog 39 #[.slice A0 l0.length c0] w fun e w' => ∃ v0_ v1_ : Value, e = .returned (.tuple #[v0_, v1_]) ∧ Kd.N k29 29 w' w.heap.size (fun k_ => (w.heap.size ≤ k_) ∧ some k_ ≠ (v1_ : Value).ownBlock) v0_ r1 ∧ Kd.R k63 63 w' w.heap.size (fun k_ => (w.heap.size ≤ k_)) v1_ r2 ∧ Below w.heap.size w w' := by
 have HR0 := Aside0.mk hr0
 have HC0 := Aside0.mk hc0
 clear hr0 hc0
 have HB := Aside0.mk (Below.refl w.heap.size w)
 have H : ((spec_l6Open.f l0).bind fun bt670 => ((spec_l91Menu.f k bt670.1 bt670.2).bind fun bt673 => (some (bt673.1, bt673.2.1)))) = some (r1, r2) := h
 clear h
 replace H := Option.bind_eq_some_iff.mp H
 obtain ⟨⟨t670, t671⟩, A20, H⟩ := H
 replace H : ((spec_l91Menu.f k t670 t671).bind fun bt673 => (some (bt673.1, bt673.2.1))) = some (r1, r2) := H
 have A2 := Aside0.mk A20
 clear A20
 replace H := Option.bind_eq_some_iff.mp H
 obtain ⟨⟨t673, t676, t679⟩, A30, H⟩ := H
 replace H : (some (t673, t676)) = some (r1, r2) := H
 have A3 := Aside0.mk A30
 clear A30
 simp only [Option.some.injEq, Prod.mk.injEq] at H
 obtain ⟨rfl, rfl⟩ := H
 go_enter Try.func39, Try.ntmps39
 go_wp2_with (first | ((with_reducible refine gate_callee (f := 53) rfl ?_); refine goesL_ (some 5) rfl rfl Try.func53 pL rfl #[.slice A0 l0.length c0] rfl pM ?_; (with_reducible refine (spec_l6Open.calls _ _ l0 t670 t671 w _ ?side1 ?side2 ?side3 A2.out).mono ?_); (case side1 => exact pB); (case side2 => exact HR0.out); (case side3 => exact HC0.out); rintro e w4 ⟨g672, rfl, hi, hb, hb2⟩; refine ⟨_, rfl, ?_⟩; have n0_ := Aside0.mk (hb); have n1_ := Aside0.mk (hi); clear HB; have HB := n0_; have HI672 := n1_; clear n0_ n1_; (try clear hb); (try clear hb2); (try clear hk); (try clear hi)) | ((with_reducible refine gate_callee (f := 54) rfl ?_); refine goesL_ (some 6) rfl rfl Try.func54 pL rfl #[.pointer (some ⟨g672, 0, none⟩)] rfl pM ?_; (with_reducible refine (spec_l91Menu.calls k g672 t670 t671 t673 t676 t679 w _ ?side1 ?side2 A3.out).mono ?_); (case side1 => repeat (first | (with_reducible first | exact HI672.out | apply IsS99.alloc | apply IsS99.drewN | apply IsS99.drew | apply IsS99.set_1) | exact HI672.out)); (case side2 => repeat (first | (with_reducible first | exact HB.out | apply below_alloc | apply pw_below_drewN | apply below_drew1 | refine below_set ?_ (IsS99.ge HI672.out)) | exact HB.out)); rintro e w5 ⟨v674, v677, rfl, ho0, ho1, hi, hb, hk⟩; refine ⟨_, rfl, ?_⟩; have n0_ := Aside0.mk (Kd.N_lower (Kd.N_mono (ok' := fun k_ => (w.heap.size ≤ k_) ∧ some k_ ≠ (v677 : Value).ownBlock ∧ k_ ≠ g672) ho0 (fun k_ hk_ => ⟨(Nat.le_trans (below_size (by repeat (first | (with_reducible first | exact HB.out | apply below_alloc | apply pw_below_drewN | apply below_drew1 | refine below_set ?_ (IsS99.ge HI672.out)) | exact HB.out))) hk_.1), hk_.2, (IsS99.fresh (by repeat (first | (with_reducible first | exact HI672.out | apply IsS99.alloc | apply IsS99.drewN | apply IsS99.drew | apply IsS99.set_1) | exact HI672.out)) k_ hk_.1)⟩)) (below_size (by repeat (first | (with_reducible first | exact HB.out | apply below_alloc | apply pw_below_drewN | apply below_drew1 | refine below_set ?_ (IsS99.ge HI672.out)) | exact HB.out)))); have n1_ := Aside0.mk (Kd.R_lower (Kd.R_newM (M := fun k_ => (w.heap.size ≤ k_)) (Kd.R_mono (ok' := fun k_ => True) ho1 (fun _ hk_ => trivial)) (below_size (by repeat (first | (with_reducible first | exact HB.out | apply below_alloc | apply pw_below_drewN | apply below_drew1 | refine below_set ?_ (IsS99.ge HI672.out)) | exact HB.out))) (fun k_ h_ => h_)) (below_size (by repeat (first | (with_reducible first | exact HB.out | apply below_alloc | apply pw_below_drewN | apply below_drew1 | refine below_set ?_ (IsS99.ge HI672.out)) | exact HB.out)))); have n2_ := Aside0.mk (hb); have n3_ := Aside0.mk (hi); clear HB; clear HI672; have HO675 := n0_; have HO678 := n1_; have HB := n2_; have HI672 := n3_; clear n0_ n1_ n2_ n3_; (try clear hb); (try clear hb2); (try clear hk); (try clear hi); (try clear ho0); (try clear ho1)))
 go_ret2
 exact ⟨_, _, pE, by (with_reducible repeat (first | apply Kd.N_alloc | apply Kd.N_drewN | apply Kd.N_drew)); exact Kd.N_mono HO675.out (fun _ hk => ⟨hk.1, hk.2.1⟩), by (with_reducible repeat (first | apply Kd.R_alloc | apply Kd.R_drewN | apply Kd.R_drew)); exact Kd.R_mono HO678.out (fun _ hk => hk.1), by repeat (first | (with_reducible first | exact HB.out | apply below_alloc | apply pw_below_drewN | apply below_drew1 | refine below_set ?_ (IsS99.ge HI672.out)) | exact HB.out)⟩

/-! ### laws_FnDishesPart: function 8 -/
def laws_FnDishesPart.j0 : Nat → List (S29) → List (S63) → Bool → Bool → Bool → Option (Bool)
 | 0, _, _, _, _, _ => none
 | k + 1, x3, x4, x5, x6, x33 => if x33 = true then (some (x5 == x6)) else ((some (([] : List (S29)) : List (S29))).bind fun y688 => (if y688.length + x3.length < 3518437208883 then ((some (y688 ++ x3 : List (S29))).bind fun y691 => (if 0 < (y691.length : Int) then (if 0 ≤ (wrap64 ((x3.length : Int) - 1)) then (if (wrap64 ((x3.length : Int) - 1)) ≤ (x3.length : Int) then ((impl_DishesValid.f k (x3.take ((wrap64 ((x3.length : Int) - 1)) : Int).toNat) x4).bind fun t704 => (if t704 = true then ((impl_DishesValid.f k (y691.set (0 : Int).toNat (⟨(rd_T29 y691 0).f0, (rd_T29 y691 0).f1, (([(⟨0, (rd_T29 y691 0).f0, 1⟩ : S55)] : List (S55)))⟩ : S29)) x4).bind fun t705 => (some (!t705))) else (some false))) else (none)) else (none)) else (none))) else (none)))
def laws_FnDishesPart.f (k : Nat) (l0 : List Int) : Option (Bool) := if (l0.length : Int) > 1048576 then (some true) else ((spec_DrawDishesValid.f k l0).bind fun bt680 => ((impl_DishesValid.f k bt680.1 bt680.2).bind fun t686 => ((spec_DishesValid.f k bt680.1 bt680.2).bind fun t687 => (if (t686 != t687) = true then (laws_FnDishesPart.j0 k bt680.1 bt680.2 t686 t687 true) else (if t686 = true then (laws_FnDishesPart.j0 k bt680.1 bt680.2 t686 t687 ((bt680.1.length : Int) == 0)) else (laws_FnDishesPart.j0 k bt680.1 bt680.2 t686 t687 true))))))
theorem laws_FnDishesPart.mono_l : ∀ k, (∀ y0 y1 y2 y3 y4, LeO (laws_FnDishesPart.j0 k y0 y1 y2 y3 y4) (laws_FnDishesPart.j0 (k + 1) y0 y1 y2 y3 y4))
 | 0 => fun _ _ _ _ _ r h => by simp [laws_FnDishesPart.j0] at h
 | k + 1 => by
  have ih0 := laws_FnDishesPart.mono_l k
  ·intro y0 y1 y2 y3 y4
   unfold laws_FnDishesPart.j0
   repeat' first
   | (with_reducible exact ih0 _ _ _ _ _)
   | (with_reducible exact impl_DishesValid.mono _ _ _)
   | (with_reducible exact spec_DishesValid.mono _ _ _)
   | (with_reducible exact spec_DrawDishesValid.mono _ _)
   | (with_reducible exact LeO.refl _)
   | (with_reducible exact LeO.none _)
   | (with_reducible refine LeO.ite ?_ ?_)
   | (with_reducible refine LeO.bind ?_ (fun _ => ?_))
   | exact ih0 _ _ _ _ _
   | exact impl_DishesValid.mono _ _ _
   | exact spec_DishesValid.mono _ _ _
   | exact spec_DrawDishesValid.mono _ _
   | exact LeO.none _
   | refine LeO.ite ?_ ?_
   | refine LeO.bind ?_ (fun _ => ?_)
theorem laws_FnDishesPart.mono : ∀ a0 k, LeO (laws_FnDishesPart.f k a0) (laws_FnDishesPart.f (k + 1) a0) := by
 intro a0 k
 have ih0 := laws_FnDishesPart.mono_l k
 unfold laws_FnDishesPart.f
 repeat' first
   | (with_reducible exact ih0 _ _ _ _ _)
   | (with_reducible exact impl_DishesValid.mono _ _ _)
   | (with_reducible exact spec_DishesValid.mono _ _ _)
   | (with_reducible exact spec_DrawDishesValid.mono _ _)
   | (with_reducible exact LeO.refl _)
   | (with_reducible exact LeO.none _)
   | (with_reducible refine LeO.ite ?_ ?_)
   | (with_reducible refine LeO.bind ?_ (fun _ => ?_))
   | exact ih0 _ _ _ _ _
   | exact impl_DishesValid.mono _ _ _
   | exact spec_DishesValid.mono _ _ _
   | exact spec_DrawDishesValid.mono _ _
   | exact LeO.none _
   | refine LeO.ite ?_ ?_
   | refine LeO.bind ?_ (fun _ => ?_)
theorem F8.q0 {P : Prop} (h : P := by (with_reducible repeat (first | apply Kd.N_alloc | apply Kd.N_drewN | apply Kd.N_drew)); exact HO_3.out) : P := h
set_option maxHeartbeats 8000000 in
set_option maxRecDepth 100000 in
theorem laws_FnDishesPart.calls (k : Nat) (A0 : Option Addr) (c0 : Nat) (l0 : List Int) (r : Bool) (w : World) (hr0 : Kd.C (Kd.int .u8) w A0 l0.length l0) (hc0 : l0.length ≤ c0) (h : laws_FnDishesPart.f k l0 = some r) :
  Calls Try.prog 8 #[.slice A0 l0.length c0] w fun e w' => e = .returned (.bool r) ∧ Below w.heap.size w w' := by
 have hu55 := Try.underlying55
 have HR0 := Aside0.mk hr0
 have HC0 := Aside0.mk hc0
 clear hr0 hc0
 have HB := Aside0.mk (Below.refl w.heap.size w)
 have H : (if (l0.length : Int) > 1048576 then (some true) else ((spec_DrawDishesValid.f k l0).bind fun bt680 => ((impl_DishesValid.f k bt680.1 bt680.2).bind fun t686 => ((spec_DishesValid.f k bt680.1 bt680.2).bind fun t687 => (if (t686 != t687) = true then (laws_FnDishesPart.j0 k bt680.1 bt680.2 t686 t687 true) else (if t686 = true then (laws_FnDishesPart.j0 k bt680.1 bt680.2 t686 t687 ((bt680.1.length : Int) == 0)) else (laws_FnDishesPart.j0 k bt680.1 bt680.2 t686 t687 true))))))) = some r := h
 clear h
 by_cases c2 : (l0.length : Int) > 1048576
 ·rw [if_pos c2] at H
  have c2b0 : decide (1048576 < (l0.length : Int)) = true := decide_eq_true c2
  have c2b1 : decide (1048576 < l0.length) = true := decide_eq_true (by omega)
  clear c2
  obtain rfl := Option.some.inj H
  go_enter Try.func8, Try.ntmps8
  go_wp2
  go_ret
  exact ⟨pE, pB⟩
 rw [if_neg c2] at H
 have c2b0 : decide (1048576 < (l0.length : Int)) = false := decide_eq_false c2
 have c2b1 : decide (1048576 < l0.length) = false := decide_eq_false (by omega)
 clear c2
 replace H := Option.bind_eq_some_iff.mp H
 obtain ⟨⟨t680, t683⟩, A30, H⟩ := H
 replace H : ((impl_DishesValid.f k t680 t683).bind fun t686 => ((spec_DishesValid.f k t680 t683).bind fun t687 => (if (t686 != t687) = true then (laws_FnDishesPart.j0 k t680 t683 t686 t687 true) else (if t686 = true then (laws_FnDishesPart.j0 k t680 t683 t686 t687 ((t680.length : Int) == 0)) else (laws_FnDishesPart.j0 k t680 t683 t686 t687 true))))) = some r := H
 have A3 := Aside0.mk A30
 clear A30
 replace H := Option.bind_eq_some_iff.mp H
 obtain ⟨t686, A40, H⟩ := H
 replace H : ((spec_DishesValid.f k t680 t683).bind fun t687 => (if (t686 != t687) = true then (laws_FnDishesPart.j0 k t680 t683 t686 t687 true) else (if t686 = true then (laws_FnDishesPart.j0 k t680 t683 t686 t687 ((t680.length : Int) == 0)) else (laws_FnDishesPart.j0 k t680 t683 t686 t687 true)))) = some r := H
 have A4 := Aside0.mk A40
 clear A40
 replace H := Option.bind_eq_some_iff.mp H
 obtain ⟨t687, A50, H⟩ := H
 replace H : (if (t686 != t687) = true then (laws_FnDishesPart.j0 k t680 t683 t686 t687 true) else (if t686 = true then (laws_FnDishesPart.j0 k t680 t683 t686 t687 ((t680.length : Int) == 0)) else (laws_FnDishesPart.j0 k t680 t683 t686 t687 true))) = some r := H
 have A5 := Aside0.mk A50
 clear A50
 have HC6 := Aside0.mk H
 clear H
 go_enter Try.func8, Try.ntmps8
 go_upto_region 6 with (first | ((with_reducible refine gate_callee (f := 39) rfl ?_); refine goesL_ (some 13) rfl rfl Try.func39 pL rfl #[.slice A0 l0.length c0] rfl pM ?_; (with_reducible refine (spec_DrawDishesValid.calls k _ _ l0 t680 t683 _ ?side1 ?side2 A3.out).mono ?_); (case side1 => exact pS (HR0.out)); (case side2 => exact HC0.out); rintro e w7 ⟨v681, v684, rfl, ho0, ho1, hb⟩; refine ⟨_, rfl, ?_⟩; have n0_ := Aside0.mk (Kd.N_lower (Kd.N_mono (ok' := fun k_ => some k_ ≠ (v684 : Value).ownBlock) ho0 (fun k_ hk_ => hk_.2)) (below_size pB)); have n1_ := Aside0.mk (Kd.R_lower (Kd.R_mono (ok' := fun k_ => True) ho1 (fun _ hk_ => trivial)) (below_size pB)); have n2_ := Aside0.mk (below_step pB hb); clear HB; have HO682 := n0_; have HO685 := n1_; have HB := n2_; clear n0_ n1_ n2_; (try clear hb); (try clear hb2); (try clear hk); (try clear hi); (try clear ho0); (try clear ho1); obtain ⟨Ao8, co8, eo8⟩ := Kd.N_slice HO682.out; subst eo8; obtain ⟨Ao9, co9, eo9⟩ := Kd.R_slice HO685.out; subst eo9) | ((with_reducible refine gate_callee (f := 40) rfl ?_); refine goesL_ (some 18) rfl rfl Try.func40 pL rfl #[.slice Ao8 t680.length co8, .slice Ao9 t683.length co9] rfl pM ?_; (with_reducible refine (impl_DishesValid.calls k _ _ t680 _ _ t683 t686 _ ?side1 ?side2 ?side3 ?side4 A4.out).mono ?_); (case side1 => exact pS ((Kd.N_reads' HO682.out).2.2)); (case side2 => exact (Kd.N_reads' HO682.out).2.1); (case side3 => exact pS ((Kd.R_reads' HO685.out).2.2)); (case side4 => exact (Kd.R_reads' HO685.out).2.1); rintro e w10 ⟨rfl, hb⟩; refine ⟨_, rfl, ?_⟩; have n0_ := Aside0.mk (Kd.N_below (by (with_reducible repeat (first | apply Kd.N_alloc | apply Kd.N_drewN | apply Kd.N_drew)); exact HO682.out) hb); have n1_ := Aside0.mk (Kd.R_below (pR HO685) hb); have n2_ := Aside0.mk (below_step pB hb); clear HO682; clear HO685; clear HB; have HO682 := n0_; have HO685 := n1_; have HB := n2_; clear n0_ n1_ n2_; (try clear hb); (try clear hb2); (try clear hk); (try clear hi)) | ((with_reducible refine gate_callee (f := 41) rfl ?_); refine goesL_ (some 21) rfl rfl Try.func41 pL rfl #[.slice Ao8 t680.length co8, .slice Ao9 t683.length co9] rfl pM ?_; (with_reducible refine (spec_DishesValid.calls k _ _ t680 _ _ t683 t687 _ ?side1 ?side2 ?side3 ?side4 A5.out).mono ?_); (case side1 => exact pS ((Kd.N_reads' HO682.out).2.2)); (case side2 => exact (Kd.N_reads' HO682.out).2.1); (case side3 => exact pS ((Kd.R_reads' HO685.out).2.2)); (case side4 => exact (Kd.R_reads' HO685.out).2.1); rintro e w11 ⟨rfl, hb⟩; refine ⟨_, rfl, ?_⟩; have n0_ := Aside0.mk (Kd.N_below (by (with_reducible repeat (first | apply Kd.N_alloc | apply Kd.N_drewN | apply Kd.N_drew)); exact HO682.out) hb); have n1_ := Aside0.mk (Kd.R_below (pR HO685) hb); have n2_ := Aside0.mk (below_step pB hb); clear HO682; clear HO685; clear HB; have HO682 := n0_; have HO685 := n1_; have HB := n2_; clear n0_ n1_ n2_; (try clear hb); (try clear hb2); (try clear hk); (try clear hi)))
 (try simp only [Act.put, List.setIfInBounds_toArray, List.set_cons_zero, List.set_cons_succ])
 go_cut [33] (fun v33 wc => ∃ (kq : Nat) (x33_5 : Bool), v33 = .bool x33_5 ∧ Aside0 (laws_FnDishesPart.j0 kq t680 t683 t686 t687 x33_5 = some r) ∧ Aside0 (kq ≤ k) ∧ Aside0 (Kd.N k29 29 wc w.heap.size (fun k_ => some k_ ≠ ((.slice Ao9 t683.length co9) : Value).ownBlock) (.slice Ao8 t680.length co8) t680) ∧ Aside0 (Kd.R k63 63 wc w.heap.size (fun _ => True) (.slice Ao9 t683.length co9) t683) ∧ Aside0 (Below w.heap.size w wc))
 case first =>
  have H := HC6.out
  clear HC6
  by_cases c12 : (t686 != t687) = true
  ·rw [if_pos c12] at H
   have c12b0 : (t686 != t687) = true := c12
   (try (have c12b1 : decide (t686 = t687) = false := by simpa using c12))
   (try (have c12b2 : (t686 == t687) = false := by simpa using c12))
   (try (have c12b3 : ¬ (t686 = t687) := by simpa using c12))
   clear c12
   (first | rw [c12b0] | (simp only [i64_w, i32_w]; rw [c12b0]) | skip)
   have H' := Aside0.mk H
   clear H
   go_wp2
   go_meet
   case rel => exact ⟨_, (true), pF, H', ⟨by first | omega | exact Nat.le_refl _⟩, ⟨by (with_reducible repeat (first | apply Kd.N_alloc | apply Kd.N_drewN | apply Kd.N_drew)); exact HO682.out⟩, ⟨pR HO685⟩, ⟨pB⟩⟩
  rw [if_neg c12] at H
  have c12b0 : (t686 != t687) = false := by simpa using c12
  (try (have c12b1 : decide (t686 = t687) = true := by simpa using c12))
  (try (have c12b2 : (t686 == t687) = true := by simpa using c12))
  clear c12
  (first | rw [c12b0] | (simp only [i64_w, i32_w]; rw [c12b0]) | skip)
  by_cases c13 : t686 = true
  ·subst c13
   have H1 : (laws_FnDishesPart.j0 k t680 t683 true t687 ((t680.length : Int) == 0)) = some r := by rw [if_pos rfl] at H; exact H
   clear H
   have H := H1
   clear H1
   have H' := Aside0.mk H
   clear H
   go_wp2
   go_meet
   case rel => exact ⟨_, (((t680.length : Int) == 0)), pF, H', ⟨by first | omega | exact Nat.le_refl _⟩, ⟨by (with_reducible repeat (first | apply Kd.N_alloc | apply Kd.N_drewN | apply Kd.N_drew)); exact HO682.out⟩, ⟨pR HO685⟩, ⟨pB⟩⟩
  replace c13 := Bool.eq_false_iff.mpr c13
  subst c13
  have H1 : (laws_FnDishesPart.j0 k t680 t683 false t687 true) = some r := by rw [if_neg (show ¬ (false = true) by decide)] at H; exact H
  clear H
  have H := H1
  clear H1
  have H' := Aside0.mk H
  clear H
  go_wp2
  go_meet
  case rel => exact ⟨_, (true), pF, H', ⟨by first | omega | exact Nat.le_refl _⟩, ⟨by (with_reducible repeat (first | apply Kd.N_alloc | apply Kd.N_drewN | apply Kd.N_drew)); exact HO682.out⟩, ⟨pR HO685⟩, ⟨pB⟩⟩
 case rest =>
  clear HC6
  try clear c1
  try clear c2
  try clear c2b0
  try clear c2b1
  try clear p2
  try clear c3
  try clear c4
  try clear c8
  try clear c12
  try clear c12b0
  try clear c12b1
  try clear c12b2
  try clear c13
  obtain ⟨kq, x33_5, rfl, HA, HJ5, HO_3, HO_4, HB⟩ := hcut
  cases kq with
  | zero => exact absurd HA.out (by simp [laws_FnDishesPart.j0])
  | succ kj5 =>
   have H := HA.out
   clear HA
   simp only [laws_FnDishesPart.j0] at H
   by_cases c14 : x33_5 = true
   ·subst c14
    have H1 : (some (t686 == t687)) = some r := by rw [if_pos rfl] at H; exact H
    clear H
    have H := H1
    clear H1
    obtain rfl := Option.some.inj H
    go_wp2
    go_ret
    exact ⟨pE, pB⟩
   replace c14 := Bool.eq_false_iff.mpr c14
   subst c14
   have H1 : ((some (([] : List (S29)) : List (S29))).bind fun y688 => (if y688.length + t680.length < 3518437208883 then ((some (y688 ++ t680 : List (S29))).bind fun y691 => (if 0 < (y691.length : Int) then (if 0 ≤ (wrap64 ((t680.length : Int) - 1)) then (if (wrap64 ((t680.length : Int) - 1)) ≤ (t680.length : Int) then ((impl_DishesValid.f kj5 (t680.take ((wrap64 ((t680.length : Int) - 1)) : Int).toNat) t683).bind fun t704 => (if t704 = true then ((impl_DishesValid.f kj5 (y691.set (0 : Int).toNat (⟨(rd_T29 y691 0).f0, (rd_T29 y691 0).f1, (([(⟨0, (rd_T29 y691 0).f0, 1⟩ : S55)] : List (S55)))⟩ : S29)) t683).bind fun t705 => (some (!t705))) else (some false))) else (none)) else (none)) else (none))) else (none))) = some r := by rw [if_neg (show ¬ (false = true) by decide)] at H; exact H
   clear H
   have H := H1
   clear H1
   obtain ⟨y688, hy688⟩ : ∃ y_ : List (S29), y_ = (([] : List (S29))) := ⟨_, rfl⟩
   replace H : (if y688.length + t680.length < 3518437208883 then ((some (y688 ++ t680 : List (S29))).bind fun y691 => (if 0 < (y691.length : Int) then (if 0 ≤ (wrap64 ((t680.length : Int) - 1)) then (if (wrap64 ((t680.length : Int) - 1)) ≤ (t680.length : Int) then ((impl_DishesValid.f kj5 (t680.take ((wrap64 ((t680.length : Int) - 1)) : Int).toNat) t683).bind fun t704 => (if t704 = true then ((impl_DishesValid.f kj5 (y691.set (0 : Int).toNat (⟨(rd_T29 y691 0).f0, (rd_T29 y691 0).f1, (([(⟨0, (rd_T29 y691 0).f0, 1⟩ : S55)] : List (S55)))⟩ : S29)) t683).bind fun t705 => (some (!t705))) else (some false))) else (none)) else (none)) else (none))) else (none)) = some r := pJ hy688 H
   have Ny688 := Aside0.mk hy688
   clear hy688
   rcases (Classical.em (y688.length + t680.length < 3518437208883)).symm with c15 | c15
   ·rw [if_neg c15] at H
    exact absurd H (by simp)

   rw [if_pos c15] at H
   have LMc15 := Aside0.mk c15
   clear c15
   obtain ⟨y691, hy691⟩ : ∃ y_ : List (S29), y_ = (y688 ++ t680) := ⟨_, rfl⟩
   replace H : (if 0 < (y691.length : Int) then (if 0 ≤ (wrap64 ((t680.length : Int) - 1)) then (if (wrap64 ((t680.length : Int) - 1)) ≤ (t680.length : Int) then ((impl_DishesValid.f kj5 (t680.take ((wrap64 ((t680.length : Int) - 1)) : Int).toNat) t683).bind fun t704 => (if t704 = true then ((impl_DishesValid.f kj5 (y691.set (0 : Int).toNat (⟨(rd_T29 y691 0).f0, (rd_T29 y691 0).f1, (([(⟨0, (rd_T29 y691 0).f0, 1⟩ : S55)] : List (S55)))⟩ : S29)) t683).bind fun t705 => (some (!t705))) else (some false))) else (none)) else (none)) else (none)) = some r := pJ hy691 H
   have Ny691 := Aside0.mk hy691
   clear hy691
   rcases (Classical.em (0 < (y691.length : Int))).symm with c16 | c16
   ·rw [if_neg c16] at H
    exact absurd H (by simp)
   rw [if_pos c16] at H
   have c16b0 : decide (0 < (y691.length : Int)) = true := decide_eq_true c16
   have c16b1 : decide (0 < y691.length) = true := decide_eq_true (by omega)
   clear c16
   obtain ⟨y695, hy695⟩ : ∃ y_ : List (S55), y_ = (([(⟨0, (rd_T29 y691 0).f0, 1⟩ : S55)] : List (S55))) := ⟨_, rfl⟩
   replace H : (if 0 ≤ (wrap64 ((t680.length : Int) - 1)) then (if (wrap64 ((t680.length : Int) - 1)) ≤ (t680.length : Int) then ((impl_DishesValid.f kj5 (t680.take ((wrap64 ((t680.length : Int) - 1)) : Int).toNat) t683).bind fun t704 => (if t704 = true then ((impl_DishesValid.f kj5 (y691.set (0 : Int).toNat (⟨(rd_T29 y691 0).f0, (rd_T29 y691 0).f1, y695⟩ : S29)) t683).bind fun t705 => (some (!t705))) else (some false))) else (none)) else (none)) = some r := pJ hy695 H
   have Ny695 := Aside0.mk hy695
   clear hy695
   obtain ⟨y698, hy698⟩ : ∃ y_ : List (S29), y_ = (y691.set (0 : Int).toNat (⟨(rd_T29 y691 0).f0, (rd_T29 y691 0).f1, y695⟩ : S29)) := ⟨_, rfl⟩
   replace H : (if 0 ≤ (wrap64 ((t680.length : Int) - 1)) then (if (wrap64 ((t680.length : Int) - 1)) ≤ (t680.length : Int) then ((impl_DishesValid.f kj5 (t680.take ((wrap64 ((t680.length : Int) - 1)) : Int).toNat) t683).bind fun t704 => (if t704 = true then ((impl_DishesValid.f kj5 y698 t683).bind fun t705 => (some (!t705))) else (some false))) else (none)) else (none)) = some r := pJ hy698 H
   have Ny698 := Aside0.mk hy698
   clear hy698
   obtain ⟨ji18, hji18⟩ : ∃ j_ : Int, (wrap64 ((t680.length : Int) - 1)) = j_ := ⟨_, rfl⟩
   replace H : (if 0 ≤ (ji18) then (if (ji18) ≤ (t680.length : Int) then ((impl_DishesValid.f kj5 (t680.take ((ji18) : Int).toNat) t683).bind fun t704 => (if t704 = true then ((impl_DishesValid.f kj5 y698 t683).bind fun t705 => (some (!t705))) else (some false))) else (none)) else (none)) = some r := by first | (rw [hji18] at H; exact H) | (simp only [hji18] at H ⊢; exact H)
   have hji18w : (IntKind.i64.wrap ((t680.length : Int) - 1)) = ji18 := (i64_w _).trans hji18
   rcases (Classical.em (0 ≤ (ji18))).symm with c19 | c19
   ·rw [if_neg c19] at H
    exact absurd H (by simp)
   rw [if_pos c19] at H
   have c19b0 := eq_true c19
   have c19b1 : decide (0 ≤ (ji18)) = true := decide_eq_true c19
   clear c19
   rcases (Classical.em ((ji18) ≤ (t680.length : Int))).symm with c20 | c20
   ·rw [if_neg c20] at H
    exact absurd H (by simp)
   rw [if_pos c20] at H
   have c20b0 := eq_true c20
   have c20b1 : decide ((ji18) ≤ (t680.length : Int)) = true := decide_eq_true c20
   clear c20
   obtain ⟨y699, hy699⟩ : ∃ y_ : List (S29), y_ = (t680.take ((ji18) : Int).toNat) := ⟨_, rfl⟩
   replace H : ((impl_DishesValid.f kj5 y699 t683).bind fun t704 => (if t704 = true then ((impl_DishesValid.f kj5 y698 t683).bind fun t705 => (some (!t705))) else (some false))) = some r := pJ hy699 H
   have Ny699 := Aside0.mk hy699
   clear hy699
   replace H := Option.bind_eq_some_iff.mp H
   obtain ⟨t704, A210, H⟩ := H
   replace H : (if t704 = true then ((impl_DishesValid.f kj5 y698 t683).bind fun t705 => (some (!t705))) else (some false)) = some r := H
   have A21 := Aside0.mk A210
   clear A210
   rcases (Classical.em (t704 = true)).symm with c22 | c22
   ·replace c22 := Bool.eq_false_iff.mpr c22
    subst c22
    have H1 : (some false) = some r := by rw [if_neg (show ¬ (false = true) by decide)] at H; exact H
    clear H
    have H := H1
    clear H1
    obtain rfl := Option.some.inj H
    go_wp2_with (first | ((with_reducible refine gate_dst (N := 37) rfl ?_); (try (refine gate_guard (by rfl) ?_; dsimp only)); refine Kd.N_lit k29 _ 29 ?hg (N' := 37) ?hd (xs := ([] : List (S29))) (inner := []) (ok := (fun k_ => some k_ ≠ (.slice Ao8 t680.length co8 : Value).ownBlock ∧ some k_ ≠ (.slice Ao9 t683.length co9 : Value).ownBlock)) (okp := (fun k_ => some k_ ≠ (.slice Ao8 t680.length co8 : Value).ownBlock ∧ some k_ ≠ (.slice Ao9 t683.length co9 : Value).ownBlock)) ?hr ?hp (fun _ hk => hk) ((show ∀ k_, wc.heap.size ≤ k_ → (fun k_ => some k_ ≠ (.slice Ao8 t680.length co8 : Value).ownBlock ∧ some k_ ≠ (.slice Ao9 t683.length co9 : Value).ownBlock) k_ from fun k_ hk => ⟨Kd.fresh' (Kd.N_lt F8.q0) k_ hk, Kd.fresh' (Kd.R_lt (pR HO_4)) k_ hk⟩) _ (Nat.le_refl _)) (Below.refl _ _) (Nat.le_refl _) (by simp) ?_; (case hd => rfl); (case hg => rfl); (case hr => first | (go_simp; done) | (go_simp; rfl)); (case hp => exact (Reps.none _ _)); intro v689 w35 ho36 hb hg_ hnew_; clear hg_ hnew_; (first | rw [← Ny688.out] at ho36 | (simp only [Int.reduceToNat] at ho36; rw [← Ny688.out] at ho36)); have n0_ := Aside0.mk (Kd.N_elder' F8.q0 (Kd.N_base ho36) hb); have n1_ := Aside0.mk (Kd.R_below (pR HO_4) hb); have n2_ := Aside0.mk (Kd.N_lower ho36 (below_size pB)); have n3_ := Aside0.mk (below_step pB hb); clear HO_3; clear HO_4; clear HB; have HO_3 := n0_; have HO_4 := n1_; have HO690 := n2_; have HB := n3_; clear n0_ n1_ n2_ n3_; clear hb ho36) | ((with_reducible refine gate_builtin (b := .append) (xs := #[.tmp 37, .tmp 38]) rfl ?_); (try (refine gate_guard (by rfl) ?_; dsimp only)); at_builtin; refine Kd.N_append_rows k29 (w0 := w) w.heap.size rfl (.tmp 37) (.tmp 38) 23 29 (.agg #[(.int .i64 0), (.int .i64 0), (.slice none 0 0)]) 40 rfl Try.underlying23 info29 rfl (by decide) (by omega) v689 y688 t680 _ _ _ (fun k_ => some k_ ≠ (.slice Ao9 t683.length co9 : Value).ownBlock) (fun k_ => ((fun k_ => some k_ ≠ (.slice Ao9 t683.length co9 : Value).ownBlock)) k_ ∧ some k_ ≠ (v689 : Value).ownBlock) rfl rfl ?aO ?aR (fun _ hk => hk) ?aF ?aB ?aS ?aL ?_; (case aR => exact (by skip; exact Kd.N_F (Kd.N_mono (ok' := (fun k_ => ((fun k_ => some k_ ≠ (.slice Ao9 t683.length co9 : Value).ownBlock)) k_ ∧ some k_ ≠ (v689 : Value).ownBlock)) (HO_3.out) (fun k_ hk => ⟨hk.1, hk.2⟩)))); (case aB => exact pB); (case aF => exact (fun k_ hk => Kd.fresh' (Kd.R_lt (pR HO_4)) k_ hk)); (case aO => exact (by (with_reducible repeat (first | apply Kd.N_alloc | apply Kd.N_drewN | apply Kd.N_drew)); exact Kd.N_mono HO690.out (fun _ hk => hk.2))); (case aS => exact (below_size pB)); (case aL => have := LMc15.out; omega); intro v692 w37 ho hb hg hat; rw [← Ny691.out] at ho; have n0_ := Aside0.mk (Kd.N_afterv (ok := (fun k_ => some k_ ≠ (.slice Ao9 t683.length co9 : Value).ownBlock)) F8.q0 hg hat); have n1_ := Aside0.mk (Kd.R_over' (pR HO_4) (Kd.N_typed (by (with_reducible repeat (first | apply Kd.N_alloc | apply Kd.N_drewN | apply Kd.N_drew)); exact HO690.out)) (by decide) hg); have n2_ := Aside0.mk (hb); have n3_ := Aside0.mk (ho); clear HO_3; clear HO_4; clear HB; clear HO690; have HO_3 := n0_; have HO_4 := n1_; have HB := n2_; have HO693 := n3_; clear n0_ n1_ n2_ n3_; clear ho hb hg hat; obtain ⟨Ao38, co38, eo38⟩ := Kd.N_slice HO693.out; subst eo38; have p694 : 0 ≤ (0 : Int) := (by omega); have q694 : 0 < (y691.length : Int) := of_decide_eq_true pA; obtain ⟨ad694, A694_2, c694_2, e694, hx694_0, hx694_1, hx694_2, hl694_2, hi694_2⟩ := at_T29 (Kd.N_reads' HO693.out).2.2 0 p694 q694; cases e694; obtain ⟨ce694, hce694, hMe694, hcc694⟩ := Kd.N_get HO693.out z29 0 p694 (by first | exact q694 | exact of_decide_eq_true pA | (have e_ := (Kd.N_reads' HO693.out).1; omega)); obtain ⟨ua694_2, uc694_2, rfl, ul694_2, ge694_2⟩ := k29_openF hMe694; have hv694_2 := hcc694 2 _ rfl; rw [add_field _ _ 2 (by omega)] at hv694_2; replace hv694_2 := Option.some.inj (hv694_2.symm.trans hx694_2); injection hv694_2 with hva_ hvn_ hvc_; rw [hva_] at ge694_2; rw [hvc_] at ul694_2; have HL694_2 := Aside0.mk (show Kd.V k55 55 _ w.heap.size _ _ ((rd_T29 y691 0).f2) from Kd.V_mk ul694_2 ge694_2); clear hva_ hvn_ hvc_ ge694_2 ul694_2; clear hcc694 hce694; have qi694 : (0 < y691.length) = True := eq_true (by omega); (try rw [show ((0 : Int)).toNat = 0 from rfl] at hx694_0); (try rw [show 0 * 3 = 0 from rfl] at hx694_0); (try rw [Addr.add_zero'] at hx694_0); (try rw [show ((0 : Int)).toNat = 0 from rfl] at hx694_1); (try rw [show 0 * 3 = 0 from rfl] at hx694_1); (try rw [Addr.add_zero'] at hx694_1); (try rw [show ((0 : Int)).toNat = 0 from rfl] at hx694_2); (try rw [show 0 * 3 = 0 from rfl] at hx694_2); (try rw [Addr.add_zero'] at hx694_2); have HR694_2 := Aside0.mk (hi694_2); have HC694_2 := Aside0.mk hl694_2; clear hi694_2 hl694_2; replace p694 := eq_true p694; replace q694 := eq_true q694) | ((with_reducible refine gate_dst (N := 46) rfl ?_); (try (refine gate_guard (by rfl) ?_; dsimp only)); refine Kd.R_lit k55 _ 55 ?hg (N := 46) ?hd (xs := ([(⟨0, (rd_T29 y691 0).f0, 1⟩ : S55)] : List (S55))) (inner := [.int .i64 0, .int .i64 ((rd_T29 y691 0).f0), .int .i64 1]) (ok := fun _ => True) (okp := fun _ => True) ?hr ?hp (fun _ hk => hk) trivial (Below.refl _ _) (Nat.le_refl _) (by simp) ?_; (case hd => rfl); (case hg => rfl); (case hr => first | (go_simp; done) | (go_simp; rfl)); (case hp => exact (Reps.c3 (show Kd.M k55 _ _ _ (⟨0, (rd_T29 y691 0).f0, 1⟩ : S55) [.int .i64 0, .int .i64 ((rd_T29 y691 0).f0), .int .i64 1] from (k55_mkM _ _ _ (⟨0, (rd_T29 y691 0).f0, 1⟩ : S55) )) (Reps.none _ _))); intro v696 w39 ho40 hb hg_ hnew_; clear hg_ hnew_; (first | rw [← Ny695.out] at ho40 | (simp only [Int.reduceToNat] at ho40; rw [← Ny695.out] at ho40)); have n0_ := Aside0.mk (Kd.N_elder' F8.q0 (Kd.R_base ho40) hb); have n1_ := Aside0.mk (Kd.R_below (pR HO_4) hb); have n2_ := Aside0.mk (Kd.N_elder' (by (with_reducible repeat (first | apply Kd.N_alloc | apply Kd.N_drewN | apply Kd.N_drew)); exact HO693.out) (Kd.R_base ho40) hb); have n3_ := Aside0.mk (Kd.V_elder' (by (with_reducible repeat (first | apply Kd.V_alloc | apply Kd.V_drewN | apply Kd.V_drew)); exact HL694_2.out) (Kd.R_base ho40) hb); have n4_ := Aside0.mk (Kd.R_lower ho40 (below_size pB)); have n5_ := Aside0.mk (Kd.C_below (by repeat (first | (with_reducible exact HR694_2.out) | (with_reducible refine Kd.C_alloc ?_ _) | (with_reducible refine Kd.C_drewN ?_ _) | (with_reducible refine Kd.C_drew ?_) | exact HR694_2.out)) hb); have n6_ := Aside0.mk (below_step pB hb); clear HO_3; clear HO_4; clear HO693; clear HL694_2; clear HR694_2; clear HB; have HO_3 := n0_; have HO_4 := n1_; have HO693 := n2_; have HL694_2 := n3_; have HO697 := n4_; have HR694_2 := n5_; have HB := n6_; clear n0_ n1_ n2_ n3_ n4_ n5_ n6_; clear hb ho40; obtain ⟨Aov696, cov696, eov696⟩ := Kd.R_slice HO697.out; subst eov696; have p17 : 0 ≤ (0 : Int) := (by omega); have q17 : (0 : Int) < ((y691.length : Int) : Int) := of_decide_eq_true pA; have qi17 : (0 < y691.length) = True := eq_true (by omega); obtain ⟨go17, co17, eo17, gb17, gl17, cl17, HG17⟩ := Kd.N_form HO693.out (by omega); (first | cases eo17 | (injection eo17 with ea_ en_ ec_; (first | subst ea_ | (injection ea_ with ea_; subst ea_)); subst ec_; clear en_)); have GB17 := Aside0.mk gb17; have GG17 := Aside0.mk HG17; clear gb17 gl17 HG17; (first | simp only [add_plain] at hx694_0 | skip); (first | simp only [add_plain] at hx694_1 | skip); (first | simp only [add_plain] at hx694_2 | skip); obtain ⟨ce17, hcl17, hM17, hcc17, hfr17⟩ := Kd.N_elem HO693.out z29 (0 : Int) p17 q17; obtain ⟨ua17_2, uc17_2, rfl, ul17_2, ge17_2⟩ := k29_openF hM17; have hx17_0 : w39.cell? ⟨go17, (0 : Int).toNat * 3, none⟩ = some (.int .i64 ((rd_T29 y691 0).f0)) := hcc17 0 _ rfl; have hx17_1 : w39.cell? ⟨go17, (0 : Int).toNat * 3 + 1, none⟩ = some (.int .i64 ((rd_T29 y691 0).f1)) := hcc17 1 _ rfl; have hx17_2 : w39.cell? ⟨go17, (0 : Int).toNat * 3 + 2, none⟩ = some (.slice ua17_2 ((rd_T29 y691 0).f2).length uc17_2) := hcc17 2 _ rfl; have hf17_0 : w39.frozen? ⟨go17, (0 : Int).toNat * 3, none⟩ = false := hfr17 0; have hf17_1 : w39.frozen? ⟨go17, (0 : Int).toNat * 3 + 1, none⟩ = false := hfr17 1; have hf17_2 : w39.frozen? ⟨go17, (0 : Int).toNat * 3 + 2, none⟩ = false := hfr17 2; clear hcl17 hcc17 hfr17 hM17; (try rw [show ((0 : Int)).toNat = 0 from rfl] at hx17_0); (try simp only [Nat.reduceMul, Nat.zero_mul, Nat.zero_add, Nat.reduceAdd] at hx17_0); (try rw [show ((0 : Int)).toNat = 0 from rfl] at hf17_0); (try simp only [Nat.reduceMul, Nat.zero_mul, Nat.zero_add, Nat.reduceAdd] at hf17_0); (try rw [show ((0 : Int)).toNat = 0 from rfl] at hx17_1); (try simp only [Nat.reduceMul, Nat.zero_mul, Nat.zero_add, Nat.reduceAdd] at hx17_1); (try rw [show ((0 : Int)).toNat = 0 from rfl] at hf17_1); (try simp only [Nat.reduceMul, Nat.zero_mul, Nat.zero_add, Nat.reduceAdd] at hf17_1); (try rw [show ((0 : Int)).toNat = 0 from rfl] at hx17_2); (try simp only [Nat.reduceMul, Nat.zero_mul, Nat.zero_add, Nat.reduceAdd] at hx17_2); (try rw [show ((0 : Int)).toNat = 0 from rfl] at hf17_2); (try simp only [Nat.reduceMul, Nat.zero_mul, Nat.zero_add, Nat.reduceAdd] at hf17_2); replace p17 := eq_true p17; replace q17 := eq_true q17; have HX41 := Aside0.mk (show Kd.N k29 29 w39 w.heap.size (fun k_ => some k_ ≠ (.slice Ao9 t683.length co9 : Value).ownBlock) (.slice (some ⟨go17, 0, none⟩) y691.length co38) y691 from (by (with_reducible repeat (first | apply Kd.N_alloc | apply Kd.N_drewN | apply Kd.N_drew)); exact Kd.N_mono HO693.out (fun _ hk => hk.1))); obtain ⟨ce41, hcl41, hM41, hcc41, hfr41⟩ := Kd.N_elem HX41.out z29 (0 : Int) (by omega) (by have h_ : (0 : Int) < ((y691.length : Int) : Int) := of_decide_eq_true pA; first | exact h_ | (have e_ := (Kd.N_reads' HO693.out).1; omega) | simpa using h_); obtain ⟨ua41_2, uc41_2, rfl, ul41_2, ge41_2⟩ := k29_openF hM41; have HP41 := Kd.N_seg HX41.out (0 : Int) (by omega) (by have h_ : (0 : Int) < ((y691.length : Int) : Int) := of_decide_eq_true pA; first | exact h_ | (have e_ := (Kd.N_reads' HO693.out).1; omega) | simpa using h_) (seg := [(.slice Aov696 y695.length cov696)]) (j := 2) hcl41 hcc41 (show 3 ≤ 3 from by decide) (x' := (⟨(rd_T29 y691 0).f0, (rd_T29 y691 0).f1, y695⟩ : S29)) (k29_mkF _ _ (⟨(rd_T29 y691 0).f0, (rd_T29 y691 0).f1, y695⟩ : S29) (Kd.R_reads' (Kd.R_mono (ok' := (fun k_ => ((fun k_ => some k_ ≠ (.slice Ao9 t683.length co9 : Value).ownBlock)) k_ ∧ k_ ≠ go17)) (Kd.R_apart' (Kd.R_apart' (HO697.out) (Kd.R_typed HO_4.out) (by decide)) (Kd.N_typed HO693.out) (by decide)) (fun k_ hk => ⟨hk.1.2, fun e_ => (hk.2) (by rw [e_]; rfl)⟩))).2.1 (Kd.R_F (Kd.R_mono (ok' := (fun k_ => ((fun k_ => some k_ ≠ (.slice Ao9 t683.length co9 : Value).ownBlock)) k_ ∧ k_ ≠ go17)) (Kd.R_apart' (Kd.R_apart' (HO697.out) (Kd.R_typed HO_4.out) (by decide)) (Kd.N_typed HO693.out) (by decide)) (fun k_ hk => ⟨hk.1.2, fun e_ => (hk.2) (by rw [e_]; rfl)⟩)))) (fun _ hk => hk); have hx41_2 := hcc41 2 _ rfl; (try simp only [show (k29).sz = 3 from rfl, Nat.mul_one, Nat.add_zero] at hx41_2); (try rw [show ((0 : Int)).toNat = 0 from rfl] at hx41_2); (try simp only [Nat.reduceMul, Nat.zero_mul, Nat.zero_add, Nat.reduceAdd] at hx41_2); have hf41_2 := hfr41 2; (try simp only [show (k29).sz = 3 from rfl, Nat.mul_one, Nat.add_zero] at hf41_2); (try rw [show ((0 : Int)).toNat = 0 from rfl] at hf41_2); (try simp only [Nat.reduceMul, Nat.zero_mul, Nat.zero_add, Nat.reduceAdd] at hf41_2); clear hcl41 hcc41 hfr41 hM41) | ((with_reducible refine gate_store (t := 27) (p := 48) rfl ?_); refine store_event (t := 27) (p := 48) (v := ?vo_w42) (w1 := (w39.setCell ⟨go17, 2, none⟩ ((.slice Aov696 y695.length cov696)))) ?hg ?ho ?hn ?hr ?_; (case ho => rfl); (case hg => rfl); (case hn => rfl); (case hr => first | (go_simp; done) | (go_simp; rfl)); intro w42 hw; have hg : w39.grownBy w42 (some go17) := (by rw [hw]; exact HP41.2); have hp_ : Kd.N k29 29 w42 w.heap.size (fun k_ => some k_ ≠ (.slice Ao9 t683.length co9 : Value).ownBlock) (.slice (some ⟨go17, 0, none⟩) y691.length co38) y698 := (by rw [hw, Ny698.out]; exact HP41.1); clear HP41; have n0_ := Aside0.mk (Kd.N_afterv (v := (.slice (some ⟨go17, 0, none⟩) y691.length co38)) (v1 := (.slice (some ⟨go17, 0, none⟩) y691.length co38)) (ok := (fun k_ => some k_ ≠ (.slice Ao9 t683.length co9 : Value).ownBlock ∧ some k_ ≠ ((.slice Aov696 y695.length cov696) : Value).ownBlock)) (by (with_reducible repeat (first | apply Kd.N_alloc | apply Kd.N_drewN | apply Kd.N_drew)); exact Kd.N_mono HO_3.out (fun _ hk => ⟨⟨hk.1.1, hk.2⟩, hk.1.2⟩)) hg (.inl rfl)); have n1_ := Aside0.mk (Kd.R_over' (v := (.slice (some ⟨go17, 0, none⟩) y691.length co38)) (pR HO_4) (Kd.N_typed HO693.out) (by decide) hg); have n2_ := Aside0.mk (hp_); have n3_ := Aside0.mk (Kd.V_afterv (v := (.slice (some ⟨go17, 0, none⟩) y691.length co38)) (v1 := (.slice (some ⟨go17, 0, none⟩) y691.length co38)) (ok := (fun k_ => some k_ ≠ (.slice Ao9 t683.length co9 : Value).ownBlock ∧ some k_ ≠ ((.slice Aov696 y695.length cov696) : Value).ownBlock)) (by (with_reducible repeat (first | apply Kd.V_alloc | apply Kd.V_drewN | apply Kd.V_drew)); exact Kd.V_mono HL694_2.out (fun _ hk => ⟨⟨hk.1.1, hk.2⟩, hk.1.2⟩)) hg (.inl rfl)); have n4_ := Aside0.mk ((by rw [hw]; exact below_set (HB.out) GB17.out : Below w.heap.size w w42)); clear HO_3; clear HO_4; clear HO693; clear HL694_2; clear HB; clear HO697; have HO_3 := n0_; have HO_4 := n1_; have HO693 := n2_; have HL694_2 := n3_; have HB := n4_; clear n0_ n1_ n2_ n3_ n4_; clear hg hw hp_; have q43 : ((ji18) : Int) ≤ ((t680.length : Int) : Int) := of_decide_eq_true pA; obtain ⟨i043, hi043, _, hsz43, _⟩ := info_parts info29; have hroom43 : t680.length ≤ co8 := (Kd.N_reads' HO_3.out).2.1; have hC43 : Kd.F k29 _ _ Ao8 t680.length t680 := (Kd.V_at (base := w.heap.size) (Kd.N_V HO_3.out)).2.2; have hcut43 := cut_to (P := Try.prog) 23 29 .i64 Try.underlying23 hi043 Ao8 t680.length co8 (ji18) (of_decide_eq_true pA) q43 hroom43; have hr43 := Kd.F_take (m := ((ji18) : Int).toNat) hC43 (by omega); have hy43 : y699.length = ((ji18) : Int).toNat := (by rw [Ny699.out, List.length_take]; omega); rw [← Ny699.out] at hr43; rw [← hy43] at hcut43; have HO703 := Aside0.mk (show Kd.V k29 29 _ w.heap.size _ (.slice Ao8 y699.length co8) y699 from Kd.V_mk (by omega) hr43); have HC703 := Aside0.mk (show y699.length ≤ co8 from by omega); clear hr43 hC43 hroom43 hi043 hsz43; have KY43 := Aside0.mk hy43; clear hy43; replace q43 := eq_true q43) | ((with_reducible refine gate_callee (f := 40) rfl ?_); refine goesL_ (some 55) rfl rfl Try.func40 pL rfl #[.slice Ao8 y699.length co8, .slice Ao9 t683.length co9] rfl pM ?_; (with_reducible refine (impl_DishesValid.calls kj5 _ _ y699 _ _ t683 false _ ?side1 ?side2 ?side3 ?side4 A21.out).mono ?_); (case side1 => exact pS ((Kd.V_reads' HO703.out).2.2)); (case side2 => exact (Kd.V_reads' HO703.out).2.1); (case side3 => exact pS ((Kd.R_reads' HO_4.out).2.2)); (case side4 => exact (Kd.R_reads' HO_4.out).2.1); rintro e w44 ⟨rfl, hb⟩; refine ⟨_, rfl, ?_⟩; have n0_ := Aside0.mk (Kd.N_below F8.q0 hb); have n1_ := Aside0.mk (Kd.R_below (pR HO_4) hb); have n2_ := Aside0.mk (Kd.N_below (by (with_reducible repeat (first | apply Kd.N_alloc | apply Kd.N_drewN | apply Kd.N_drew)); exact HO693.out) hb); have n3_ := Aside0.mk (Kd.V_below (by (with_reducible repeat (first | apply Kd.V_alloc | apply Kd.V_drewN | apply Kd.V_drew)); exact HL694_2.out) hb); have n4_ := Aside0.mk (Kd.V_below (by (with_reducible repeat (first | apply Kd.V_alloc | apply Kd.V_drewN | apply Kd.V_drew)); exact HO703.out) hb); have n5_ := Aside0.mk (below_step pB hb); clear HO_3; clear HO_4; clear HO693; clear HL694_2; clear HO703; clear HB; have HO_3 := n0_; have HO_4 := n1_; have HO693 := n2_; have HL694_2 := n3_; have HO703 := n4_; have HB := n5_; clear n0_ n1_ n2_ n3_ n4_ n5_; (try clear hb); (try clear hb2); (try clear hk); (try clear hi)))
    go_ret
    exact ⟨by first | rfl | (simp [errW_none, errW_some] <;> rfl) | (simp only [← hji18]; first | rfl | (simp [errW_none, errW_some] <;> rfl)) | (simp [*, errW_none, errW_some] <;> rfl), pB⟩
   subst c22
   have H1 : ((impl_DishesValid.f kj5 y698 t683).bind fun t705 => (some (!t705))) = some r := by rw [if_pos rfl] at H; exact H
   clear H
   have H := H1
   clear H1
   replace H := Option.bind_eq_some_iff.mp H
   obtain ⟨t705, A230, H⟩ := H
   replace H : (some (!t705)) = some r := H
   have A23 := Aside0.mk A230
   clear A230
   obtain rfl := Option.some.inj H
   go_wp2_with (first | ((with_reducible refine gate_dst (N := 37) rfl ?_); (try (refine gate_guard (by rfl) ?_; dsimp only)); refine Kd.N_lit k29 _ 29 ?hg (N' := 37) ?hd (xs := ([] : List (S29))) (inner := []) (ok := (fun k_ => some k_ ≠ (.slice Ao8 t680.length co8 : Value).ownBlock ∧ some k_ ≠ (.slice Ao9 t683.length co9 : Value).ownBlock)) (okp := (fun k_ => some k_ ≠ (.slice Ao8 t680.length co8 : Value).ownBlock ∧ some k_ ≠ (.slice Ao9 t683.length co9 : Value).ownBlock)) ?hr ?hp (fun _ hk => hk) ((show ∀ k_, wc.heap.size ≤ k_ → (fun k_ => some k_ ≠ (.slice Ao8 t680.length co8 : Value).ownBlock ∧ some k_ ≠ (.slice Ao9 t683.length co9 : Value).ownBlock) k_ from fun k_ hk => ⟨Kd.fresh' (Kd.N_lt F8.q0) k_ hk, Kd.fresh' (Kd.R_lt (pR HO_4)) k_ hk⟩) _ (Nat.le_refl _)) (Below.refl _ _) (Nat.le_refl _) (by simp) ?_; (case hd => rfl); (case hg => rfl); (case hr => first | (go_simp; done) | (go_simp; rfl)); (case hp => exact (Reps.none _ _)); intro v689 w24 ho25 hb hg_ hnew_; clear hg_ hnew_; (first | rw [← Ny688.out] at ho25 | (simp only [Int.reduceToNat] at ho25; rw [← Ny688.out] at ho25)); have n0_ := Aside0.mk (Kd.N_elder' F8.q0 (Kd.N_base ho25) hb); have n1_ := Aside0.mk (Kd.R_below (pR HO_4) hb); have n2_ := Aside0.mk (Kd.N_lower ho25 (below_size pB)); have n3_ := Aside0.mk (below_step pB hb); clear HO_3; clear HO_4; clear HB; have HO_3 := n0_; have HO_4 := n1_; have HO690 := n2_; have HB := n3_; clear n0_ n1_ n2_ n3_; clear hb ho25) | ((with_reducible refine gate_builtin (b := .append) (xs := #[.tmp 37, .tmp 38]) rfl ?_); (try (refine gate_guard (by rfl) ?_; dsimp only)); at_builtin; refine Kd.N_append_rows k29 (w0 := w) w.heap.size rfl (.tmp 37) (.tmp 38) 23 29 (.agg #[(.int .i64 0), (.int .i64 0), (.slice none 0 0)]) 40 rfl Try.underlying23 info29 rfl (by decide) (by omega) v689 y688 t680 _ _ _ (fun k_ => some k_ ≠ (.slice Ao9 t683.length co9 : Value).ownBlock) (fun k_ => ((fun k_ => some k_ ≠ (.slice Ao9 t683.length co9 : Value).ownBlock)) k_ ∧ some k_ ≠ (v689 : Value).ownBlock) rfl rfl ?aO ?aR (fun _ hk => hk) ?aF ?aB ?aS ?aL ?_; (case aR => exact (by skip; exact Kd.N_F (Kd.N_mono (ok' := (fun k_ => ((fun k_ => some k_ ≠ (.slice Ao9 t683.length co9 : Value).ownBlock)) k_ ∧ some k_ ≠ (v689 : Value).ownBlock)) (HO_3.out) (fun k_ hk => ⟨hk.1, hk.2⟩)))); (case aB => exact pB); (case aF => exact (fun k_ hk => Kd.fresh' (Kd.R_lt (pR HO_4)) k_ hk)); (case aO => exact (by (with_reducible repeat (first | apply Kd.N_alloc | apply Kd.N_drewN | apply Kd.N_drew)); exact Kd.N_mono HO690.out (fun _ hk => hk.2))); (case aS => exact (below_size pB)); (case aL => have := LMc15.out; omega); intro v692 w26 ho hb hg hat; rw [← Ny691.out] at ho; have n0_ := Aside0.mk (Kd.N_afterv (ok := (fun k_ => some k_ ≠ (.slice Ao9 t683.length co9 : Value).ownBlock)) F8.q0 hg hat); have n1_ := Aside0.mk (Kd.R_over' (pR HO_4) (Kd.N_typed (by (with_reducible repeat (first | apply Kd.N_alloc | apply Kd.N_drewN | apply Kd.N_drew)); exact HO690.out)) (by decide) hg); have n2_ := Aside0.mk (hb); have n3_ := Aside0.mk (ho); clear HO_3; clear HO_4; clear HB; clear HO690; have HO_3 := n0_; have HO_4 := n1_; have HB := n2_; have HO693 := n3_; clear n0_ n1_ n2_ n3_; clear ho hb hg hat; obtain ⟨Ao27, co27, eo27⟩ := Kd.N_slice HO693.out; subst eo27; have p694 : 0 ≤ (0 : Int) := (by omega); have q694 : 0 < (y691.length : Int) := of_decide_eq_true pA; obtain ⟨ad694, A694_2, c694_2, e694, hx694_0, hx694_1, hx694_2, hl694_2, hi694_2⟩ := at_T29 (Kd.N_reads' HO693.out).2.2 0 p694 q694; cases e694; obtain ⟨ce694, hce694, hMe694, hcc694⟩ := Kd.N_get HO693.out z29 0 p694 (by first | exact q694 | exact of_decide_eq_true pA | (have e_ := (Kd.N_reads' HO693.out).1; omega)); obtain ⟨ua694_2, uc694_2, rfl, ul694_2, ge694_2⟩ := k29_openF hMe694; have hv694_2 := hcc694 2 _ rfl; rw [add_field _ _ 2 (by omega)] at hv694_2; replace hv694_2 := Option.some.inj (hv694_2.symm.trans hx694_2); injection hv694_2 with hva_ hvn_ hvc_; rw [hva_] at ge694_2; rw [hvc_] at ul694_2; have HL694_2 := Aside0.mk (show Kd.V k55 55 _ w.heap.size _ _ ((rd_T29 y691 0).f2) from Kd.V_mk ul694_2 ge694_2); clear hva_ hvn_ hvc_ ge694_2 ul694_2; clear hcc694 hce694; have qi694 : (0 < y691.length) = True := eq_true (by omega); (try rw [show ((0 : Int)).toNat = 0 from rfl] at hx694_0); (try rw [show 0 * 3 = 0 from rfl] at hx694_0); (try rw [Addr.add_zero'] at hx694_0); (try rw [show ((0 : Int)).toNat = 0 from rfl] at hx694_1); (try rw [show 0 * 3 = 0 from rfl] at hx694_1); (try rw [Addr.add_zero'] at hx694_1); (try rw [show ((0 : Int)).toNat = 0 from rfl] at hx694_2); (try rw [show 0 * 3 = 0 from rfl] at hx694_2); (try rw [Addr.add_zero'] at hx694_2); have HR694_2 := Aside0.mk (hi694_2); have HC694_2 := Aside0.mk hl694_2; clear hi694_2 hl694_2; replace p694 := eq_true p694; replace q694 := eq_true q694) | ((with_reducible refine gate_dst (N := 46) rfl ?_); (try (refine gate_guard (by rfl) ?_; dsimp only)); refine Kd.R_lit k55 _ 55 ?hg (N := 46) ?hd (xs := ([(⟨0, (rd_T29 y691 0).f0, 1⟩ : S55)] : List (S55))) (inner := [.int .i64 0, .int .i64 ((rd_T29 y691 0).f0), .int .i64 1]) (ok := fun _ => True) (okp := fun _ => True) ?hr ?hp (fun _ hk => hk) trivial (Below.refl _ _) (Nat.le_refl _) (by simp) ?_; (case hd => rfl); (case hg => rfl); (case hr => first | (go_simp; done) | (go_simp; rfl)); (case hp => exact (Reps.c3 (show Kd.M k55 _ _ _ (⟨0, (rd_T29 y691 0).f0, 1⟩ : S55) [.int .i64 0, .int .i64 ((rd_T29 y691 0).f0), .int .i64 1] from (k55_mkM _ _ _ (⟨0, (rd_T29 y691 0).f0, 1⟩ : S55) )) (Reps.none _ _))); intro v696 w28 ho29 hb hg_ hnew_; clear hg_ hnew_; (first | rw [← Ny695.out] at ho29 | (simp only [Int.reduceToNat] at ho29; rw [← Ny695.out] at ho29)); have n0_ := Aside0.mk (Kd.N_elder' F8.q0 (Kd.R_base ho29) hb); have n1_ := Aside0.mk (Kd.R_below (pR HO_4) hb); have n2_ := Aside0.mk (Kd.N_elder' (by (with_reducible repeat (first | apply Kd.N_alloc | apply Kd.N_drewN | apply Kd.N_drew)); exact HO693.out) (Kd.R_base ho29) hb); have n3_ := Aside0.mk (Kd.V_elder' (by (with_reducible repeat (first | apply Kd.V_alloc | apply Kd.V_drewN | apply Kd.V_drew)); exact HL694_2.out) (Kd.R_base ho29) hb); have n4_ := Aside0.mk (Kd.R_lower ho29 (below_size pB)); have n5_ := Aside0.mk (Kd.C_below (by repeat (first | (with_reducible exact HR694_2.out) | (with_reducible refine Kd.C_alloc ?_ _) | (with_reducible refine Kd.C_drewN ?_ _) | (with_reducible refine Kd.C_drew ?_) | exact HR694_2.out)) hb); have n6_ := Aside0.mk (below_step pB hb); clear HO_3; clear HO_4; clear HO693; clear HL694_2; clear HR694_2; clear HB; have HO_3 := n0_; have HO_4 := n1_; have HO693 := n2_; have HL694_2 := n3_; have HO697 := n4_; have HR694_2 := n5_; have HB := n6_; clear n0_ n1_ n2_ n3_ n4_ n5_ n6_; clear hb ho29; obtain ⟨Aov696, cov696, eov696⟩ := Kd.R_slice HO697.out; subst eov696; have p17 : 0 ≤ (0 : Int) := (by omega); have q17 : (0 : Int) < ((y691.length : Int) : Int) := of_decide_eq_true pA; have qi17 : (0 < y691.length) = True := eq_true (by omega); obtain ⟨go17, co17, eo17, gb17, gl17, cl17, HG17⟩ := Kd.N_form HO693.out (by omega); (first | cases eo17 | (injection eo17 with ea_ en_ ec_; (first | subst ea_ | (injection ea_ with ea_; subst ea_)); subst ec_; clear en_)); have GB17 := Aside0.mk gb17; have GG17 := Aside0.mk HG17; clear gb17 gl17 HG17; (first | simp only [add_plain] at hx694_0 | skip); (first | simp only [add_plain] at hx694_1 | skip); (first | simp only [add_plain] at hx694_2 | skip); obtain ⟨ce17, hcl17, hM17, hcc17, hfr17⟩ := Kd.N_elem HO693.out z29 (0 : Int) p17 q17; obtain ⟨ua17_2, uc17_2, rfl, ul17_2, ge17_2⟩ := k29_openF hM17; have hx17_0 : w28.cell? ⟨go17, (0 : Int).toNat * 3, none⟩ = some (.int .i64 ((rd_T29 y691 0).f0)) := hcc17 0 _ rfl; have hx17_1 : w28.cell? ⟨go17, (0 : Int).toNat * 3 + 1, none⟩ = some (.int .i64 ((rd_T29 y691 0).f1)) := hcc17 1 _ rfl; have hx17_2 : w28.cell? ⟨go17, (0 : Int).toNat * 3 + 2, none⟩ = some (.slice ua17_2 ((rd_T29 y691 0).f2).length uc17_2) := hcc17 2 _ rfl; have hf17_0 : w28.frozen? ⟨go17, (0 : Int).toNat * 3, none⟩ = false := hfr17 0; have hf17_1 : w28.frozen? ⟨go17, (0 : Int).toNat * 3 + 1, none⟩ = false := hfr17 1; have hf17_2 : w28.frozen? ⟨go17, (0 : Int).toNat * 3 + 2, none⟩ = false := hfr17 2; clear hcl17 hcc17 hfr17 hM17; (try rw [show ((0 : Int)).toNat = 0 from rfl] at hx17_0); (try simp only [Nat.reduceMul, Nat.zero_mul, Nat.zero_add, Nat.reduceAdd] at hx17_0); (try rw [show ((0 : Int)).toNat = 0 from rfl] at hf17_0); (try simp only [Nat.reduceMul, Nat.zero_mul, Nat.zero_add, Nat.reduceAdd] at hf17_0); (try rw [show ((0 : Int)).toNat = 0 from rfl] at hx17_1); (try simp only [Nat.reduceMul, Nat.zero_mul, Nat.zero_add, Nat.reduceAdd] at hx17_1); (try rw [show ((0 : Int)).toNat = 0 from rfl] at hf17_1); (try simp only [Nat.reduceMul, Nat.zero_mul, Nat.zero_add, Nat.reduceAdd] at hf17_1); (try rw [show ((0 : Int)).toNat = 0 from rfl] at hx17_2); (try simp only [Nat.reduceMul, Nat.zero_mul, Nat.zero_add, Nat.reduceAdd] at hx17_2); (try rw [show ((0 : Int)).toNat = 0 from rfl] at hf17_2); (try simp only [Nat.reduceMul, Nat.zero_mul, Nat.zero_add, Nat.reduceAdd] at hf17_2); replace p17 := eq_true p17; replace q17 := eq_true q17; have HX30 := Aside0.mk (show Kd.N k29 29 w28 w.heap.size (fun k_ => some k_ ≠ (.slice Ao9 t683.length co9 : Value).ownBlock) (.slice (some ⟨go17, 0, none⟩) y691.length co27) y691 from (by (with_reducible repeat (first | apply Kd.N_alloc | apply Kd.N_drewN | apply Kd.N_drew)); exact Kd.N_mono HO693.out (fun _ hk => hk.1))); obtain ⟨ce30, hcl30, hM30, hcc30, hfr30⟩ := Kd.N_elem HX30.out z29 (0 : Int) (by omega) (by have h_ : (0 : Int) < ((y691.length : Int) : Int) := of_decide_eq_true pA; first | exact h_ | (have e_ := (Kd.N_reads' HO693.out).1; omega) | simpa using h_); obtain ⟨ua30_2, uc30_2, rfl, ul30_2, ge30_2⟩ := k29_openF hM30; have HP30 := Kd.N_seg HX30.out (0 : Int) (by omega) (by have h_ : (0 : Int) < ((y691.length : Int) : Int) := of_decide_eq_true pA; first | exact h_ | (have e_ := (Kd.N_reads' HO693.out).1; omega) | simpa using h_) (seg := [(.slice Aov696 y695.length cov696)]) (j := 2) hcl30 hcc30 (show 3 ≤ 3 from by decide) (x' := (⟨(rd_T29 y691 0).f0, (rd_T29 y691 0).f1, y695⟩ : S29)) (k29_mkF _ _ (⟨(rd_T29 y691 0).f0, (rd_T29 y691 0).f1, y695⟩ : S29) (Kd.R_reads' (Kd.R_mono (ok' := (fun k_ => ((fun k_ => some k_ ≠ (.slice Ao9 t683.length co9 : Value).ownBlock)) k_ ∧ k_ ≠ go17)) (Kd.R_apart' (Kd.R_apart' (HO697.out) (Kd.R_typed HO_4.out) (by decide)) (Kd.N_typed HO693.out) (by decide)) (fun k_ hk => ⟨hk.1.2, fun e_ => (hk.2) (by rw [e_]; rfl)⟩))).2.1 (Kd.R_F (Kd.R_mono (ok' := (fun k_ => ((fun k_ => some k_ ≠ (.slice Ao9 t683.length co9 : Value).ownBlock)) k_ ∧ k_ ≠ go17)) (Kd.R_apart' (Kd.R_apart' (HO697.out) (Kd.R_typed HO_4.out) (by decide)) (Kd.N_typed HO693.out) (by decide)) (fun k_ hk => ⟨hk.1.2, fun e_ => (hk.2) (by rw [e_]; rfl)⟩)))) (fun _ hk => hk); have hx30_2 := hcc30 2 _ rfl; (try simp only [show (k29).sz = 3 from rfl, Nat.mul_one, Nat.add_zero] at hx30_2); (try rw [show ((0 : Int)).toNat = 0 from rfl] at hx30_2); (try simp only [Nat.reduceMul, Nat.zero_mul, Nat.zero_add, Nat.reduceAdd] at hx30_2); have hf30_2 := hfr30 2; (try simp only [show (k29).sz = 3 from rfl, Nat.mul_one, Nat.add_zero] at hf30_2); (try rw [show ((0 : Int)).toNat = 0 from rfl] at hf30_2); (try simp only [Nat.reduceMul, Nat.zero_mul, Nat.zero_add, Nat.reduceAdd] at hf30_2); clear hcl30 hcc30 hfr30 hM30) | ((with_reducible refine gate_store (t := 27) (p := 48) rfl ?_); refine store_event (t := 27) (p := 48) (v := ?vo_w31) (w1 := (w28.setCell ⟨go17, 2, none⟩ ((.slice Aov696 y695.length cov696)))) ?hg ?ho ?hn ?hr ?_; (case ho => rfl); (case hg => rfl); (case hn => rfl); (case hr => first | (go_simp; done) | (go_simp; rfl)); intro w31 hw; have hg : w28.grownBy w31 (some go17) := (by rw [hw]; exact HP30.2); have hp_ : Kd.N k29 29 w31 w.heap.size (fun k_ => some k_ ≠ (.slice Ao9 t683.length co9 : Value).ownBlock) (.slice (some ⟨go17, 0, none⟩) y691.length co27) y698 := (by rw [hw, Ny698.out]; exact HP30.1); clear HP30; have n0_ := Aside0.mk (Kd.N_afterv (v := (.slice (some ⟨go17, 0, none⟩) y691.length co27)) (v1 := (.slice (some ⟨go17, 0, none⟩) y691.length co27)) (ok := (fun k_ => some k_ ≠ (.slice Ao9 t683.length co9 : Value).ownBlock ∧ some k_ ≠ ((.slice Aov696 y695.length cov696) : Value).ownBlock)) (by (with_reducible repeat (first | apply Kd.N_alloc | apply Kd.N_drewN | apply Kd.N_drew)); exact Kd.N_mono HO_3.out (fun _ hk => ⟨⟨hk.1.1, hk.2⟩, hk.1.2⟩)) hg (.inl rfl)); have n1_ := Aside0.mk (Kd.R_over' (v := (.slice (some ⟨go17, 0, none⟩) y691.length co27)) (pR HO_4) (Kd.N_typed HO693.out) (by decide) hg); have n2_ := Aside0.mk (hp_); have n3_ := Aside0.mk (Kd.V_afterv (v := (.slice (some ⟨go17, 0, none⟩) y691.length co27)) (v1 := (.slice (some ⟨go17, 0, none⟩) y691.length co27)) (ok := (fun k_ => some k_ ≠ (.slice Ao9 t683.length co9 : Value).ownBlock ∧ some k_ ≠ ((.slice Aov696 y695.length cov696) : Value).ownBlock)) (by (with_reducible repeat (first | apply Kd.V_alloc | apply Kd.V_drewN | apply Kd.V_drew)); exact Kd.V_mono HL694_2.out (fun _ hk => ⟨⟨hk.1.1, hk.2⟩, hk.1.2⟩)) hg (.inl rfl)); have n4_ := Aside0.mk ((by rw [hw]; exact below_set (HB.out) GB17.out : Below w.heap.size w w31)); clear HO_3; clear HO_4; clear HO693; clear HL694_2; clear HB; clear HO697; have HO_3 := n0_; have HO_4 := n1_; have HO693 := n2_; have HL694_2 := n3_; have HB := n4_; clear n0_ n1_ n2_ n3_ n4_; clear hg hw hp_; have q32 : ((ji18) : Int) ≤ ((t680.length : Int) : Int) := of_decide_eq_true pA; obtain ⟨i032, hi032, _, hsz32, _⟩ := info_parts info29; have hroom32 : t680.length ≤ co8 := (Kd.N_reads' HO_3.out).2.1; have hC32 : Kd.F k29 _ _ Ao8 t680.length t680 := (Kd.V_at (base := w.heap.size) (Kd.N_V HO_3.out)).2.2; have hcut32 := cut_to (P := Try.prog) 23 29 .i64 Try.underlying23 hi032 Ao8 t680.length co8 (ji18) (of_decide_eq_true pA) q32 hroom32; have hr32 := Kd.F_take (m := ((ji18) : Int).toNat) hC32 (by omega); have hy32 : y699.length = ((ji18) : Int).toNat := (by rw [Ny699.out, List.length_take]; omega); rw [← Ny699.out] at hr32; rw [← hy32] at hcut32; have HO703 := Aside0.mk (show Kd.V k29 29 _ w.heap.size _ (.slice Ao8 y699.length co8) y699 from Kd.V_mk (by omega) hr32); have HC703 := Aside0.mk (show y699.length ≤ co8 from by omega); clear hr32 hC32 hroom32 hi032 hsz32; have KY32 := Aside0.mk hy32; clear hy32; replace q32 := eq_true q32) | ((with_reducible refine gate_callee (f := 40) rfl ?_); refine goesL_ (some 55) rfl rfl Try.func40 pL rfl #[.slice Ao8 y699.length co8, .slice Ao9 t683.length co9] rfl pM ?_; (with_reducible refine (impl_DishesValid.calls kj5 _ _ y699 _ _ t683 true _ ?side1 ?side2 ?side3 ?side4 A21.out).mono ?_); (case side1 => exact pS ((Kd.V_reads' HO703.out).2.2)); (case side2 => exact (Kd.V_reads' HO703.out).2.1); (case side3 => exact pS ((Kd.R_reads' HO_4.out).2.2)); (case side4 => exact (Kd.R_reads' HO_4.out).2.1); rintro e w33 ⟨rfl, hb⟩; refine ⟨_, rfl, ?_⟩; have n0_ := Aside0.mk (Kd.N_below F8.q0 hb); have n1_ := Aside0.mk (Kd.R_below (pR HO_4) hb); have n2_ := Aside0.mk (Kd.N_below (by (with_reducible repeat (first | apply Kd.N_alloc | apply Kd.N_drewN | apply Kd.N_drew)); exact HO693.out) hb); have n3_ := Aside0.mk (Kd.V_below (by (with_reducible repeat (first | apply Kd.V_alloc | apply Kd.V_drewN | apply Kd.V_drew)); exact HL694_2.out) hb); have n4_ := Aside0.mk (Kd.V_below (by (with_reducible repeat (first | apply Kd.V_alloc | apply Kd.V_drewN | apply Kd.V_drew)); exact HO703.out) hb); have n5_ := Aside0.mk (below_step pB hb); clear HO_3; clear HO_4; clear HO693; clear HL694_2; clear HO703; clear HB; have HO_3 := n0_; have HO_4 := n1_; have HO693 := n2_; have HL694_2 := n3_; have HO703 := n4_; have HB := n5_; clear n0_ n1_ n2_ n3_ n4_ n5_; (try clear hb); (try clear hb2); (try clear hk); (try clear hi)) | (go_at_call 40; refine calls_of_args (args' := #[.slice (some ⟨go17, 0, none⟩) y698.length co27, .slice Ao9 t683.length co9]) (by first | (rw [show y698.length = y691.length from (Kd.N_reads' HO693.out).1.symm] <;> rfl) | rfl) ?_; (with_reducible refine (impl_DishesValid.calls kj5 _ _ y698 _ _ t683 t705 _ ?side1 ?side2 ?side3 ?side4 A23.out).mono ?_); (case side1 => exact pS ((Kd.N_reads' HO693.out).2.2)); (case side2 => rw [show y698.length = y691.length from (Kd.N_reads' HO693.out).1.symm]; exact (Kd.N_reads' HO693.out).2.1); (case side3 => exact pS ((Kd.R_reads' HO_4.out).2.2)); (case side4 => exact (Kd.R_reads' HO_4.out).2.1); rintro e w34 ⟨rfl, hb⟩; have n0_ := Aside0.mk (Kd.N_below F8.q0 hb); have n1_ := Aside0.mk (Kd.R_below (pR HO_4) hb); have n2_ := Aside0.mk (Kd.N_below (by (with_reducible repeat (first | apply Kd.N_alloc | apply Kd.N_drewN | apply Kd.N_drew)); exact HO693.out) hb); have n3_ := Aside0.mk (Kd.V_below (by (with_reducible repeat (first | apply Kd.V_alloc | apply Kd.V_drewN | apply Kd.V_drew)); exact HL694_2.out) hb); have n4_ := Aside0.mk (Kd.V_below (by (with_reducible repeat (first | apply Kd.V_alloc | apply Kd.V_drewN | apply Kd.V_drew)); exact HO703.out) hb); have n5_ := Aside0.mk (below_step pB hb); clear HO_3; clear HO_4; clear HO693; clear HL694_2; clear HO703; clear HB; have HO_3 := n0_; have HO_4 := n1_; have HO693 := n2_; have HL694_2 := n3_; have HO703 := n4_; have HB := n5_; clear n0_ n1_ n2_ n3_ n4_ n5_; (try clear hb); (try clear hb2); (try clear hk); (try clear hi)))
   go_ret
   exact ⟨by first | rfl | (simp [errW_none, errW_some] <;> rfl) | (simp only [← hji18]; first | rfl | (simp [errW_none, errW_some] <;> rfl)) | (simp [*, errW_none, errW_some] <;> rfl), pB⟩
/-- THE ONE PURE STATEMENT of laws_FnDishesPart: yours. -/
def laws_FnDishesPart.Pure : Prop := ∀ (l0 : List Int), l0.length ≤ maxLen → l0.length * 1 ≤ 140737488351232 → (∀ x ∈ l0, (Lit.int .u8 x).wf = true) → ∃ k, laws_FnDishesPart.f k l0 = some true
theorem laws_FnDishesPart.walk (P : laws_FnDishesPart.Pure) (a0 : Option Addr) (len0 cap0 : Nat) (z0 : List Int) (w : World) (w0 : (a0 = none ∧ len0 = 0 ∧ cap0 = 0 ∧ z0 = []) ∨ ∃ x, a0 = some x ∧ len0 ≤ cap0 ∧ cap0 ≤ maxLen ∧ z0.length = cap0 ∧ (∀ i, i < z0.length → w.cell? (x.add i) = some (.int .u8 (z0.getD i 0))) ∧ ∀ n ∈ z0, (Lit.int .u8 n).wf = true) (y0 : len0 * 1 ≤ 140737488351232) :
  Calls Try.prog 8 #[.slice a0 len0 cap0] w fun e w' => e = .returned (.bool true) ∧ Below w.heap.size w w' := by
 obtain ⟨l0, rfl, hr0, hm0, hw0, hc0⟩ := ReadsInt.ofRowC w0
 obtain ⟨k, h⟩ := P l0 hm0 y0 hw0
 refine (laws_FnDishesPart.calls k _ _ l0 true w (Kd.C_of_reads (d := (0 : Int)) (h1 := fun _ => rfl) hr0) hc0 h).mono ?_
 rintro e w' ⟨rfl, hd⟩
 exact ⟨rfl, hd⟩

end Go.Proofs.Ytclldijjbmnkeaa.Q
