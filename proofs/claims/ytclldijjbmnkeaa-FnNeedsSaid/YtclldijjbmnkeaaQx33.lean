-- Written by the kit's print.py for all laws of the seat at once (one namespace), by a program of this session.
import Derived.Test.YtclldijjbmnkeaaQx0
import Derived.Test.YtclldijjbmnkeaaQx5
import Derived.Test.YtclldijjbmnkeaaQx21
import Derived.Test.YtclldijjbmnkeaaQx22
import Derived.Test.YtclldijjbmnkeaaQx29
import Derived.Test.YtclldijjbmnkeaaQx32
namespace Go.Proofs.Ytclldijjbmnkeaa.Q
open Go.RowKit Go.Proofs.YtclldijjbmnkeaaW.PrintWords Go.Proofs.YtclldijjbmnkeaaW.PrintLast Go.Proofs.YtclldijjbmnkeaaW.PrintMore
attribute [local go_sem] max2_int min2_int max_two min_two max_three min_three max_four min_four   -- for this text's walks alone
set_option linter.unusedVariables false
set_option linter.unusedSimpArgs false

/-! ### laws_FnNeeds: function 12 -/
mutual
def laws_FnNeeds.j0 : Nat → List (S29) → List (S63) → Int → Int → List Int → Bool → List Int → Bool → Bool → Option (Bool)
 | 0, _, _, _, _, _, _, _, _, _ => none
 | k + 1, x3, x4, x5, x6, x7, x8, x9, x10, x53 => if x53 = true then (if (x8 == x10) = true then ((laws_sameInts.f k x7 x9).bind fun t848 => (some t848)) else (some false)) else ((impl_DishesFind.f x3 x5).bind fun t849 => (if 0 ≤ t849 then (if t849 < (x3.length : Int) then (laws_FnNeeds.l0 k x4 x6 x7 0 ((rd_T29 x3 t849).f0) ((rd_T29 x3 t849).f1) ((rd_T29 x3 t849).f2)) else (none)) else (none)))
def laws_FnNeeds.l0 : Nat → List (S63) → Int → List Int → Int → Int → Int → List (S55) → Option (Bool)
 | 0, _, _, _, _, _, _, _ => none
 | k + 1, x4, x6, x7, x12, x852000, x852001, x852002 => if x12 < (x4.length : Int) then (laws_FnNeeds.l1 k x4 x6 x7 x12 0 0 x852000 x852001 x852002) else (some ((x7.length : Int) == (x4.length : Int)))
def laws_FnNeeds.l1 : Nat → List (S63) → Int → List Int → Int → Int → Int → Int → Int → List (S55) → Option (Bool)
 | 0, _, _, _, _, _, _, _, _, _ => none
 | k + 1, x4, x6, x7, x12, x13, x14, x852000, x852001, x852002 => if x14 < (x852002.length : Int) then (if 0 ≤ x14 then (if ((rd_T55 x852002 x14).f1) > 0 then (some true) else (if 0 ≤ x12 then (if x12 < (x4.length : Int) then (if ((rd_T55 x852002 x14).f0) = ((rd_T63 x4 x12).f0) then (laws_FnNeeds.l1 k x4 x6 x7 x12 (wrap64 (x13 + ((rd_T55 x852002 x14).f2))) (wrap64 (x14 + 1)) x852000 x852001 x852002) else (laws_FnNeeds.l1 k x4 x6 x7 x12 x13 (wrap64 (x14 + 1)) x852000 x852001 x852002)) else (none)) else (none))) else (none)) else (if 0 ≤ x12 then (if x12 < (x7.length : Int) then (if (wrap64 ((rd x7 x12) * x852001)) < (wrap64 (x13 * x6)) then (some false) else (if (wrap64 ((wrap64 ((rd x7 x12) - 1)) * x852001)) ≥ (wrap64 (x13 * x6)) then (some false) else (laws_FnNeeds.l0 k x4 x6 x7 (wrap64 (x12 + 1)) x852000 x852001 x852002))) else (none)) else (none))
end
def laws_FnNeeds.f (k : Nat) (l0 : List Int) : Option (Bool) := if (l0.length : Int) > 1048576 then (some true) else ((spec_DrawDishNeeds.f k l0).bind fun bt831 => ((impl_DishNeeds.f k bt831.1 bt831.2.1 bt831.2.2.1 bt831.2.2.2).bind fun bt839 => ((spec_DishNeeds.f k bt831.1 bt831.2.1 bt831.2.2.1 bt831.2.2.2).bind fun bt843 => (if (bt839.2 != bt843.2) = true then (laws_FnNeeds.j0 k bt831.1 bt831.2.1 bt831.2.2.1 bt831.2.2.2 bt839.1 bt839.2 bt843.1 bt843.2 true) else ((laws_sameInts.f k bt839.1 bt843.1).bind fun t847 => (if t847 = true then (laws_FnNeeds.j0 k bt831.1 bt831.2.1 bt831.2.2.1 bt831.2.2.2 bt839.1 bt839.2 bt843.1 bt843.2 (!bt839.2)) else (laws_FnNeeds.j0 k bt831.1 bt831.2.1 bt831.2.2.1 bt831.2.2.2 bt839.1 bt839.2 bt843.1 bt843.2 true)))))))
theorem laws_FnNeeds.mono_l : ∀ k, (∀ y0 y1 y2 y3 y4 y5 y6 y7 y8, LeO (laws_FnNeeds.j0 k y0 y1 y2 y3 y4 y5 y6 y7 y8) (laws_FnNeeds.j0 (k + 1) y0 y1 y2 y3 y4 y5 y6 y7 y8)) ∧ (∀ y0 y1 y2 y3 y4 y5 y6, LeO (laws_FnNeeds.l0 k y0 y1 y2 y3 y4 y5 y6) (laws_FnNeeds.l0 (k + 1) y0 y1 y2 y3 y4 y5 y6)) ∧ (∀ y0 y1 y2 y3 y4 y5 y6 y7 y8, LeO (laws_FnNeeds.l1 k y0 y1 y2 y3 y4 y5 y6 y7 y8) (laws_FnNeeds.l1 (k + 1) y0 y1 y2 y3 y4 y5 y6 y7 y8))
 | 0 => ⟨fun _ _ _ _ _ _ _ _ _ r h => by simp [laws_FnNeeds.j0] at h, fun _ _ _ _ _ _ _ r h => by simp [laws_FnNeeds.l0] at h, fun _ _ _ _ _ _ _ _ _ r h => by simp [laws_FnNeeds.l1] at h⟩
 | k + 1 => by
  obtain ⟨ih0, ih1, ih2⟩ := laws_FnNeeds.mono_l k
  refine ⟨?_, ?_, ?_⟩
  ·intro y0 y1 y2 y3 y4 y5 y6 y7 y8
   unfold laws_FnNeeds.j0
   repeat' first
   | (with_reducible exact ih0 _ _ _ _ _ _ _ _ _)
   | (with_reducible exact ih1 _ _ _ _ _ _ _)
   | (with_reducible exact ih2 _ _ _ _ _ _ _ _ _)
   | (with_reducible exact impl_DishNeeds.mono _ _ _ _ _)
   | (with_reducible exact laws_sameInts.mono _ _ _)
   | (with_reducible exact spec_DishNeeds.mono _ _ _ _ _)
   | (with_reducible exact spec_DrawDishNeeds.mono _ _)
   | (with_reducible exact LeO.refl _)
   | (with_reducible exact LeO.none _)
   | (with_reducible refine LeO.ite ?_ ?_)
   | (with_reducible refine LeO.bind ?_ (fun _ => ?_))
   | exact ih0 _ _ _ _ _ _ _ _ _
   | exact ih1 _ _ _ _ _ _ _
   | exact ih2 _ _ _ _ _ _ _ _ _
   | exact impl_DishNeeds.mono _ _ _ _ _
   | exact laws_sameInts.mono _ _ _
   | exact spec_DishNeeds.mono _ _ _ _ _
   | exact spec_DrawDishNeeds.mono _ _
   | exact LeO.none _
   | refine LeO.ite ?_ ?_
   | refine LeO.bind ?_ (fun _ => ?_)
  ·intro y0 y1 y2 y3 y4 y5 y6
   unfold laws_FnNeeds.l0
   repeat' first
   | (with_reducible exact ih0 _ _ _ _ _ _ _ _ _)
   | (with_reducible exact ih1 _ _ _ _ _ _ _)
   | (with_reducible exact ih2 _ _ _ _ _ _ _ _ _)
   | (with_reducible exact impl_DishNeeds.mono _ _ _ _ _)
   | (with_reducible exact laws_sameInts.mono _ _ _)
   | (with_reducible exact spec_DishNeeds.mono _ _ _ _ _)
   | (with_reducible exact spec_DrawDishNeeds.mono _ _)
   | (with_reducible exact LeO.refl _)
   | (with_reducible exact LeO.none _)
   | (with_reducible refine LeO.ite ?_ ?_)
   | (with_reducible refine LeO.bind ?_ (fun _ => ?_))
   | exact ih0 _ _ _ _ _ _ _ _ _
   | exact ih1 _ _ _ _ _ _ _
   | exact ih2 _ _ _ _ _ _ _ _ _
   | exact impl_DishNeeds.mono _ _ _ _ _
   | exact laws_sameInts.mono _ _ _
   | exact spec_DishNeeds.mono _ _ _ _ _
   | exact spec_DrawDishNeeds.mono _ _
   | exact LeO.none _
   | refine LeO.ite ?_ ?_
   | refine LeO.bind ?_ (fun _ => ?_)
  ·intro y0 y1 y2 y3 y4 y5 y6 y7 y8
   unfold laws_FnNeeds.l1
   repeat' first
   | (with_reducible exact ih0 _ _ _ _ _ _ _ _ _)
   | (with_reducible exact ih1 _ _ _ _ _ _ _)
   | (with_reducible exact ih2 _ _ _ _ _ _ _ _ _)
   | (with_reducible exact impl_DishNeeds.mono _ _ _ _ _)
   | (with_reducible exact laws_sameInts.mono _ _ _)
   | (with_reducible exact spec_DishNeeds.mono _ _ _ _ _)
   | (with_reducible exact spec_DrawDishNeeds.mono _ _)
   | (with_reducible exact LeO.refl _)
   | (with_reducible exact LeO.none _)
   | (with_reducible refine LeO.ite ?_ ?_)
   | (with_reducible refine LeO.bind ?_ (fun _ => ?_))
   | exact ih0 _ _ _ _ _ _ _ _ _
   | exact ih1 _ _ _ _ _ _ _
   | exact ih2 _ _ _ _ _ _ _ _ _
   | exact impl_DishNeeds.mono _ _ _ _ _
   | exact laws_sameInts.mono _ _ _
   | exact spec_DishNeeds.mono _ _ _ _ _
   | exact spec_DrawDishNeeds.mono _ _
   | exact LeO.none _
   | refine LeO.ite ?_ ?_
   | refine LeO.bind ?_ (fun _ => ?_)
theorem laws_FnNeeds.mono : ∀ a0 k, LeO (laws_FnNeeds.f k a0) (laws_FnNeeds.f (k + 1) a0) := by
 intro a0 k
 obtain ⟨ih0, ih1, ih2⟩ := laws_FnNeeds.mono_l k
 unfold laws_FnNeeds.f
 repeat' first
   | (with_reducible exact ih0 _ _ _ _ _ _ _ _ _)
   | (with_reducible exact ih1 _ _ _ _ _ _ _)
   | (with_reducible exact ih2 _ _ _ _ _ _ _ _ _)
   | (with_reducible exact impl_DishNeeds.mono _ _ _ _ _)
   | (with_reducible exact laws_sameInts.mono _ _ _)
   | (with_reducible exact spec_DishNeeds.mono _ _ _ _ _)
   | (with_reducible exact spec_DrawDishNeeds.mono _ _)
   | (with_reducible exact LeO.refl _)
   | (with_reducible exact LeO.none _)
   | (with_reducible refine LeO.ite ?_ ?_)
   | (with_reducible refine LeO.bind ?_ (fun _ => ?_))
   | exact ih0 _ _ _ _ _ _ _ _ _
   | exact ih1 _ _ _ _ _ _ _
   | exact ih2 _ _ _ _ _ _ _ _ _
   | exact impl_DishNeeds.mono _ _ _ _ _
   | exact laws_sameInts.mono _ _ _
   | exact spec_DishNeeds.mono _ _ _ _ _
   | exact spec_DrawDishNeeds.mono _ _
   | exact LeO.none _
   | refine LeO.ite ?_ ?_
   | refine LeO.bind ?_ (fun _ => ?_)
theorem laws_FnNeeds.cLt_ {α : Type} {d : Kd α} {W : World} {A : Option Addr} {n : Nat} {xs : List α} (h : d.C W A n xs) {ad : Addr} (he : A = some ad) (hp : 0 < n) (hs : 0 < d.sz) : ad.block < W.heap.size := by
 subst he
 cases xs with
 | nil => exact absurd h.1 (by simp; omega)
 | cons x xs' =>
  obtain ⟨ad', c, e, hcl, _, hcc⟩ := Kd.C_get h x 0 (Int.le_refl 0) (by omega)
  injection e with e
  subst e
  have h4 := hcc 0 _ (List.getElem?_eq_getElem (by omega))
  have h5 := World.block_lt_of_cell? W _ h4
  rwa [add_block] at h5
theorem F12.q0 {P : Prop} (h : P := by repeat (first | (with_reducible exact HR850_2.out) | (with_reducible refine Kd.C_alloc ?_ _) | (with_reducible refine Kd.C_drewN ?_ _) | (with_reducible refine Kd.C_drew ?_) | exact HR850_2.out)) : P := h
theorem F12.q1 {P : Prop} (h : P := by (with_reducible repeat (first | apply Kd.N_alloc | apply Kd.N_drewN | apply Kd.N_drew)); exact HO833.out) : P := h
theorem F12.q2 {P : Prop} (h : P := by (with_reducible repeat (first | apply Kd.N_alloc | apply Kd.N_drewN | apply Kd.N_drew)); exact HO_3.out) : P := h
set_option maxHeartbeats 8000000 in
set_option maxRecDepth 100000 in
theorem laws_FnNeeds.calls (k : Nat) (A0 : Option Addr) (c0 : Nat) (l0 : List Int) (r : Bool) (w : World) (hr0 : Kd.C (Kd.int .u8) w A0 l0.length l0) (hc0 : l0.length ≤ c0) (h : laws_FnNeeds.f k l0 = some r) :
  Calls Try.prog 12 #[.slice A0 l0.length c0] w fun e w' => e = .returned (.bool r) ∧ Below w.heap.size w w' := by
 have hu29 := Try.underlying29
 have HR0 := Aside0.mk hr0
 have HC0 := Aside0.mk hc0
 clear hr0 hc0
 have HB := Aside0.mk (Below.refl w.heap.size w)
 have H : (if (l0.length : Int) > 1048576 then (some true) else ((spec_DrawDishNeeds.f k l0).bind fun bt831 => ((impl_DishNeeds.f k bt831.1 bt831.2.1 bt831.2.2.1 bt831.2.2.2).bind fun bt839 => ((spec_DishNeeds.f k bt831.1 bt831.2.1 bt831.2.2.1 bt831.2.2.2).bind fun bt843 => (if (bt839.2 != bt843.2) = true then (laws_FnNeeds.j0 k bt831.1 bt831.2.1 bt831.2.2.1 bt831.2.2.2 bt839.1 bt839.2 bt843.1 bt843.2 true) else ((laws_sameInts.f k bt839.1 bt843.1).bind fun t847 => (if t847 = true then (laws_FnNeeds.j0 k bt831.1 bt831.2.1 bt831.2.2.1 bt831.2.2.2 bt839.1 bt839.2 bt843.1 bt843.2 (!bt839.2)) else (laws_FnNeeds.j0 k bt831.1 bt831.2.1 bt831.2.2.1 bt831.2.2.2 bt839.1 bt839.2 bt843.1 bt843.2 true)))))))) = some r := h
 clear h
 by_cases c2 : (l0.length : Int) > 1048576
 ·rw [if_pos c2] at H
  have c2b0 : decide (1048576 < (l0.length : Int)) = true := decide_eq_true c2
  have c2b1 : decide (1048576 < l0.length) = true := decide_eq_true (by omega)
  clear c2
  obtain rfl := Option.some.inj H
  go_enter Try.func12, Try.ntmps12
  go_wp2
  repeat (go_quiet (fail); try go_wp2)
  go_ret
  exact ⟨pE, pB⟩
 rw [if_neg c2] at H
 have c2b0 : decide (1048576 < (l0.length : Int)) = false := decide_eq_false c2
 have c2b1 : decide (1048576 < l0.length) = false := decide_eq_false (by omega)
 clear c2
 replace H := Option.bind_eq_some_iff.mp H
 obtain ⟨⟨t831, t834, t837, t838⟩, A30, H⟩ := H
 replace H : ((impl_DishNeeds.f k t831 t834 t837 t838).bind fun bt839 => ((spec_DishNeeds.f k t831 t834 t837 t838).bind fun bt843 => (if (bt839.2 != bt843.2) = true then (laws_FnNeeds.j0 k t831 t834 t837 t838 bt839.1 bt839.2 bt843.1 bt843.2 true) else ((laws_sameInts.f k bt839.1 bt843.1).bind fun t847 => (if t847 = true then (laws_FnNeeds.j0 k t831 t834 t837 t838 bt839.1 bt839.2 bt843.1 bt843.2 (!bt839.2)) else (laws_FnNeeds.j0 k t831 t834 t837 t838 bt839.1 bt839.2 bt843.1 bt843.2 true)))))) = some r := H
 have A3 := Aside0.mk A30
 clear A30
 replace H := Option.bind_eq_some_iff.mp H
 obtain ⟨⟨t839, t840⟩, A40, H⟩ := H
 replace H : ((spec_DishNeeds.f k t831 t834 t837 t838).bind fun bt843 => (if (t840 != bt843.2) = true then (laws_FnNeeds.j0 k t831 t834 t837 t838 t839 t840 bt843.1 bt843.2 true) else ((laws_sameInts.f k t839 bt843.1).bind fun t847 => (if t847 = true then (laws_FnNeeds.j0 k t831 t834 t837 t838 t839 t840 bt843.1 bt843.2 (!t840)) else (laws_FnNeeds.j0 k t831 t834 t837 t838 t839 t840 bt843.1 bt843.2 true))))) = some r := H
 have A4 := Aside0.mk A40
 clear A40
 replace H := Option.bind_eq_some_iff.mp H
 obtain ⟨⟨t843, t844⟩, A50, H⟩ := H
 replace H : (if (t840 != t844) = true then (laws_FnNeeds.j0 k t831 t834 t837 t838 t839 t840 t843 t844 true) else ((laws_sameInts.f k t839 t843).bind fun t847 => (if t847 = true then (laws_FnNeeds.j0 k t831 t834 t837 t838 t839 t840 t843 t844 (!t840)) else (laws_FnNeeds.j0 k t831 t834 t837 t838 t839 t840 t843 t844 true)))) = some r := H
 have A5 := Aside0.mk A50
 clear A50
 have HC6 := Aside0.mk H
 clear H
 go_enter Try.func12, Try.ntmps12
 go_upto_region 6 with (first | (go_at_call 45; (with_reducible refine (spec_DrawDishNeeds.calls k _ _ l0 t831 t834 t837 t838 _ ?side1 ?side2 A3.out).mono ?_); (case side1 => exact pS (HR0.out)); (case side2 => exact HC0.out); rintro e w7 ⟨v832, v835, rfl, ho0, ho1, hb⟩; have n0_ := Aside0.mk (Kd.N_lower (Kd.N_mono (ok' := fun k_ => some k_ ≠ (v835 : Value).ownBlock) ho0 (fun k_ hk_ => hk_.2)) (below_size pB)); have n1_ := Aside0.mk (Kd.R_lower (Kd.R_mono (ok' := fun k_ => True) ho1 (fun _ hk_ => trivial)) (below_size pB)); have n2_ := Aside0.mk (below_step pB hb); clear HB; have HO833 := n0_; have HO836 := n1_; have HB := n2_; clear n0_ n1_ n2_; (try clear hb); (try clear hb2); (try clear hk); (try clear hi); (try clear ho0); (try clear ho1); obtain ⟨Ao8, co8, eo8⟩ := Kd.N_slice HO833.out; subst eo8; obtain ⟨Ao9, co9, eo9⟩ := Kd.R_slice HO836.out; subst eo9) | (go_at_call 38; (with_reducible refine (impl_DishNeeds.calls k _ _ t831 _ _ t834 t837 t838 t839 t840 _ ?side1 ?side2 ?side3 ?side4 A4.out).mono ?_); (case side1 => exact pS ((Kd.N_reads' HO833.out).2.2)); (case side2 => exact (Kd.N_reads' HO833.out).2.1); (case side3 => exact pS ((Kd.R_reads' HO836.out).2.2)); (case side4 => exact (Kd.R_reads' HO836.out).2.1); rintro e w10 ⟨v841, rfl, ho0, hb⟩; have n0_ := Aside0.mk (Kd.N_elder' F12.q1 (Kd.R_base ho0) hb); have n1_ := Aside0.mk (Kd.R_below (pR HO836) hb); have n2_ := Aside0.mk (Kd.R_lower ho0 (below_size pB)); have n3_ := Aside0.mk (below_step pB hb); clear HO833; clear HO836; clear HB; have HO833 := n0_; have HO836 := n1_; have HO842 := n2_; have HB := n3_; clear n0_ n1_ n2_ n3_; (try clear hb); (try clear hb2); (try clear hk); (try clear hi); (try clear ho0)) | (go_at_call 37; (with_reducible refine (spec_DishNeeds.calls k _ _ t831 _ _ t834 t837 t838 t843 t844 _ ?side1 ?side2 ?side3 ?side4 A5.out).mono ?_); (case side1 => exact pS ((Kd.N_reads' HO833.out).2.2)); (case side2 => exact (Kd.N_reads' HO833.out).2.1); (case side3 => exact pS ((Kd.R_reads' HO836.out).2.2)); (case side4 => exact (Kd.R_reads' HO836.out).2.1); rintro e w11 ⟨v845, rfl, ho0, hb⟩; have n0_ := Aside0.mk (Kd.N_elder' F12.q1 (Kd.R_base ho0) hb); have n1_ := Aside0.mk (Kd.R_below (pR HO836) hb); have n2_ := Aside0.mk (Kd.R_elder' (pR HO842) (Kd.R_base ho0) hb); have n3_ := Aside0.mk (Kd.R_lower (Kd.R_new' ho0 (Kd.R_lt (pR HO842))) (below_size pB)); have n4_ := Aside0.mk (below_step pB hb); clear HO833; clear HO836; clear HO842; clear HB; have HO833 := n0_; have HO836 := n1_; have HO842 := n2_; have HO846 := n3_; have HB := n4_; clear n0_ n1_ n2_ n3_ n4_; (try clear hb); (try clear hb2); (try clear hk); (try clear hi); (try clear ho0)))
 repeat (go_quiet (first | (go_at_call 45; (with_reducible refine (spec_DrawDishNeeds.calls k _ _ l0 t831 t834 t837 t838 _ ?side1 ?side2 A3.out).mono ?_); (case side1 => exact pS (HR0.out)); (case side2 => exact HC0.out); rintro e w7 ⟨v832, v835, rfl, ho0, ho1, hb⟩; have n0_ := Aside0.mk (Kd.N_lower (Kd.N_mono (ok' := fun k_ => some k_ ≠ (v835 : Value).ownBlock) ho0 (fun k_ hk_ => hk_.2)) (below_size pB)); have n1_ := Aside0.mk (Kd.R_lower (Kd.R_mono (ok' := fun k_ => True) ho1 (fun _ hk_ => trivial)) (below_size pB)); have n2_ := Aside0.mk (below_step pB hb); clear HB; have HO833 := n0_; have HO836 := n1_; have HB := n2_; clear n0_ n1_ n2_; (try clear hb); (try clear hb2); (try clear hk); (try clear hi); (try clear ho0); (try clear ho1); obtain ⟨Ao8, co8, eo8⟩ := Kd.N_slice HO833.out; subst eo8; obtain ⟨Ao9, co9, eo9⟩ := Kd.R_slice HO836.out; subst eo9) | (go_at_call 38; (with_reducible refine (impl_DishNeeds.calls k _ _ t831 _ _ t834 t837 t838 t839 t840 _ ?side1 ?side2 ?side3 ?side4 A4.out).mono ?_); (case side1 => exact pS ((Kd.N_reads' HO833.out).2.2)); (case side2 => exact (Kd.N_reads' HO833.out).2.1); (case side3 => exact pS ((Kd.R_reads' HO836.out).2.2)); (case side4 => exact (Kd.R_reads' HO836.out).2.1); rintro e w10 ⟨v841, rfl, ho0, hb⟩; have n0_ := Aside0.mk (Kd.N_elder' F12.q1 (Kd.R_base ho0) hb); have n1_ := Aside0.mk (Kd.R_below (pR HO836) hb); have n2_ := Aside0.mk (Kd.R_lower ho0 (below_size pB)); have n3_ := Aside0.mk (below_step pB hb); clear HO833; clear HO836; clear HB; have HO833 := n0_; have HO836 := n1_; have HO842 := n2_; have HB := n3_; clear n0_ n1_ n2_ n3_; (try clear hb); (try clear hb2); (try clear hk); (try clear hi); (try clear ho0)) | (go_at_call 37; (with_reducible refine (spec_DishNeeds.calls k _ _ t831 _ _ t834 t837 t838 t843 t844 _ ?side1 ?side2 ?side3 ?side4 A5.out).mono ?_); (case side1 => exact pS ((Kd.N_reads' HO833.out).2.2)); (case side2 => exact (Kd.N_reads' HO833.out).2.1); (case side3 => exact pS ((Kd.R_reads' HO836.out).2.2)); (case side4 => exact (Kd.R_reads' HO836.out).2.1); rintro e w11 ⟨v845, rfl, ho0, hb⟩; have n0_ := Aside0.mk (Kd.N_elder' F12.q1 (Kd.R_base ho0) hb); have n1_ := Aside0.mk (Kd.R_below (pR HO836) hb); have n2_ := Aside0.mk (Kd.R_elder' (pR HO842) (Kd.R_base ho0) hb); have n3_ := Aside0.mk (Kd.R_lower (Kd.R_new' ho0 (Kd.R_lt (pR HO842))) (below_size pB)); have n4_ := Aside0.mk (below_step pB hb); clear HO833; clear HO836; clear HO842; clear HB; have HO833 := n0_; have HO836 := n1_; have HO842 := n2_; have HO846 := n3_; have HB := n4_; clear n0_ n1_ n2_ n3_ n4_; (try clear hb); (try clear hb2); (try clear hk); (try clear hi); (try clear ho0))); go_upto_region 6 with (first | (go_at_call 45; (with_reducible refine (spec_DrawDishNeeds.calls k _ _ l0 t831 t834 t837 t838 _ ?side1 ?side2 A3.out).mono ?_); (case side1 => exact pS (HR0.out)); (case side2 => exact HC0.out); rintro e w7 ⟨v832, v835, rfl, ho0, ho1, hb⟩; have n0_ := Aside0.mk (Kd.N_lower (Kd.N_mono (ok' := fun k_ => some k_ ≠ (v835 : Value).ownBlock) ho0 (fun k_ hk_ => hk_.2)) (below_size pB)); have n1_ := Aside0.mk (Kd.R_lower (Kd.R_mono (ok' := fun k_ => True) ho1 (fun _ hk_ => trivial)) (below_size pB)); have n2_ := Aside0.mk (below_step pB hb); clear HB; have HO833 := n0_; have HO836 := n1_; have HB := n2_; clear n0_ n1_ n2_; (try clear hb); (try clear hb2); (try clear hk); (try clear hi); (try clear ho0); (try clear ho1); obtain ⟨Ao8, co8, eo8⟩ := Kd.N_slice HO833.out; subst eo8; obtain ⟨Ao9, co9, eo9⟩ := Kd.R_slice HO836.out; subst eo9) | (go_at_call 38; (with_reducible refine (impl_DishNeeds.calls k _ _ t831 _ _ t834 t837 t838 t839 t840 _ ?side1 ?side2 ?side3 ?side4 A4.out).mono ?_); (case side1 => exact pS ((Kd.N_reads' HO833.out).2.2)); (case side2 => exact (Kd.N_reads' HO833.out).2.1); (case side3 => exact pS ((Kd.R_reads' HO836.out).2.2)); (case side4 => exact (Kd.R_reads' HO836.out).2.1); rintro e w10 ⟨v841, rfl, ho0, hb⟩; have n0_ := Aside0.mk (Kd.N_elder' F12.q1 (Kd.R_base ho0) hb); have n1_ := Aside0.mk (Kd.R_below (pR HO836) hb); have n2_ := Aside0.mk (Kd.R_lower ho0 (below_size pB)); have n3_ := Aside0.mk (below_step pB hb); clear HO833; clear HO836; clear HB; have HO833 := n0_; have HO836 := n1_; have HO842 := n2_; have HB := n3_; clear n0_ n1_ n2_ n3_; (try clear hb); (try clear hb2); (try clear hk); (try clear hi); (try clear ho0)) | (go_at_call 37; (with_reducible refine (spec_DishNeeds.calls k _ _ t831 _ _ t834 t837 t838 t843 t844 _ ?side1 ?side2 ?side3 ?side4 A5.out).mono ?_); (case side1 => exact pS ((Kd.N_reads' HO833.out).2.2)); (case side2 => exact (Kd.N_reads' HO833.out).2.1); (case side3 => exact pS ((Kd.R_reads' HO836.out).2.2)); (case side4 => exact (Kd.R_reads' HO836.out).2.1); rintro e w11 ⟨v845, rfl, ho0, hb⟩; have n0_ := Aside0.mk (Kd.N_elder' F12.q1 (Kd.R_base ho0) hb); have n1_ := Aside0.mk (Kd.R_below (pR HO836) hb); have n2_ := Aside0.mk (Kd.R_elder' (pR HO842) (Kd.R_base ho0) hb); have n3_ := Aside0.mk (Kd.R_lower (Kd.R_new' ho0 (Kd.R_lt (pR HO842))) (below_size pB)); have n4_ := Aside0.mk (below_step pB hb); clear HO833; clear HO836; clear HO842; clear HB; have HO833 := n0_; have HO836 := n1_; have HO842 := n2_; have HO846 := n3_; have HB := n4_; clear n0_ n1_ n2_ n3_ n4_; (try clear hb); (try clear hb2); (try clear hk); (try clear hi); (try clear ho0))))
 (try simp only [Act.put, List.setIfInBounds_toArray, List.set_cons_zero, List.set_cons_succ])
 go_cut [53] (fun v53 wc => ∃ (kq : Nat) (x53_5 : Bool), v53 = .bool x53_5 ∧ Aside0 (laws_FnNeeds.j0 kq t831 t834 t837 t838 t839 t840 t843 t844 x53_5 = some r) ∧ Aside0 (kq ≤ k) ∧ Aside0 (Kd.N k29 29 wc w.heap.size (fun k_ => some k_ ≠ ((.slice Ao9 t834.length co9) : Value).ownBlock ∧ some k_ ≠ (v841 : Value).ownBlock ∧ some k_ ≠ (v845 : Value).ownBlock) (.slice Ao8 t831.length co8) t831) ∧ Aside0 (Kd.R k63 63 wc w.heap.size (fun _ => True) (.slice Ao9 t834.length co9) t834) ∧ Aside0 (Kd.R (Kd.int .i64) 3 wc w.heap.size (fun k_ => some k_ ≠ (v845 : Value).ownBlock) v841 t839) ∧ Aside0 (Kd.R (Kd.int .i64) 3 wc w.heap.size (fun k_ => some k_ ≠ (v841 : Value).ownBlock) v845 t843) ∧ Aside0 (Below w.heap.size w wc))
 case first =>
  have H := HC6.out
  clear HC6
  by_cases c12 : (t840 != t844) = true
  ·rw [if_pos c12] at H
   have c12b0 : (t840 != t844) = true := c12
   (try (have c12b1 : decide (t840 = t844) = false := by simpa using c12))
   (try (have c12b2 : (t840 == t844) = false := by simpa using c12))
   (try (have c12b3 : ¬ (t840 = t844) := by simpa using c12))
   clear c12
   (first | rw [c12b0] | (simp only [i64_w, i32_w]; rw [c12b0]) | skip)
   have H' := Aside0.mk H
   clear H
   go_wp2
   repeat (go_quiet (fail); try go_wp2)
   go_meet
   case rel => exact ⟨_, (true), pF, H', ⟨by first | omega | exact Nat.le_refl _⟩, ⟨by (with_reducible repeat (first | apply Kd.N_alloc | apply Kd.N_drewN | apply Kd.N_drew)); exact Kd.N_mono HO833.out (fun _ hk => ⟨hk.1.1, ⟨hk.1.2, hk.2⟩⟩)⟩, ⟨pR HO836⟩, ⟨by (with_reducible repeat (first | apply Kd.R_alloc | apply Kd.R_drewN | apply Kd.R_drew)); exact Kd.R_mono HO842.out (fun _ hk => hk.2)⟩, ⟨by (with_reducible repeat (first | apply Kd.R_alloc | apply Kd.R_drewN | apply Kd.R_drew)); exact Kd.R_mono HO846.out (fun _ hk => hk.2)⟩, ⟨pB⟩⟩
  rw [if_neg c12] at H
  have c12b0 : (t840 != t844) = false := by simpa using c12
  (try (have c12b1 : decide (t840 = t844) = true := by simpa using c12))
  (try (have c12b2 : (t840 == t844) = true := by simpa using c12))
  clear c12
  (first | rw [c12b0] | (simp only [i64_w, i32_w]; rw [c12b0]) | skip)
  replace H := Option.bind_eq_some_iff.mp H
  obtain ⟨t847, A130, H⟩ := H
  replace H : (if t847 = true then (laws_FnNeeds.j0 k t831 t834 t837 t838 t839 t840 t843 t844 (!t840)) else (laws_FnNeeds.j0 k t831 t834 t837 t838 t839 t840 t843 t844 true)) = some r := H
  have A13 := Aside0.mk A130
  clear A130
  by_cases c14 : t847 = true
  ·subst c14
   have H1 : (laws_FnNeeds.j0 k t831 t834 t837 t838 t839 t840 t843 t844 (!t840)) = some r := by rw [if_pos rfl] at H; exact H
   clear H
   have H := H1
   clear H1
   have H' := Aside0.mk H
   clear H
   obtain ⟨Ao15, co15, eo15⟩ := Kd.R_slice HO842.out
   subst eo15
   obtain ⟨Ao16, co16, eo16⟩ := Kd.R_slice HO846.out
   subst eo16
   go_wp2_with (first | (go_at_call 43; (with_reducible refine (laws_sameInts.calls k _ _ t839 _ _ t843 true _ ?side1 ?side2 ?side3 ?side4 A13.out).mono ?_); (case side1 => exact pS ((Kd.R_reads' HO842.out).2.2)); (case side2 => exact (Kd.R_reads' HO842.out).2.1); (case side3 => exact pS ((Kd.R_reads' HO846.out).2.2)); (case side4 => exact (Kd.R_reads' HO846.out).2.1); rintro e w' ⟨rfl, ⟨nd, rfl⟩⟩; (try exact pD)))
   repeat (go_quiet (first | (go_at_call 43; (with_reducible refine (laws_sameInts.calls k _ _ t839 _ _ t843 true _ ?side1 ?side2 ?side3 ?side4 A13.out).mono ?_); (case side1 => exact pS ((Kd.R_reads' HO842.out).2.2)); (case side2 => exact (Kd.R_reads' HO842.out).2.1); (case side3 => exact pS ((Kd.R_reads' HO846.out).2.2)); (case side4 => exact (Kd.R_reads' HO846.out).2.1); rintro e w' ⟨rfl, ⟨nd, rfl⟩⟩; (try exact pD))); try go_wp2_with (first | (go_at_call 43; (with_reducible refine (laws_sameInts.calls k _ _ t839 _ _ t843 true _ ?side1 ?side2 ?side3 ?side4 A13.out).mono ?_); (case side1 => exact pS ((Kd.R_reads' HO842.out).2.2)); (case side2 => exact (Kd.R_reads' HO842.out).2.1); (case side3 => exact pS ((Kd.R_reads' HO846.out).2.2)); (case side4 => exact (Kd.R_reads' HO846.out).2.1); rintro e w' ⟨rfl, ⟨nd, rfl⟩⟩; (try exact pD))))
   go_meet
   case rel => exact ⟨_, (!t840), pF, H', ⟨by first | omega | exact Nat.le_refl _⟩, ⟨by (with_reducible repeat (first | apply Kd.N_alloc | apply Kd.N_drewN | apply Kd.N_drew)); exact Kd.N_mono HO833.out (fun _ hk => ⟨hk.1.1, ⟨hk.1.2, hk.2⟩⟩)⟩, ⟨pR HO836⟩, ⟨by (with_reducible repeat (first | apply Kd.R_alloc | apply Kd.R_drewN | apply Kd.R_drew)); exact Kd.R_mono HO842.out (fun _ hk => hk.2)⟩, ⟨by (with_reducible repeat (first | apply Kd.R_alloc | apply Kd.R_drewN | apply Kd.R_drew)); exact Kd.R_mono HO846.out (fun _ hk => hk.2)⟩, ⟨pB⟩⟩
  replace c14 := Bool.eq_false_iff.mpr c14
  subst c14
  have H1 : (laws_FnNeeds.j0 k t831 t834 t837 t838 t839 t840 t843 t844 true) = some r := by rw [if_neg (show ¬ (false = true) by decide)] at H; exact H
  clear H
  have H := H1
  clear H1
  have H' := Aside0.mk H
  clear H
  obtain ⟨Ao17, co17, eo17⟩ := Kd.R_slice HO842.out
  subst eo17
  obtain ⟨Ao18, co18, eo18⟩ := Kd.R_slice HO846.out
  subst eo18
  go_wp2_with (first | (go_at_call 43; (with_reducible refine (laws_sameInts.calls k _ _ t839 _ _ t843 false _ ?side1 ?side2 ?side3 ?side4 A13.out).mono ?_); (case side1 => exact pS ((Kd.R_reads' HO842.out).2.2)); (case side2 => exact (Kd.R_reads' HO842.out).2.1); (case side3 => exact pS ((Kd.R_reads' HO846.out).2.2)); (case side4 => exact (Kd.R_reads' HO846.out).2.1); rintro e w' ⟨rfl, ⟨nd, rfl⟩⟩; (try exact pD)))
  repeat (go_quiet (first | (go_at_call 43; (with_reducible refine (laws_sameInts.calls k _ _ t839 _ _ t843 false _ ?side1 ?side2 ?side3 ?side4 A13.out).mono ?_); (case side1 => exact pS ((Kd.R_reads' HO842.out).2.2)); (case side2 => exact (Kd.R_reads' HO842.out).2.1); (case side3 => exact pS ((Kd.R_reads' HO846.out).2.2)); (case side4 => exact (Kd.R_reads' HO846.out).2.1); rintro e w' ⟨rfl, ⟨nd, rfl⟩⟩; (try exact pD))); try go_wp2_with (first | (go_at_call 43; (with_reducible refine (laws_sameInts.calls k _ _ t839 _ _ t843 false _ ?side1 ?side2 ?side3 ?side4 A13.out).mono ?_); (case side1 => exact pS ((Kd.R_reads' HO842.out).2.2)); (case side2 => exact (Kd.R_reads' HO842.out).2.1); (case side3 => exact pS ((Kd.R_reads' HO846.out).2.2)); (case side4 => exact (Kd.R_reads' HO846.out).2.1); rintro e w' ⟨rfl, ⟨nd, rfl⟩⟩; (try exact pD))))
  go_meet
  case rel => exact ⟨_, (true), pF, H', ⟨by first | omega | exact Nat.le_refl _⟩, ⟨by (with_reducible repeat (first | apply Kd.N_alloc | apply Kd.N_drewN | apply Kd.N_drew)); exact Kd.N_mono HO833.out (fun _ hk => ⟨hk.1.1, ⟨hk.1.2, hk.2⟩⟩)⟩, ⟨pR HO836⟩, ⟨by (with_reducible repeat (first | apply Kd.R_alloc | apply Kd.R_drewN | apply Kd.R_drew)); exact Kd.R_mono HO842.out (fun _ hk => hk.2)⟩, ⟨by (with_reducible repeat (first | apply Kd.R_alloc | apply Kd.R_drewN | apply Kd.R_drew)); exact Kd.R_mono HO846.out (fun _ hk => hk.2)⟩, ⟨pB⟩⟩
 case rest =>
  clear HC6
  try clear c1
  try clear c2
  try clear c2b0
  try clear c2b1
  try clear p2
  try clear c12
  try clear c12b0
  try clear c12b1
  try clear c12b2
  try clear c14
  obtain ⟨kq, x53_5, rfl, HA, HJ5, HO_3, HO_4, HO_7, HO_9, HB⟩ := hcut
  cases kq with
  | zero => exact absurd HA.out (by simp [laws_FnNeeds.j0])
  | succ kj5 =>
   have H := HA.out
   clear HA
   simp only [laws_FnNeeds.j0] at H
   by_cases c19 : x53_5 = true
   ·subst c19
    have H1 : (if (t840 == t844) = true then ((laws_sameInts.f kj5 t839 t843).bind fun t848 => (some t848)) else (some false)) = some r := by rw [if_pos rfl] at H; exact H
    clear H
    have H := H1
    clear H1
    rcases (Classical.em ((t840 == t844) = true)).symm with c20 | c20
    ·rw [if_neg c20] at H
     have c20b0 : (t840 == t844) = false := by simpa using c20
     (try (have c20b1 : decide (t840 = t844) = false := by simpa using c20))
     (try (have c20b2 : (t840 == t844) = false := by simpa using c20))
     (try (have c20b3 : ¬ (t840 = t844) := by simpa using c20))
     clear c20
     obtain rfl := Option.some.inj H
     go_wp2
     repeat (go_quiet (fail); try go_wp2)
     go_ret
     exact ⟨pE, pB⟩
    rw [if_pos c20] at H
    have c20b0 : (t840 == t844) = true := c20
    (try (have c20b1 : decide (t840 = t844) = true := by simpa using c20))
    (try (have c20b2 : (t840 == t844) = true := by simpa using c20))
    clear c20
    replace H := Option.bind_eq_some_iff.mp H
    obtain ⟨t848, A210, H⟩ := H
    replace H : (some t848) = some r := H
    have A21 := Aside0.mk A210
    clear A210
    obtain rfl := Option.some.inj H
    obtain ⟨Ao22, co22, eo22⟩ := Kd.R_slice HO_7.out
    subst eo22
    obtain ⟨Ao23, co23, eo23⟩ := Kd.R_slice HO_9.out
    subst eo23
    go_wp2_with (first | (go_at_call 43; (with_reducible refine (laws_sameInts.calls kj5 _ _ t839 _ _ t843 t848 _ ?side1 ?side2 ?side3 ?side4 A21.out).mono ?_); (case side1 => exact pS ((Kd.R_reads' HO_7.out).2.2)); (case side2 => exact (Kd.R_reads' HO_7.out).2.1); (case side3 => exact pS ((Kd.R_reads' HO_9.out).2.2)); (case side4 => exact (Kd.R_reads' HO_9.out).2.1); rintro e w' ⟨rfl, ⟨nd, rfl⟩⟩; (try exact pD)))
    repeat (go_quiet (first | (go_at_call 43; (with_reducible refine (laws_sameInts.calls kj5 _ _ t839 _ _ t843 t848 _ ?side1 ?side2 ?side3 ?side4 A21.out).mono ?_); (case side1 => exact pS ((Kd.R_reads' HO_7.out).2.2)); (case side2 => exact (Kd.R_reads' HO_7.out).2.1); (case side3 => exact pS ((Kd.R_reads' HO_9.out).2.2)); (case side4 => exact (Kd.R_reads' HO_9.out).2.1); rintro e w' ⟨rfl, ⟨nd, rfl⟩⟩; (try exact pD))); try go_wp2_with (first | (go_at_call 43; (with_reducible refine (laws_sameInts.calls kj5 _ _ t839 _ _ t843 t848 _ ?side1 ?side2 ?side3 ?side4 A21.out).mono ?_); (case side1 => exact pS ((Kd.R_reads' HO_7.out).2.2)); (case side2 => exact (Kd.R_reads' HO_7.out).2.1); (case side3 => exact pS ((Kd.R_reads' HO_9.out).2.2)); (case side4 => exact (Kd.R_reads' HO_9.out).2.1); rintro e w' ⟨rfl, ⟨nd, rfl⟩⟩; (try exact pD))))
    go_ret
    exact ⟨pE, pB⟩
   replace c19 := Bool.eq_false_iff.mpr c19
   subst c19
   have H1 : ((impl_DishesFind.f t831 t837).bind fun t849 => (if 0 ≤ t849 then (if t849 < (t831.length : Int) then (laws_FnNeeds.l0 kj5 t834 t838 t839 0 ((rd_T29 t831 t849).f0) ((rd_T29 t831 t849).f1) ((rd_T29 t831 t849).f2)) else (none)) else (none))) = some r := by rw [if_neg (show ¬ (false = true) by decide)] at H; exact H
   clear H
   have H := H1
   clear H1
   replace H := Option.bind_eq_some_iff.mp H
   obtain ⟨t849, A240, H⟩ := H
   replace H : (if 0 ≤ t849 then (if t849 < (t831.length : Int) then (laws_FnNeeds.l0 kj5 t834 t838 t839 0 ((rd_T29 t831 t849).f0) ((rd_T29 t831 t849).f1) ((rd_T29 t831 t849).f2)) else (none)) else (none)) = some r := H
   have A24 := Aside0.mk A240
   clear A240
   rcases (Classical.em (0 ≤ t849)).symm with c25 | c25
   ·rw [if_neg c25] at H
    exact absurd H (by simp)

   rw [if_pos c25] at H
   have c25b0 : decide (0 ≤ t849) = true := decide_eq_true c25
   clear c25
   rcases (Classical.em (t849 < (t831.length : Int))).symm with c26 | c26
   ·rw [if_neg c26] at H
    exact absurd H (by simp)
   rw [if_pos c26] at H
   have c26b0 : decide (t849 < (t831.length : Int)) = true := decide_eq_true c26
   clear c26
   have H' := Aside0.mk H
   clear H
   go_wp2_with (first | (go_at_call 20; (with_reducible refine (impl_DishesFind.calls _ _ t831 t837 t849 _ ?side1 ?side2 A24.out).mono ?_); (case side1 => exact pS ((Kd.N_reads' HO_3.out).2.2)); (case side2 => exact (Kd.N_reads' HO_3.out).2.1); rintro e w27 ⟨rfl, hb⟩; have n0_ := Aside0.mk (Kd.N_below F12.q2 hb); have n1_ := Aside0.mk (Kd.R_below (pR HO_4) hb); have n2_ := Aside0.mk (Kd.R_below (pR HO_7) hb); have n3_ := Aside0.mk (Kd.R_below (pR HO_9) hb); have n4_ := Aside0.mk (below_step pB hb); clear HO_3; clear HO_4; clear HO_7; clear HO_9; clear HB; have HO_3 := n0_; have HO_4 := n1_; have HO_7 := n2_; have HO_9 := n3_; have HB := n4_; clear n0_ n1_ n2_ n3_ n4_; (try clear hb); (try clear hb2); (try clear hk); (try clear hi); have p850 : 0 ≤ (t849 : Int) := of_decide_eq_true pA; have q850 : t849 < (t831.length : Int) := of_decide_eq_true pA; obtain ⟨ad850, A850_2, c850_2, e850, hx850_0, hx850_1, hx850_2, hl850_2, hi850_2⟩ := at_T29 (Kd.N_reads' HO_3.out).2.2 t849 p850 q850; cases e850; obtain ⟨ce850, hce850, hMe850, hcc850⟩ := Kd.N_get HO_3.out z29 t849 p850 (by first | exact q850 | exact of_decide_eq_true pA | (have e_ := (Kd.N_reads' HO_3.out).1; omega)); obtain ⟨ua850_2, uc850_2, rfl, ul850_2, ge850_2⟩ := k29_openF hMe850; have hv850_2 := hcc850 2 _ rfl; rw [add_field _ _ 2 (by omega)] at hv850_2; replace hv850_2 := Option.some.inj (hv850_2.symm.trans hx850_2); injection hv850_2 with hva_ hvn_ hvc_; rw [hva_] at ge850_2; rw [hvc_] at ul850_2; have HL850_2 := Aside0.mk (show Kd.V k55 55 _ w.heap.size _ _ ((rd_T29 t831 t849).f2) from Kd.V_mk ul850_2 ge850_2); clear hva_ hvn_ hvc_ ge850_2 ul850_2; clear hcc850 hce850; have HR850_2 := Aside0.mk (hi850_2); have HC850_2 := Aside0.mk hl850_2; clear hi850_2 hl850_2; replace p850 := eq_true p850; replace q850 := eq_true q850) | ((with_reducible refine gate_dst (N := 11) rfl ?_); refine box_event ?hg (N := 11) ?hd (cs := #[.int .i64 0, .int .i64 0, .slice none 0 0]) (t := 29) ?hr ?_; (case hd => rfl); (case hg => rfl); (case hr => first | (go_simp; done) | (go_simp; rfl)); intro gb851 hg w28 hbox hb; have n0_ := Aside0.mk (Kd.N_below (Kd.N_elderB F12.q2 gb851 (Nat.le_of_eq hg.symm)) hb); have n1_ := Aside0.mk (Kd.R_below (pR HO_4) hb); have n2_ := Aside0.mk (Kd.R_below (pR HO_7) hb); have n3_ := Aside0.mk (Kd.R_below (pR HO_9) hb); have n4_ := Aside0.mk (Kd.V_below (Kd.V_elderB (by (with_reducible repeat (first | apply Kd.V_alloc | apply Kd.V_drewN | apply Kd.V_drew)); exact HL850_2.out) gb851 (Nat.le_of_eq hg.symm)) hb); have n5_ := Aside0.mk (Kd.C_below F12.q0 hb); have n6_ := Aside0.mk (below_step pB hb); have n7_ := Aside0.mk (hbox); have n8_ := Aside0.mk ((by rw [hg]; exact (below_size pB) : w.heap.size ≤ gb851)); have n9_ := Aside0.mk ((by rw [hg]; exact (below_size pB) : w.heap.size ≤ gb851)); have n10_ := Aside0.mk ((fun ad_ he_ hp_ => by rw [hg]; exact Nat.ne_of_lt (laws_FnNeeds.cLt_ (show Kd.C k55 _ A850_2 ((rd_T29 t831 t849).f2).length ((rd_T29 t831 t849).f2) from F12.q0) he_ hp_ (by decide)) : ∀ ad_ : Addr, A850_2 = some ad_ → 0 < ((rd_T29 t831 t849).f2).length → ad_.block ≠ gb851)); clear HO_3; clear HO_4; clear HO_7; clear HO_9; clear HL850_2; clear HR850_2; clear HB; have HO_3 := n0_; have HO_4 := n1_; have HO_7 := n2_; have HO_9 := n3_; have HL850_2 := n4_; have HR850_2 := n5_; have HB := n6_; have BK851 := n7_; have GW851 := n8_; have GE851 := n9_; have NS851_HR850_2 := n10_; clear n0_ n1_ n2_ n3_ n4_ n5_ n6_ n7_ n8_ n9_ n10_; clear hb hbox hg; have hcz29_0 : w28.cell? ⟨gb851, 0, none⟩ = some (.int .i64 0) := (blk_cell BK851.out 0).trans rfl; have hcz29_1 : w28.cell? ⟨gb851, 1, none⟩ = some (.int .i64 0) := (blk_cell BK851.out 1).trans rfl; have hcz29_2 : w28.cell? ⟨gb851, 2, none⟩ = some (.slice none 0 0) := (blk_cell BK851.out 2).trans rfl; have hfz29_0 := blk_frozen BK851.out 0; have hfz29_1 := blk_frozen BK851.out 1; have hfz29_2 := blk_frozen BK851.out 2))
   repeat (go_quiet (first | (go_at_call 20; (with_reducible refine (impl_DishesFind.calls _ _ t831 t837 t849 _ ?side1 ?side2 A24.out).mono ?_); (case side1 => exact pS ((Kd.N_reads' HO_3.out).2.2)); (case side2 => exact (Kd.N_reads' HO_3.out).2.1); rintro e w27 ⟨rfl, hb⟩; have n0_ := Aside0.mk (Kd.N_below F12.q2 hb); have n1_ := Aside0.mk (Kd.R_below (pR HO_4) hb); have n2_ := Aside0.mk (Kd.R_below (pR HO_7) hb); have n3_ := Aside0.mk (Kd.R_below (pR HO_9) hb); have n4_ := Aside0.mk (below_step pB hb); clear HO_3; clear HO_4; clear HO_7; clear HO_9; clear HB; have HO_3 := n0_; have HO_4 := n1_; have HO_7 := n2_; have HO_9 := n3_; have HB := n4_; clear n0_ n1_ n2_ n3_ n4_; (try clear hb); (try clear hb2); (try clear hk); (try clear hi); have p850 : 0 ≤ (t849 : Int) := of_decide_eq_true pA; have q850 : t849 < (t831.length : Int) := of_decide_eq_true pA; obtain ⟨ad850, A850_2, c850_2, e850, hx850_0, hx850_1, hx850_2, hl850_2, hi850_2⟩ := at_T29 (Kd.N_reads' HO_3.out).2.2 t849 p850 q850; cases e850; obtain ⟨ce850, hce850, hMe850, hcc850⟩ := Kd.N_get HO_3.out z29 t849 p850 (by first | exact q850 | exact of_decide_eq_true pA | (have e_ := (Kd.N_reads' HO_3.out).1; omega)); obtain ⟨ua850_2, uc850_2, rfl, ul850_2, ge850_2⟩ := k29_openF hMe850; have hv850_2 := hcc850 2 _ rfl; rw [add_field _ _ 2 (by omega)] at hv850_2; replace hv850_2 := Option.some.inj (hv850_2.symm.trans hx850_2); injection hv850_2 with hva_ hvn_ hvc_; rw [hva_] at ge850_2; rw [hvc_] at ul850_2; have HL850_2 := Aside0.mk (show Kd.V k55 55 _ w.heap.size _ _ ((rd_T29 t831 t849).f2) from Kd.V_mk ul850_2 ge850_2); clear hva_ hvn_ hvc_ ge850_2 ul850_2; clear hcc850 hce850; have HR850_2 := Aside0.mk (hi850_2); have HC850_2 := Aside0.mk hl850_2; clear hi850_2 hl850_2; replace p850 := eq_true p850; replace q850 := eq_true q850) | ((with_reducible refine gate_dst (N := 11) rfl ?_); refine box_event ?hg (N := 11) ?hd (cs := #[.int .i64 0, .int .i64 0, .slice none 0 0]) (t := 29) ?hr ?_; (case hd => rfl); (case hg => rfl); (case hr => first | (go_simp; done) | (go_simp; rfl)); intro gb851 hg w28 hbox hb; have n0_ := Aside0.mk (Kd.N_below (Kd.N_elderB F12.q2 gb851 (Nat.le_of_eq hg.symm)) hb); have n1_ := Aside0.mk (Kd.R_below (pR HO_4) hb); have n2_ := Aside0.mk (Kd.R_below (pR HO_7) hb); have n3_ := Aside0.mk (Kd.R_below (pR HO_9) hb); have n4_ := Aside0.mk (Kd.V_below (Kd.V_elderB (by (with_reducible repeat (first | apply Kd.V_alloc | apply Kd.V_drewN | apply Kd.V_drew)); exact HL850_2.out) gb851 (Nat.le_of_eq hg.symm)) hb); have n5_ := Aside0.mk (Kd.C_below F12.q0 hb); have n6_ := Aside0.mk (below_step pB hb); have n7_ := Aside0.mk (hbox); have n8_ := Aside0.mk ((by rw [hg]; exact (below_size pB) : w.heap.size ≤ gb851)); have n9_ := Aside0.mk ((by rw [hg]; exact (below_size pB) : w.heap.size ≤ gb851)); have n10_ := Aside0.mk ((fun ad_ he_ hp_ => by rw [hg]; exact Nat.ne_of_lt (laws_FnNeeds.cLt_ (show Kd.C k55 _ A850_2 ((rd_T29 t831 t849).f2).length ((rd_T29 t831 t849).f2) from F12.q0) he_ hp_ (by decide)) : ∀ ad_ : Addr, A850_2 = some ad_ → 0 < ((rd_T29 t831 t849).f2).length → ad_.block ≠ gb851)); clear HO_3; clear HO_4; clear HO_7; clear HO_9; clear HL850_2; clear HR850_2; clear HB; have HO_3 := n0_; have HO_4 := n1_; have HO_7 := n2_; have HO_9 := n3_; have HL850_2 := n4_; have HR850_2 := n5_; have HB := n6_; have BK851 := n7_; have GW851 := n8_; have GE851 := n9_; have NS851_HR850_2 := n10_; clear n0_ n1_ n2_ n3_ n4_ n5_ n6_ n7_ n8_ n9_ n10_; clear hb hbox hg; have hcz29_0 : w28.cell? ⟨gb851, 0, none⟩ = some (.int .i64 0) := (blk_cell BK851.out 0).trans rfl; have hcz29_1 : w28.cell? ⟨gb851, 1, none⟩ = some (.int .i64 0) := (blk_cell BK851.out 1).trans rfl; have hcz29_2 : w28.cell? ⟨gb851, 2, none⟩ = some (.slice none 0 0) := (blk_cell BK851.out 2).trans rfl; have hfz29_0 := blk_frozen BK851.out 0; have hfz29_1 := blk_frozen BK851.out 1; have hfz29_2 := blk_frozen BK851.out 2)); try go_wp2_with (first | (go_at_call 20; (with_reducible refine (impl_DishesFind.calls _ _ t831 t837 t849 _ ?side1 ?side2 A24.out).mono ?_); (case side1 => exact pS ((Kd.N_reads' HO_3.out).2.2)); (case side2 => exact (Kd.N_reads' HO_3.out).2.1); rintro e w27 ⟨rfl, hb⟩; have n0_ := Aside0.mk (Kd.N_below F12.q2 hb); have n1_ := Aside0.mk (Kd.R_below (pR HO_4) hb); have n2_ := Aside0.mk (Kd.R_below (pR HO_7) hb); have n3_ := Aside0.mk (Kd.R_below (pR HO_9) hb); have n4_ := Aside0.mk (below_step pB hb); clear HO_3; clear HO_4; clear HO_7; clear HO_9; clear HB; have HO_3 := n0_; have HO_4 := n1_; have HO_7 := n2_; have HO_9 := n3_; have HB := n4_; clear n0_ n1_ n2_ n3_ n4_; (try clear hb); (try clear hb2); (try clear hk); (try clear hi); have p850 : 0 ≤ (t849 : Int) := of_decide_eq_true pA; have q850 : t849 < (t831.length : Int) := of_decide_eq_true pA; obtain ⟨ad850, A850_2, c850_2, e850, hx850_0, hx850_1, hx850_2, hl850_2, hi850_2⟩ := at_T29 (Kd.N_reads' HO_3.out).2.2 t849 p850 q850; cases e850; obtain ⟨ce850, hce850, hMe850, hcc850⟩ := Kd.N_get HO_3.out z29 t849 p850 (by first | exact q850 | exact of_decide_eq_true pA | (have e_ := (Kd.N_reads' HO_3.out).1; omega)); obtain ⟨ua850_2, uc850_2, rfl, ul850_2, ge850_2⟩ := k29_openF hMe850; have hv850_2 := hcc850 2 _ rfl; rw [add_field _ _ 2 (by omega)] at hv850_2; replace hv850_2 := Option.some.inj (hv850_2.symm.trans hx850_2); injection hv850_2 with hva_ hvn_ hvc_; rw [hva_] at ge850_2; rw [hvc_] at ul850_2; have HL850_2 := Aside0.mk (show Kd.V k55 55 _ w.heap.size _ _ ((rd_T29 t831 t849).f2) from Kd.V_mk ul850_2 ge850_2); clear hva_ hvn_ hvc_ ge850_2 ul850_2; clear hcc850 hce850; have HR850_2 := Aside0.mk (hi850_2); have HC850_2 := Aside0.mk hl850_2; clear hi850_2 hl850_2; replace p850 := eq_true p850; replace q850 := eq_true q850) | ((with_reducible refine gate_dst (N := 11) rfl ?_); refine box_event ?hg (N := 11) ?hd (cs := #[.int .i64 0, .int .i64 0, .slice none 0 0]) (t := 29) ?hr ?_; (case hd => rfl); (case hg => rfl); (case hr => first | (go_simp; done) | (go_simp; rfl)); intro gb851 hg w28 hbox hb; have n0_ := Aside0.mk (Kd.N_below (Kd.N_elderB F12.q2 gb851 (Nat.le_of_eq hg.symm)) hb); have n1_ := Aside0.mk (Kd.R_below (pR HO_4) hb); have n2_ := Aside0.mk (Kd.R_below (pR HO_7) hb); have n3_ := Aside0.mk (Kd.R_below (pR HO_9) hb); have n4_ := Aside0.mk (Kd.V_below (Kd.V_elderB (by (with_reducible repeat (first | apply Kd.V_alloc | apply Kd.V_drewN | apply Kd.V_drew)); exact HL850_2.out) gb851 (Nat.le_of_eq hg.symm)) hb); have n5_ := Aside0.mk (Kd.C_below F12.q0 hb); have n6_ := Aside0.mk (below_step pB hb); have n7_ := Aside0.mk (hbox); have n8_ := Aside0.mk ((by rw [hg]; exact (below_size pB) : w.heap.size ≤ gb851)); have n9_ := Aside0.mk ((by rw [hg]; exact (below_size pB) : w.heap.size ≤ gb851)); have n10_ := Aside0.mk ((fun ad_ he_ hp_ => by rw [hg]; exact Nat.ne_of_lt (laws_FnNeeds.cLt_ (show Kd.C k55 _ A850_2 ((rd_T29 t831 t849).f2).length ((rd_T29 t831 t849).f2) from F12.q0) he_ hp_ (by decide)) : ∀ ad_ : Addr, A850_2 = some ad_ → 0 < ((rd_T29 t831 t849).f2).length → ad_.block ≠ gb851)); clear HO_3; clear HO_4; clear HO_7; clear HO_9; clear HL850_2; clear HR850_2; clear HB; have HO_3 := n0_; have HO_4 := n1_; have HO_7 := n2_; have HO_9 := n3_; have HL850_2 := n4_; have HR850_2 := n5_; have HB := n6_; have BK851 := n7_; have GW851 := n8_; have GE851 := n9_; have NS851_HR850_2 := n10_; clear n0_ n1_ n2_ n3_ n4_ n5_ n6_ n7_ n8_ n9_ n10_; clear hb hbox hg; have hcz29_0 : w28.cell? ⟨gb851, 0, none⟩ = some (.int .i64 0) := (blk_cell BK851.out 0).trans rfl; have hcz29_1 : w28.cell? ⟨gb851, 1, none⟩ = some (.int .i64 0) := (blk_cell BK851.out 1).trans rfl; have hcz29_2 : w28.cell? ⟨gb851, 2, none⟩ = some (.slice none 0 0) := (blk_cell BK851.out 2).trans rfl; have hfz29_0 := blk_frozen BK851.out 0; have hfz29_1 := blk_frozen BK851.out 1; have hfz29_2 := blk_frozen BK851.out 2)))
   go_loopg [12] kj5 (fun kq v12 w' => ∃ (x12_2 : Int), v12 = .int .i64 x12_2 ∧ Aside0 (laws_FnNeeds.l0 kq t834 t838 t839 x12_2 ((rd_T29 t831 t849).f0) ((rd_T29 t831 t849).f1) ((rd_T29 t831 t849).f2) = some r) ∧ Aside0 (kq ≤ kj5) ∧ Aside0 (Kd.R k63 63 w' w.heap.size (fun _ => True) (.slice Ao9 t834.length co9) t834) ∧ Aside0 (Kd.R (Kd.int .i64) 3 w' w.heap.size (fun _ => True) v841 t839) ∧ Aside0 (w'.heap[gb851]? = some (.cells #[.int .i64 ((rd_T29 t831 t849).f0), .int .i64 ((rd_T29 t831 t849).f1), (.slice A850_2 ((rd_T29 t831 t849).f2).length c850_2)] 29 (0, 0))) ∧ Aside0 (Kd.C k55 w' A850_2 ((rd_T29 t831 t849).f2).length ((rd_T29 t831 t849).f2)) ∧ Aside0 (Below w.heap.size w w'))
   case atStart => exact ⟨(0), pF, H', ⟨Nat.le_refl _⟩, ⟨by (with_reducible repeat (first | apply Kd.R_alloc | apply Kd.R_drewN | apply Kd.R_drew)); exact Kd.R_mono (Kd.R_far (p := ⟨gb851, 2, none⟩) (Kd.R_far (p := ⟨gb851, 1, none⟩) (Kd.R_far (p := ⟨gb851, 0, none⟩) (Kd.R_types HO_4.out BK851.out (by decide)) (fun _ hk => hk.2) (.int .i64 ((rd_T29 t831 t849).f0))) (fun _ hk => hk.2) (.int .i64 ((rd_T29 t831 t849).f1))) (fun _ hk => hk.2) (.slice A850_2 ((rd_T29 t831 t849).f2).length c850_2)) (fun _ hk => trivial)⟩, ⟨by (with_reducible repeat (first | apply Kd.R_alloc | apply Kd.R_drewN | apply Kd.R_drew)); exact Kd.R_mono (Kd.R_far (p := ⟨gb851, 2, none⟩) (Kd.R_far (p := ⟨gb851, 1, none⟩) (Kd.R_far (p := ⟨gb851, 0, none⟩) (Kd.R_types HO_7.out BK851.out (by decide)) (fun _ hk => hk.2) (.int .i64 ((rd_T29 t831 t849).f0))) (fun _ hk => hk.2) (.int .i64 ((rd_T29 t831 t849).f1))) (fun _ hk => hk.2) (.slice A850_2 ((rd_T29 t831 t849).f2).length c850_2)) (fun _ hk => trivial)⟩, ⟨by (with_reducible repeat (first | refine blk_drewN ?_ _ | refine blk_drew ?_ | refine blk_alloc ?_ _)); refine blk_put (cs := #[.int .i64 ((rd_T29 t831 t849).f0), .int .i64 ((rd_T29 t831 t849).f1), .slice none 0 0]) ?_ 2 _ rfl; (with_reducible repeat (first | refine blk_drewN ?_ _ | refine blk_drew ?_ | refine blk_alloc ?_ _)); refine blk_put (cs := #[.int .i64 ((rd_T29 t831 t849).f0), .int .i64 0, .slice none 0 0]) ?_ 1 _ rfl; (with_reducible repeat (first | refine blk_drewN ?_ _ | refine blk_drew ?_ | refine blk_alloc ?_ _)); refine blk_put (cs := #[.int .i64 0, .int .i64 0, .slice none 0 0]) ?_ 0 _ rfl; (with_reducible repeat (first | refine blk_drewN ?_ _ | refine blk_drew ?_ | refine blk_alloc ?_ _)); exact BK851.out⟩, ⟨(Kd.V_reads' (by (with_reducible repeat (first | apply Kd.V_alloc | apply Kd.V_drewN | apply Kd.V_drew)); exact (Kd.V_mono (Kd.V_far (p := ⟨gb851, 2, none⟩) (Kd.V_far (p := ⟨gb851, 1, none⟩) (Kd.V_far (p := ⟨gb851, 0, none⟩) (Kd.V_mono HL850_2.out (fun k_ hk => (⟨hk, hk.2⟩ : _ ∧ k_ ≠ gb851))) (fun _ hk => hk.2) (.int .i64 ((rd_T29 t831 t849).f0))) (fun _ hk => hk.2) (.int .i64 ((rd_T29 t831 t849).f1))) (fun _ hk => hk.2) (.slice A850_2 ((rd_T29 t831 t849).f2).length c850_2)) (fun _ h_ => h_.1)))).2.2⟩, ⟨pG GE851⟩⟩
   case round =>
    clear H'
    try clear c1
    try clear c2
    try clear c2b0
    try clear c2b1
    try clear p2
    try clear c8
    try clear p8
    try clear q8
    try clear hx8
    try clear c12
    try clear c12b0
    try clear c12b1
    try clear c12b2
    try clear c14
    try clear c19
    try clear c20
    try clear c20b0
    try clear c20b1
    try clear c20b2
    try clear c25
    try clear c25b0
    try clear c26
    try clear c26b0
    try clear hcz29_0
    try clear hcz29_1
    try clear hcz29_2
    try clear hfz29_0
    try clear hfz29_1
    try clear hfz29_2
    try clear hx850_0
    try clear hx850_1
    try clear hx850_2
    try clear p2
    try clear p850
    try clear q850
    obtain ⟨x12_2, rfl, HA, HK2, HO_4, HO_7, BK851, HR850_2, HB⟩ := hrel
    cases gk with
    | zero => exact absurd HA.out (by simp [laws_FnNeeds.l0])
    | succ k2 =>
     have H := HA.out
     clear HA
     simp only [laws_FnNeeds.l0] at H
     rcases (Classical.em (x12_2 < (t834.length : Int))).symm with c30 | c30
     ·rw [if_neg c30] at H
      have c30b0 : decide (x12_2 < (t834.length : Int)) = false := decide_eq_false c30
      clear c30
      obtain rfl := Option.some.inj H
      obtain ⟨Ao50, co50, eo50⟩ := Kd.R_slice HO_7.out
      subst eo50
      go_wp2
      repeat (go_quiet (fail); try go_wp2)
      go_ret
      exact ⟨pE, pG GE851⟩
     rw [if_pos c30] at H
     have c30b0 : decide (x12_2 < (t834.length : Int)) = true := decide_eq_true c30
     clear c30
     have H' := Aside0.mk H
     clear H
     go_wp2
     repeat (go_quiet (fail); try go_wp2)
     go_loopg [13, 14] k2 (fun kq v13 v14 w' => ∃ (x13_3 : Int) (x14_3 : Int), v13 = .int .i64 x13_3 ∧ v14 = .int .i64 x14_3 ∧ Aside0 (laws_FnNeeds.l1 kq t834 t838 t839 x12_2 x13_3 x14_3 ((rd_T29 t831 t849).f0) ((rd_T29 t831 t849).f1) ((rd_T29 t831 t849).f2) = some r) ∧ Aside0 (kq ≤ k2) ∧ Aside0 (Kd.R k63 63 w' w.heap.size (fun _ => True) (.slice Ao9 t834.length co9) t834) ∧ Aside0 (Kd.R (Kd.int .i64) 3 w' w.heap.size (fun _ => True) v841 t839) ∧ Aside0 (w'.heap[gb851]? = some (.cells #[.int .i64 ((rd_T29 t831 t849).f0), .int .i64 ((rd_T29 t831 t849).f1), (.slice A850_2 ((rd_T29 t831 t849).f2).length c850_2)] 29 (0, 0))) ∧ Aside0 (Kd.C k55 w' A850_2 ((rd_T29 t831 t849).f2).length ((rd_T29 t831 t849).f2)) ∧ Aside0 (Below w.heap.size w w'))
     case atStart => exact ⟨(0), (0), pF, pF, H', ⟨Nat.le_refl _⟩, ⟨pR HO_4⟩, ⟨pR HO_7⟩, ⟨pC BK851⟩, ⟨by repeat (first | (with_reducible exact HR850_2.out) | (with_reducible refine Kd.C_alloc ?_ _) | (with_reducible refine Kd.C_drewN ?_ _) | (with_reducible refine Kd.C_drew ?_) | exact HR850_2.out)⟩, ⟨pG GE851⟩⟩
     case round =>
      clear H'
      try clear c1
      try clear c2
      try clear c2b0
      try clear c2b1
      try clear p2
      try clear c3
      try clear c8
      try clear p8
      try clear q8
      try clear hx8
      try clear c12
      try clear c12b0
      try clear c12b1
      try clear c12b2
      try clear c14
      try clear c19
      try clear c20
      try clear c20b0
      try clear c20b1
      try clear c20b2
      try clear c25
      try clear c25b0
      try clear c26
      try clear c26b0
      try clear c30
      try clear c30b0
      try clear hcz29_0
      try clear hcz29_1
      try clear hcz29_2
      try clear hfz29_0
      try clear hfz29_1
      try clear hfz29_2
      try clear hx850_0
      try clear hx850_1
      try clear hx850_2
      try clear p2
      try clear p8
      try clear p850
      try clear q8
      try clear q850
      obtain ⟨x13_3, x14_3, rfl, rfl, HA, HK3, HO_4, HO_7, BK851, HR850_2, HB⟩ := hrel
      cases gk with
      | zero => exact absurd HA.out (by simp [laws_FnNeeds.l1])
      | succ k3 =>
       have H := HA.out
       clear HA
       simp only [laws_FnNeeds.l1] at H
       rcases (Classical.em (x14_3 < (((rd_T29 t831 t849).f2).length : Int))).symm with c31 | c31
       ·rw [if_neg c31] at H
        have c31b0 : decide (x14_3 < (((rd_T29 t831 t849).f2).length : Int)) = false := decide_eq_false c31
        clear c31
        rcases (Classical.em (0 ≤ x12_2)).symm with c40 | c40
        ·rw [if_neg c40] at H
         exact absurd H (by simp)
        rw [if_pos c40] at H
        have c40b0 : decide (0 ≤ x12_2) = true := decide_eq_true c40
        clear c40
        rcases (Classical.em (x12_2 < (t839.length : Int))).symm with c41 | c41
        ·rw [if_neg c41] at H
         exact absurd H (by simp)
        rw [if_pos c41] at H
        have c41b0 : decide (x12_2 < (t839.length : Int)) = true := decide_eq_true c41
        clear c41
        by_cases c42 : (wrap64 ((rd t839 x12_2) * ((rd_T29 t831 t849).f1))) < (wrap64 (x13_3 * t838))
        ·rw [if_pos c42] at H
         have c42b0 : decide ((wrap64 ((rd t839 x12_2) * ((rd_T29 t831 t849).f1))) < (wrap64 (x13_3 * t838))) = true := decide_eq_true c42
         clear c42
         obtain rfl := Option.some.inj H
         have hcz43_0 : wr.cell? ⟨gb851, 0, none⟩ = some (.int .i64 ((rd_T29 t831 t849).f0)) := (blk_cell BK851.out 0).trans rfl
         have hcz43_1 : wr.cell? ⟨gb851, 1, none⟩ = some (.int .i64 ((rd_T29 t831 t849).f1)) := (blk_cell BK851.out 1).trans rfl
         have hcz43_2 : wr.cell? ⟨gb851, 2, none⟩ = some (.slice A850_2 ((rd_T29 t831 t849).f2).length c850_2) := (blk_cell BK851.out 2).trans rfl
         have hfz43_0 := blk_frozen BK851.out 0
         have hfz43_1 := blk_frozen BK851.out 1
         have hfz43_2 := blk_frozen BK851.out 2
         obtain ⟨Ao44, co44, eo44⟩ := Kd.R_slice HO_7.out
         subst eo44
         have p852 : 0 ≤ (x12_2 : Int) := of_decide_eq_true pA
         have q852 : x12_2 < (t839.length : Int) := of_decide_eq_true pA
         obtain ⟨ad852, e852, hx852_0⟩ := Kd.at_int (Kd.R_reads' HO_7.out).2.2 x12_2 p852 q852
         cases e852
         replace p852 := eq_true p852
         replace q852 := eq_true q852
         go_wp2
         repeat (go_quiet (fail); try go_wp2)
         go_ret
         exact ⟨pE, pG GE851⟩
        rw [if_neg c42] at H
        have c42b0 : decide ((wrap64 ((rd t839 x12_2) * ((rd_T29 t831 t849).f1))) < (wrap64 (x13_3 * t838))) = false := decide_eq_false c42
        clear c42
        by_cases c45 : (wrap64 ((wrap64 ((rd t839 x12_2) - 1)) * ((rd_T29 t831 t849).f1))) ≥ (wrap64 (x13_3 * t838))
        ·rw [if_pos c45] at H
         have c45b0 : decide ((wrap64 (x13_3 * t838)) ≤ (wrap64 ((wrap64 ((rd t839 x12_2) - 1)) * ((rd_T29 t831 t849).f1)))) = true := decide_eq_true c45
         clear c45
         obtain rfl := Option.some.inj H
         have hcz46_0 : wr.cell? ⟨gb851, 0, none⟩ = some (.int .i64 ((rd_T29 t831 t849).f0)) := (blk_cell BK851.out 0).trans rfl
         have hcz46_1 : wr.cell? ⟨gb851, 1, none⟩ = some (.int .i64 ((rd_T29 t831 t849).f1)) := (blk_cell BK851.out 1).trans rfl
         have hcz46_2 : wr.cell? ⟨gb851, 2, none⟩ = some (.slice A850_2 ((rd_T29 t831 t849).f2).length c850_2) := (blk_cell BK851.out 2).trans rfl
         have hfz46_0 := blk_frozen BK851.out 0
         have hfz46_1 := blk_frozen BK851.out 1
         have hfz46_2 := blk_frozen BK851.out 2
         obtain ⟨Ao47, co47, eo47⟩ := Kd.R_slice HO_7.out
         subst eo47
         have p852 : 0 ≤ (x12_2 : Int) := of_decide_eq_true pA
         have q852 : x12_2 < (t839.length : Int) := of_decide_eq_true pA
         obtain ⟨ad852, e852, hx852_0⟩ := Kd.at_int (Kd.R_reads' HO_7.out).2.2 x12_2 p852 q852
         cases e852
         replace p852 := eq_true p852
         replace q852 := eq_true q852
         have p853 : 0 ≤ (x12_2 : Int) := of_decide_eq_true pA
         have q853 : x12_2 < (t839.length : Int) := of_decide_eq_true pA
         obtain ⟨ad853, e853, hx853_0⟩ := Kd.at_int (Kd.R_reads' HO_7.out).2.2 x12_2 p853 q853
         obtain rfl : ad852 = ad853 := (by injection e853)
         replace p853 := eq_true p853
         replace q853 := eq_true q853
         go_wp2
         repeat (go_quiet (fail); try go_wp2)
         go_ret
         exact ⟨pE, pG GE851⟩
        rw [if_neg c45] at H
        have c45b0 : decide ((wrap64 (x13_3 * t838)) ≤ (wrap64 ((wrap64 ((rd t839 x12_2) - 1)) * ((rd_T29 t831 t849).f1)))) = false := decide_eq_false c45
        clear c45
        have H' := Aside0.mk H
        clear H
        have hcz48_0 : wr.cell? ⟨gb851, 0, none⟩ = some (.int .i64 ((rd_T29 t831 t849).f0)) := (blk_cell BK851.out 0).trans rfl
        have hcz48_1 : wr.cell? ⟨gb851, 1, none⟩ = some (.int .i64 ((rd_T29 t831 t849).f1)) := (blk_cell BK851.out 1).trans rfl
        have hcz48_2 : wr.cell? ⟨gb851, 2, none⟩ = some (.slice A850_2 ((rd_T29 t831 t849).f2).length c850_2) := (blk_cell BK851.out 2).trans rfl
        have hfz48_0 := blk_frozen BK851.out 0
        have hfz48_1 := blk_frozen BK851.out 1
        have hfz48_2 := blk_frozen BK851.out 2
        obtain ⟨Ao49, co49, eo49⟩ := Kd.R_slice HO_7.out
        subst eo49
        have p852 : 0 ≤ (x12_2 : Int) := of_decide_eq_true pA
        have q852 : x12_2 < (t839.length : Int) := of_decide_eq_true pA
        obtain ⟨ad852, e852, hx852_0⟩ := Kd.at_int (Kd.R_reads' HO_7.out).2.2 x12_2 p852 q852
        cases e852
        replace p852 := eq_true p852
        replace q852 := eq_true q852
        have p853 : 0 ≤ (x12_2 : Int) := of_decide_eq_true pA
        have q853 : x12_2 < (t839.length : Int) := of_decide_eq_true pA
        obtain ⟨ad853, e853, hx853_0⟩ := Kd.at_int (Kd.R_reads' HO_7.out).2.2 x12_2 p853 q853
        obtain rfl : ad852 = ad853 := (by injection e853)
        replace p853 := eq_true p853
        replace q853 := eq_true q853
        go_wp2
        repeat (go_quiet (fail); try go_wp2)
        go_roundg k3
        case measure => have := HJ5.out; have := HK2.out; have := HK3.out; omega
        case rel => exact ⟨(wrap64 (x12_2 + 1)), pF, H', ⟨by have := HJ5.out; have := HK2.out; have := HK3.out; omega⟩, ⟨pR HO_4⟩, ⟨pR HO_7⟩, ⟨pC BK851⟩, ⟨by repeat (first | (with_reducible exact HR850_2.out) | (with_reducible refine Kd.C_alloc ?_ _) | (with_reducible refine Kd.C_drewN ?_ _) | (with_reducible refine Kd.C_drew ?_) | exact HR850_2.out)⟩, ⟨pG GE851⟩⟩
       rw [if_pos c31] at H
       have c31b0 : decide (x14_3 < (((rd_T29 t831 t849).f2).length : Int)) = true := decide_eq_true c31
       clear c31
       rcases (Classical.em (0 ≤ x14_3)).symm with c32 | c32
       ·rw [if_neg c32] at H
        exact absurd H (by simp)
       rw [if_pos c32] at H
       have c32b0 : decide (0 ≤ x14_3) = true := decide_eq_true c32
       clear c32
       by_cases c33 : ((rd_T55 ((rd_T29 t831 t849).f2) x14_3).f1) > 0
       ·rw [if_pos c33] at H
        have c33b0 : decide (0 < ((rd_T55 ((rd_T29 t831 t849).f2) x14_3).f1)) = true := decide_eq_true c33
        clear c33
        obtain rfl := Option.some.inj H
        have hcz34_0 : wr.cell? ⟨gb851, 0, none⟩ = some (.int .i64 ((rd_T29 t831 t849).f0)) := (blk_cell BK851.out 0).trans rfl
        have hcz34_1 : wr.cell? ⟨gb851, 1, none⟩ = some (.int .i64 ((rd_T29 t831 t849).f1)) := (blk_cell BK851.out 1).trans rfl
        have hcz34_2 : wr.cell? ⟨gb851, 2, none⟩ = some (.slice A850_2 ((rd_T29 t831 t849).f2).length c850_2) := (blk_cell BK851.out 2).trans rfl
        have hfz34_0 := blk_frozen BK851.out 0
        have hfz34_1 := blk_frozen BK851.out 1
        have hfz34_2 := blk_frozen BK851.out 2
        have p854 : 0 ≤ (x14_3 : Int) := of_decide_eq_true pA
        have q854 : x14_3 < (((rd_T29 t831 t849).f2).length : Int) := of_decide_eq_true pA
        obtain ⟨ad854, e854, hx854_0, hx854_1, hx854_2⟩ := at_T55 F12.q0 x14_3 p854 q854
        cases e854
        replace p854 := eq_true p854
        replace q854 := eq_true q854
        go_wp2
        repeat (go_quiet (fail); try go_wp2)
        go_ret
        exact ⟨pE, pG GE851⟩
       rw [if_neg c33] at H
       have c33b0 : decide (0 < ((rd_T55 ((rd_T29 t831 t849).f2) x14_3).f1)) = false := decide_eq_false c33
       clear c33
       rcases (Classical.em (0 ≤ x12_2)).symm with c35 | c35
       ·rw [if_neg c35] at H
        exact absurd H (by simp)
       rw [if_pos c35] at H
       have c35b0 : decide (0 ≤ x12_2) = true := decide_eq_true c35
       clear c35
       rcases (Classical.em (x12_2 < (t834.length : Int))).symm with c36 | c36
       ·rw [if_neg c36] at H
        exact absurd H (by simp)
       rw [if_pos c36] at H
       have c36b0 : decide (x12_2 < (t834.length : Int)) = true := decide_eq_true c36
       clear c36
       rcases (Classical.em (((rd_T55 ((rd_T29 t831 t849).f2) x14_3).f0) = ((rd_T63 t834 x12_2).f0))).symm with c37 | c37
       ·rw [if_neg c37] at H
        have c37b0 : (((rd_T55 ((rd_T29 t831 t849).f2) x14_3).f0) == ((rd_T63 t834 x12_2).f0)) = false := beq_eq_false_iff_ne.mpr c37
        have c37b1 : (((rd_T55 ((rd_T29 t831 t849).f2) x14_3).f0) != ((rd_T63 t834 x12_2).f0)) = true := bne_iff_ne.mpr c37
        have H' := Aside0.mk H
        clear H
        have hcz39_0 : wr.cell? ⟨gb851, 0, none⟩ = some (.int .i64 ((rd_T29 t831 t849).f0)) := (blk_cell BK851.out 0).trans rfl
        have hcz39_1 : wr.cell? ⟨gb851, 1, none⟩ = some (.int .i64 ((rd_T29 t831 t849).f1)) := (blk_cell BK851.out 1).trans rfl
        have hcz39_2 : wr.cell? ⟨gb851, 2, none⟩ = some (.slice A850_2 ((rd_T29 t831 t849).f2).length c850_2) := (blk_cell BK851.out 2).trans rfl
        have hfz39_0 := blk_frozen BK851.out 0
        have hfz39_1 := blk_frozen BK851.out 1
        have hfz39_2 := blk_frozen BK851.out 2
        have p854 : 0 ≤ (x14_3 : Int) := of_decide_eq_true pA
        have q854 : x14_3 < (((rd_T29 t831 t849).f2).length : Int) := of_decide_eq_true pA
        obtain ⟨ad854, e854, hx854_0, hx854_1, hx854_2⟩ := at_T55 F12.q0 x14_3 p854 q854
        cases e854
        replace p854 := eq_true p854
        replace q854 := eq_true q854
        have p855 : 0 ≤ (x14_3 : Int) := of_decide_eq_true pA
        have q855 : x14_3 < (((rd_T29 t831 t849).f2).length : Int) := of_decide_eq_true pA
        obtain ⟨ad855, e855, hx855_0, hx855_1, hx855_2⟩ := at_T55 F12.q0 x14_3 p855 q855
        obtain rfl : ad854 = ad855 := (by injection e855)
        replace p855 := eq_true p855
        replace q855 := eq_true q855
        have p856 : 0 ≤ (x12_2 : Int) := of_decide_eq_true pA
        have q856 : x12_2 < (t834.length : Int) := of_decide_eq_true pA
        obtain ⟨ad856, e856, hx856_0, hx856_1, hx856_2, hx856_3, hx856_4, hx856_5⟩ := at_T63 (Kd.R_reads' HO_4.out).2.2 x12_2 p856 q856
        cases e856
        replace p856 := eq_true p856
        replace q856 := eq_true q856
        go_wp2
        repeat (go_quiet (fail); try go_wp2)
        go_roundg k3
        case measure => have := HJ5.out; have := HK2.out; have := HK3.out; omega
        case rel => exact ⟨(x13_3), (wrap64 (x14_3 + 1)), pF, pF, H', ⟨by have := HJ5.out; have := HK2.out; have := HK3.out; omega⟩, ⟨pR HO_4⟩, ⟨pR HO_7⟩, ⟨pC BK851⟩, ⟨by repeat (first | (with_reducible exact HR850_2.out) | (with_reducible refine Kd.C_alloc ?_ _) | (with_reducible refine Kd.C_drewN ?_ _) | (with_reducible refine Kd.C_drew ?_) | exact HR850_2.out)⟩, ⟨pG GE851⟩⟩
       rw [if_pos c37] at H
       have c37b0 : (((rd_T55 ((rd_T29 t831 t849).f2) x14_3).f0) == ((rd_T63 t834 x12_2).f0)) = true := beq_iff_eq.mpr c37
       have c37b1 : (((rd_T55 ((rd_T29 t831 t849).f2) x14_3).f0) != ((rd_T63 t834 x12_2).f0)) = false := bne_eq_false_iff_eq.mpr c37
       clear c37
       have H' := Aside0.mk H
       clear H
       have hcz38_0 : wr.cell? ⟨gb851, 0, none⟩ = some (.int .i64 ((rd_T29 t831 t849).f0)) := (blk_cell BK851.out 0).trans rfl
       have hcz38_1 : wr.cell? ⟨gb851, 1, none⟩ = some (.int .i64 ((rd_T29 t831 t849).f1)) := (blk_cell BK851.out 1).trans rfl
       have hcz38_2 : wr.cell? ⟨gb851, 2, none⟩ = some (.slice A850_2 ((rd_T29 t831 t849).f2).length c850_2) := (blk_cell BK851.out 2).trans rfl
       have hfz38_0 := blk_frozen BK851.out 0
       have hfz38_1 := blk_frozen BK851.out 1
       have hfz38_2 := blk_frozen BK851.out 2
       have p854 : 0 ≤ (x14_3 : Int) := of_decide_eq_true pA
       have q854 : x14_3 < (((rd_T29 t831 t849).f2).length : Int) := of_decide_eq_true pA
       obtain ⟨ad854, e854, hx854_0, hx854_1, hx854_2⟩ := at_T55 F12.q0 x14_3 p854 q854
       cases e854
       replace p854 := eq_true p854
       replace q854 := eq_true q854
       have p855 : 0 ≤ (x14_3 : Int) := of_decide_eq_true pA
       have q855 : x14_3 < (((rd_T29 t831 t849).f2).length : Int) := of_decide_eq_true pA
       obtain ⟨ad855, e855, hx855_0, hx855_1, hx855_2⟩ := at_T55 F12.q0 x14_3 p855 q855
       obtain rfl : ad854 = ad855 := (by injection e855)
       replace p855 := eq_true p855
       replace q855 := eq_true q855
       have p856 : 0 ≤ (x12_2 : Int) := of_decide_eq_true pA
       have q856 : x12_2 < (t834.length : Int) := of_decide_eq_true pA
       obtain ⟨ad856, e856, hx856_0, hx856_1, hx856_2, hx856_3, hx856_4, hx856_5⟩ := at_T63 (Kd.R_reads' HO_4.out).2.2 x12_2 p856 q856
       cases e856
       replace p856 := eq_true p856
       replace q856 := eq_true q856
       have p857 : 0 ≤ (x14_3 : Int) := of_decide_eq_true pA
       have q857 : x14_3 < (((rd_T29 t831 t849).f2).length : Int) := of_decide_eq_true pA
       obtain ⟨ad857, e857, hx857_0, hx857_1, hx857_2⟩ := at_T55 F12.q0 x14_3 p857 q857
       obtain rfl : ad854 = ad857 := (by injection e857)
       replace p857 := eq_true p857
       replace q857 := eq_true q857
       go_wp2
       repeat (go_quiet (fail); try go_wp2)
       go_roundg k3
       case measure => have := HJ5.out; have := HK2.out; have := HK3.out; omega
       case rel => exact ⟨(wrap64 (x13_3 + ((rd_T55 ((rd_T29 t831 t849).f2) x14_3).f2))), (wrap64 (x14_3 + 1)), pF, pF, H', ⟨by have := HJ5.out; have := HK2.out; have := HK3.out; omega⟩, ⟨pR HO_4⟩, ⟨pR HO_7⟩, ⟨pC BK851⟩, ⟨by repeat (first | (with_reducible exact HR850_2.out) | (with_reducible refine Kd.C_alloc ?_ _) | (with_reducible refine Kd.C_drewN ?_ _) | (with_reducible refine Kd.C_drew ?_) | exact HR850_2.out)⟩, ⟨pG GE851⟩⟩
/-- THE ONE PURE STATEMENT of laws_FnNeeds: yours. -/
def laws_FnNeeds.Pure : Prop := ∀ (l0 : List Int), l0.length ≤ maxLen → l0.length * 1 ≤ 140737488351232 → (∀ x ∈ l0, (Lit.int .u8 x).wf = true) → ∃ k, laws_FnNeeds.f k l0 = some true
theorem laws_FnNeeds.walk (P : laws_FnNeeds.Pure) (a0 : Option Addr) (len0 cap0 : Nat) (z0 : List Int) (w : World) (w0 : (a0 = none ∧ len0 = 0 ∧ cap0 = 0 ∧ z0 = []) ∨ ∃ x, a0 = some x ∧ len0 ≤ cap0 ∧ cap0 ≤ maxLen ∧ z0.length = cap0 ∧ (∀ i, i < z0.length → w.cell? (x.add i) = some (.int .u8 (z0.getD i 0))) ∧ ∀ n ∈ z0, (Lit.int .u8 n).wf = true) (y0 : len0 * 1 ≤ 140737488351232) :
  Calls Try.prog 12 #[.slice a0 len0 cap0] w fun e w' => e = .returned (.bool true) ∧ Below w.heap.size w w' := by
 obtain ⟨l0, rfl, hr0, hm0, hw0, hc0⟩ := ReadsInt.ofRowC w0
 obtain ⟨k, h⟩ := P l0 hm0 y0 hw0
 refine (laws_FnNeeds.calls k _ _ l0 true w (Kd.C_of_reads (d := (0 : Int)) (h1 := fun _ => rfl) hr0) hc0 h).mono ?_
 rintro e w' ⟨rfl, hd⟩
 exact ⟨rfl, hd⟩

end Go.Proofs.Ytclldijjbmnkeaa.Q
