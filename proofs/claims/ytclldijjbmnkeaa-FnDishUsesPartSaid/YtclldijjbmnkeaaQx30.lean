-- Written by the kit's print.py for all laws of the seat at once (one namespace), by a program of this session.
import Derived.Test.YtclldijjbmnkeaaQx0
import Derived.Test.YtclldijjbmnkeaaQx5
import Derived.Test.YtclldijjbmnkeaaQx18
import Derived.Test.YtclldijjbmnkeaaQx28
import Derived.Test.YtclldijjbmnkeaaQx29
namespace Go.Proofs.Ytclldijjbmnkeaa.Q
open Go.RowKit Go.Proofs.YtclldijjbmnkeaaW.PrintWords Go.Proofs.YtclldijjbmnkeaaW.PrintLast Go.Proofs.YtclldijjbmnkeaaW.PrintMore
attribute [local go_sem] max2_int min2_int max_two min_two max_three min_three max_four min_four   -- for this text's walks alone
set_option linter.unusedVariables false
set_option linter.unusedSimpArgs false

/-! ### laws_FnDishUsesPart: function 10 -/
mutual
def laws_FnDishUsesPart.j0 : Nat → List (S29) → Int → List Int → List Int → Bool → Option (Bool)
 | 0, _, _, _, _, _ => none
 | k + 1, x3, x5, x6, x7, x38 => if x38 = true then ((laws_sameInts.f k x6 x7).bind fun t772 => (some t772)) else (laws_FnDishUsesPart.l0 k x3 x5 x6 0)
def laws_FnDishUsesPart.l0 : Nat → List (S29) → Int → List Int → Int → Option (Bool)
 | 0, _, _, _, _ => none
 | k + 1, x3, x5, x6, x8 => if x8 < (x6.length : Int) then (if 0 ≤ x8 then (laws_FnDishUsesPart.l1 k x3 x5 x6 x8 ((rd x6 x8) == x5) 0) else (none)) else (some true)
def laws_FnDishUsesPart.l1 : Nat → List (S29) → Int → List Int → Int → Bool → Int → Option (Bool)
 | 0, _, _, _, _, _, _ => none
 | k + 1, x3, x5, x6, x8, x9, x10 => if x10 < (x6.length : Int) then (if 0 ≤ x10 then ((impl_DishesFind.f x3 (rd x6 x10)).bind fun t775 => (if 0 ≤ t775 then (if t775 < (x3.length : Int) then (laws_FnDishUsesPart.l2 k x3 x5 x6 x8 x9 x10 0 ((rd_T29 x3 t775).f0) ((rd_T29 x3 t775).f1) ((rd_T29 x3 t775).f2)) else (none)) else (none))) else (none)) else (if x9 = true then (laws_FnDishUsesPart.l0 k x3 x5 x6 (wrap64 (x8 + 1))) else (some false))
def laws_FnDishUsesPart.l2 : Nat → List (S29) → Int → List Int → Int → Bool → Int → Int → Int → Int → List (S55) → Option (Bool)
 | 0, _, _, _, _, _, _, _, _, _, _ => none
 | k + 1, x3, x5, x6, x8, x9, x10, x12, x778000, x778001, x778002 => if x12 < (x778002.length : Int) then (if x9 = true then (laws_FnDishUsesPart.l2 k x3 x5 x6 x8 true x10 (wrap64 (x12 + 1)) x778000 x778001 x778002) else (if 0 ≤ x12 then (if 0 ≤ x8 then (if x8 < (x6.length : Int) then (laws_FnDishUsesPart.l2 k x3 x5 x6 x8 (((rd_T55 x778002 x12).f1) == (rd x6 x8)) x10 (wrap64 (x12 + 1)) x778000 x778001 x778002) else (none)) else (none)) else (none))) else (laws_FnDishUsesPart.l1 k x3 x5 x6 x8 x9 (wrap64 (x10 + 1)))
end
def laws_FnDishUsesPart.f (k : Nat) (l0 : List Int) : Option (Bool) := if (l0.length : Int) > 1048576 then (some true) else ((spec_DrawDishUses.f k l0).bind fun bt758 => ((impl_DishUses.f k bt758.1 bt758.2.1 bt758.2.2).bind fun t765 => ((spec_DishUses.f k bt758.1 bt758.2.1 bt758.2.2).bind fun t768 => ((laws_sameInts.f k t765 t768).bind fun t771 => (if t771 = true then (laws_FnDishUsesPart.j0 k bt758.1 bt758.2.2 t765 t768 ((t768.length : Int) == 0)) else (laws_FnDishUsesPart.j0 k bt758.1 bt758.2.2 t765 t768 true))))))
theorem laws_FnDishUsesPart.mono_l : ∀ k, (∀ y0 y1 y2 y3 y4, LeO (laws_FnDishUsesPart.j0 k y0 y1 y2 y3 y4) (laws_FnDishUsesPart.j0 (k + 1) y0 y1 y2 y3 y4)) ∧ (∀ y0 y1 y2 y3, LeO (laws_FnDishUsesPart.l0 k y0 y1 y2 y3) (laws_FnDishUsesPart.l0 (k + 1) y0 y1 y2 y3)) ∧ (∀ y0 y1 y2 y3 y4 y5, LeO (laws_FnDishUsesPart.l1 k y0 y1 y2 y3 y4 y5) (laws_FnDishUsesPart.l1 (k + 1) y0 y1 y2 y3 y4 y5)) ∧ (∀ y0 y1 y2 y3 y4 y5 y6 y7 y8 y9, LeO (laws_FnDishUsesPart.l2 k y0 y1 y2 y3 y4 y5 y6 y7 y8 y9) (laws_FnDishUsesPart.l2 (k + 1) y0 y1 y2 y3 y4 y5 y6 y7 y8 y9))
 | 0 => ⟨fun _ _ _ _ _ r h => by simp [laws_FnDishUsesPart.j0] at h, fun _ _ _ _ r h => by simp [laws_FnDishUsesPart.l0] at h, fun _ _ _ _ _ _ r h => by simp [laws_FnDishUsesPart.l1] at h, fun _ _ _ _ _ _ _ _ _ _ r h => by simp [laws_FnDishUsesPart.l2] at h⟩
 | k + 1 => by
  obtain ⟨ih0, ih1, ih2, ih3⟩ := laws_FnDishUsesPart.mono_l k
  refine ⟨?_, ?_, ?_, ?_⟩
  ·intro y0 y1 y2 y3 y4
   unfold laws_FnDishUsesPart.j0
   repeat' first
   | (with_reducible exact ih0 _ _ _ _ _)
   | (with_reducible exact ih1 _ _ _ _)
   | (with_reducible exact ih2 _ _ _ _ _ _)
   | (with_reducible exact ih3 _ _ _ _ _ _ _ _ _ _)
   | (with_reducible exact impl_DishUses.mono _ _ _ _)
   | (with_reducible exact laws_sameInts.mono _ _ _)
   | (with_reducible exact spec_DishUses.mono _ _ _ _)
   | (with_reducible exact spec_DrawDishUses.mono _ _)
   | (with_reducible exact LeO.refl _)
   | (with_reducible exact LeO.none _)
   | (with_reducible refine LeO.ite ?_ ?_)
   | (with_reducible refine LeO.bind ?_ (fun _ => ?_))
   | exact ih0 _ _ _ _ _
   | exact ih1 _ _ _ _
   | exact ih2 _ _ _ _ _ _
   | exact ih3 _ _ _ _ _ _ _ _ _ _
   | exact impl_DishUses.mono _ _ _ _
   | exact laws_sameInts.mono _ _ _
   | exact spec_DishUses.mono _ _ _ _
   | exact spec_DrawDishUses.mono _ _
   | exact LeO.none _
   | refine LeO.ite ?_ ?_
   | refine LeO.bind ?_ (fun _ => ?_)
  ·intro y0 y1 y2 y3
   unfold laws_FnDishUsesPart.l0
   repeat' first
   | (with_reducible exact ih0 _ _ _ _ _)
   | (with_reducible exact ih1 _ _ _ _)
   | (with_reducible exact ih2 _ _ _ _ _ _)
   | (with_reducible exact ih3 _ _ _ _ _ _ _ _ _ _)
   | (with_reducible exact impl_DishUses.mono _ _ _ _)
   | (with_reducible exact laws_sameInts.mono _ _ _)
   | (with_reducible exact spec_DishUses.mono _ _ _ _)
   | (with_reducible exact spec_DrawDishUses.mono _ _)
   | (with_reducible exact LeO.refl _)
   | (with_reducible exact LeO.none _)
   | (with_reducible refine LeO.ite ?_ ?_)
   | (with_reducible refine LeO.bind ?_ (fun _ => ?_))
   | exact ih0 _ _ _ _ _
   | exact ih1 _ _ _ _
   | exact ih2 _ _ _ _ _ _
   | exact ih3 _ _ _ _ _ _ _ _ _ _
   | exact impl_DishUses.mono _ _ _ _
   | exact laws_sameInts.mono _ _ _
   | exact spec_DishUses.mono _ _ _ _
   | exact spec_DrawDishUses.mono _ _
   | exact LeO.none _
   | refine LeO.ite ?_ ?_
   | refine LeO.bind ?_ (fun _ => ?_)
  ·intro y0 y1 y2 y3 y4 y5
   unfold laws_FnDishUsesPart.l1
   repeat' first
   | (with_reducible exact ih0 _ _ _ _ _)
   | (with_reducible exact ih1 _ _ _ _)
   | (with_reducible exact ih2 _ _ _ _ _ _)
   | (with_reducible exact ih3 _ _ _ _ _ _ _ _ _ _)
   | (with_reducible exact impl_DishUses.mono _ _ _ _)
   | (with_reducible exact laws_sameInts.mono _ _ _)
   | (with_reducible exact spec_DishUses.mono _ _ _ _)
   | (with_reducible exact spec_DrawDishUses.mono _ _)
   | (with_reducible exact LeO.refl _)
   | (with_reducible exact LeO.none _)
   | (with_reducible refine LeO.ite ?_ ?_)
   | (with_reducible refine LeO.bind ?_ (fun _ => ?_))
   | exact ih0 _ _ _ _ _
   | exact ih1 _ _ _ _
   | exact ih2 _ _ _ _ _ _
   | exact ih3 _ _ _ _ _ _ _ _ _ _
   | exact impl_DishUses.mono _ _ _ _
   | exact laws_sameInts.mono _ _ _
   | exact spec_DishUses.mono _ _ _ _
   | exact spec_DrawDishUses.mono _ _
   | exact LeO.none _
   | refine LeO.ite ?_ ?_
   | refine LeO.bind ?_ (fun _ => ?_)
  ·intro y0 y1 y2 y3 y4 y5 y6 y7 y8 y9
   unfold laws_FnDishUsesPart.l2
   repeat' first
   | (with_reducible exact ih0 _ _ _ _ _)
   | (with_reducible exact ih1 _ _ _ _)
   | (with_reducible exact ih2 _ _ _ _ _ _)
   | (with_reducible exact ih3 _ _ _ _ _ _ _ _ _ _)
   | (with_reducible exact impl_DishUses.mono _ _ _ _)
   | (with_reducible exact laws_sameInts.mono _ _ _)
   | (with_reducible exact spec_DishUses.mono _ _ _ _)
   | (with_reducible exact spec_DrawDishUses.mono _ _)
   | (with_reducible exact LeO.refl _)
   | (with_reducible exact LeO.none _)
   | (with_reducible refine LeO.ite ?_ ?_)
   | (with_reducible refine LeO.bind ?_ (fun _ => ?_))
   | exact ih0 _ _ _ _ _
   | exact ih1 _ _ _ _
   | exact ih2 _ _ _ _ _ _
   | exact ih3 _ _ _ _ _ _ _ _ _ _
   | exact impl_DishUses.mono _ _ _ _
   | exact laws_sameInts.mono _ _ _
   | exact spec_DishUses.mono _ _ _ _
   | exact spec_DrawDishUses.mono _ _
   | exact LeO.none _
   | refine LeO.ite ?_ ?_
   | refine LeO.bind ?_ (fun _ => ?_)
theorem laws_FnDishUsesPart.mono : ∀ a0 k, LeO (laws_FnDishUsesPart.f k a0) (laws_FnDishUsesPart.f (k + 1) a0) := by
 intro a0 k
 obtain ⟨ih0, ih1, ih2, ih3⟩ := laws_FnDishUsesPart.mono_l k
 unfold laws_FnDishUsesPart.f
 repeat' first
   | (with_reducible exact ih0 _ _ _ _ _)
   | (with_reducible exact ih1 _ _ _ _)
   | (with_reducible exact ih2 _ _ _ _ _ _)
   | (with_reducible exact ih3 _ _ _ _ _ _ _ _ _ _)
   | (with_reducible exact impl_DishUses.mono _ _ _ _)
   | (with_reducible exact laws_sameInts.mono _ _ _)
   | (with_reducible exact spec_DishUses.mono _ _ _ _)
   | (with_reducible exact spec_DrawDishUses.mono _ _)
   | (with_reducible exact LeO.refl _)
   | (with_reducible exact LeO.none _)
   | (with_reducible refine LeO.ite ?_ ?_)
   | (with_reducible refine LeO.bind ?_ (fun _ => ?_))
   | exact ih0 _ _ _ _ _
   | exact ih1 _ _ _ _
   | exact ih2 _ _ _ _ _ _
   | exact ih3 _ _ _ _ _ _ _ _ _ _
   | exact impl_DishUses.mono _ _ _ _
   | exact laws_sameInts.mono _ _ _
   | exact spec_DishUses.mono _ _ _ _
   | exact spec_DrawDishUses.mono _ _
   | exact LeO.none _
   | refine LeO.ite ?_ ?_
   | refine LeO.bind ?_ (fun _ => ?_)
theorem laws_FnDishUsesPart.cLt_ {α : Type} {d : Kd α} {W : World} {A : Option Addr} {n : Nat} {xs : List α} (h : d.C W A n xs) {ad : Addr} (he : A = some ad) (hp : 0 < n) (hs : 0 < d.sz) : ad.block < W.heap.size := by
 subst he
 cases xs with
 | nil => exact absurd h.1 (by simp; omega)
 | cons x xs' =>
  obtain ⟨ad', c, e, hcl, _, hcc⟩ := Kd.C_get h x 0 (Int.le_refl 0) (by omega)
  injection e with e
  subst e
  have h4 := hcc 0 _ (List.getElem?_eq_getElem (by omega))
  have h5 := World.block_lt_of_cell? W _ h4
  rwa [add_block] at h5
theorem F10.q0 {P : Prop} (h : P := by repeat (first | (with_reducible exact HR776_2.out) | (with_reducible refine Kd.C_alloc ?_ _) | (with_reducible refine Kd.C_drewN ?_ _) | (with_reducible refine Kd.C_drew ?_) | exact HR776_2.out)) : P := h
theorem F10.q1 {P : Prop} (h : P := by (with_reducible repeat (first | apply Kd.N_alloc | apply Kd.N_drewN | apply Kd.N_drew)); exact HO760.out) : P := h
theorem F10.q2 {P : Prop} (h : P := by (with_reducible repeat (first | apply Kd.N_alloc | apply Kd.N_drewN | apply Kd.N_drew)); exact HO_3.out) : P := h
set_option maxHeartbeats 8000000 in
set_option maxRecDepth 100000 in
theorem laws_FnDishUsesPart.calls (k : Nat) (A0 : Option Addr) (c0 : Nat) (l0 : List Int) (r : Bool) (w : World) (hr0 : Kd.C (Kd.int .u8) w A0 l0.length l0) (hc0 : l0.length ≤ c0) (h : laws_FnDishUsesPart.f k l0 = some r) :
  Calls Try.prog 10 #[.slice A0 l0.length c0] w fun e w' => e = .returned (.bool r) ∧ Below w.heap.size w w' := by
 have hu29 := Try.underlying29
 have HR0 := Aside0.mk hr0
 have HC0 := Aside0.mk hc0
 clear hr0 hc0
 have HB := Aside0.mk (Below.refl w.heap.size w)
 have H : (if (l0.length : Int) > 1048576 then (some true) else ((spec_DrawDishUses.f k l0).bind fun bt758 => ((impl_DishUses.f k bt758.1 bt758.2.1 bt758.2.2).bind fun t765 => ((spec_DishUses.f k bt758.1 bt758.2.1 bt758.2.2).bind fun t768 => ((laws_sameInts.f k t765 t768).bind fun t771 => (if t771 = true then (laws_FnDishUsesPart.j0 k bt758.1 bt758.2.2 t765 t768 ((t768.length : Int) == 0)) else (laws_FnDishUsesPart.j0 k bt758.1 bt758.2.2 t765 t768 true))))))) = some r := h
 clear h
 by_cases c2 : (l0.length : Int) > 1048576
 ·rw [if_pos c2] at H
  have c2b0 : decide (1048576 < (l0.length : Int)) = true := decide_eq_true c2
  have c2b1 : decide (1048576 < l0.length) = true := decide_eq_true (by omega)
  clear c2
  obtain rfl := Option.some.inj H
  go_enter Try.func10, Try.ntmps10
  go_wp2
  repeat (go_quiet (fail); try go_wp2)
  go_ret
  exact ⟨pE, pB⟩
 rw [if_neg c2] at H
 have c2b0 : decide (1048576 < (l0.length : Int)) = false := decide_eq_false c2
 have c2b1 : decide (1048576 < l0.length) = false := decide_eq_false (by omega)
 clear c2
 replace H := Option.bind_eq_some_iff.mp H
 obtain ⟨⟨t758, t761, t764⟩, A30, H⟩ := H
 replace H : ((impl_DishUses.f k t758 t761 t764).bind fun t765 => ((spec_DishUses.f k t758 t761 t764).bind fun t768 => ((laws_sameInts.f k t765 t768).bind fun t771 => (if t771 = true then (laws_FnDishUsesPart.j0 k t758 t764 t765 t768 ((t768.length : Int) == 0)) else (laws_FnDishUsesPart.j0 k t758 t764 t765 t768 true))))) = some r := H
 have A3 := Aside0.mk A30
 clear A30
 replace H := Option.bind_eq_some_iff.mp H
 obtain ⟨t765, A40, H⟩ := H
 replace H : ((spec_DishUses.f k t758 t761 t764).bind fun t768 => ((laws_sameInts.f k t765 t768).bind fun t771 => (if t771 = true then (laws_FnDishUsesPart.j0 k t758 t764 t765 t768 ((t768.length : Int) == 0)) else (laws_FnDishUsesPart.j0 k t758 t764 t765 t768 true)))) = some r := H
 have A4 := Aside0.mk A40
 clear A40
 replace H := Option.bind_eq_some_iff.mp H
 obtain ⟨t768, A50, H⟩ := H
 replace H : ((laws_sameInts.f k t765 t768).bind fun t771 => (if t771 = true then (laws_FnDishUsesPart.j0 k t758 t764 t765 t768 ((t768.length : Int) == 0)) else (laws_FnDishUsesPart.j0 k t758 t764 t765 t768 true))) = some r := H
 have A5 := Aside0.mk A50
 clear A50
 have HC6 := Aside0.mk H
 clear H
 go_enter Try.func10, Try.ntmps10
 go_upto_region 6 with (first | (go_at_call 42; (with_reducible refine (spec_DrawDishUses.calls k _ _ l0 t758 t761 t764 _ ?side1 ?side2 A3.out).mono ?_); (case side1 => exact pS (HR0.out)); (case side2 => exact HC0.out); rintro e w7 ⟨v759, v762, rfl, ho0, ho1, hb⟩; have n0_ := Aside0.mk (Kd.N_lower (Kd.N_mono (ok' := fun k_ => some k_ ≠ (v762 : Value).ownBlock) ho0 (fun k_ hk_ => hk_.2)) (below_size pB)); have n1_ := Aside0.mk (Kd.R_lower (Kd.R_mono (ok' := fun k_ => True) ho1 (fun _ hk_ => trivial)) (below_size pB)); have n2_ := Aside0.mk (below_step pB hb); clear HB; have HO760 := n0_; have HO763 := n1_; have HB := n2_; clear n0_ n1_ n2_; (try clear hb); (try clear hb2); (try clear hk); (try clear hi); (try clear ho0); (try clear ho1); obtain ⟨Ao8, co8, eo8⟩ := Kd.N_slice HO760.out; subst eo8; obtain ⟨Ao9, co9, eo9⟩ := Kd.R_slice HO763.out; subst eo9) | (go_at_call 31; (with_reducible refine (impl_DishUses.calls k _ _ t758 _ _ t761 t764 t765 _ ?side1 ?side2 ?side3 ?side4 A4.out).mono ?_); (case side1 => exact pS ((Kd.N_reads' HO760.out).2.2)); (case side2 => exact (Kd.N_reads' HO760.out).2.1); (case side3 => exact pS ((Kd.R_reads' HO763.out).2.2)); (case side4 => exact (Kd.R_reads' HO763.out).2.1); rintro e w10 ⟨v766, rfl, ho0, hb⟩; have n0_ := Aside0.mk (Kd.N_elder' F10.q1 (Kd.R_base ho0) hb); have n1_ := Aside0.mk (Kd.R_below (pR HO763) hb); have n2_ := Aside0.mk (Kd.R_lower ho0 (below_size pB)); have n3_ := Aside0.mk (below_step pB hb); clear HO760; clear HO763; clear HB; have HO760 := n0_; have HO763 := n1_; have HO767 := n2_; have HB := n3_; clear n0_ n1_ n2_ n3_; (try clear hb); (try clear hb2); (try clear hk); (try clear hi); (try clear ho0)) | (go_at_call 30; (with_reducible refine (spec_DishUses.calls k _ _ t758 _ _ t761 t764 t768 _ ?side1 ?side2 ?side3 ?side4 A5.out).mono ?_); (case side1 => exact pS ((Kd.N_reads' HO760.out).2.2)); (case side2 => exact (Kd.N_reads' HO760.out).2.1); (case side3 => exact pS ((Kd.R_reads' HO763.out).2.2)); (case side4 => exact (Kd.R_reads' HO763.out).2.1); rintro e w11 ⟨v769, rfl, ho0, hb⟩; have n0_ := Aside0.mk (Kd.N_elder' F10.q1 (Kd.R_base ho0) hb); have n1_ := Aside0.mk (Kd.R_below (pR HO763) hb); have n2_ := Aside0.mk (Kd.R_elder' (pR HO767) (Kd.R_base ho0) hb); have n3_ := Aside0.mk (Kd.R_lower (Kd.R_new' ho0 (Kd.R_lt (pR HO767))) (below_size pB)); have n4_ := Aside0.mk (below_step pB hb); clear HO760; clear HO763; clear HO767; clear HB; have HO760 := n0_; have HO763 := n1_; have HO767 := n2_; have HO770 := n3_; have HB := n4_; clear n0_ n1_ n2_ n3_ n4_; (try clear hb); (try clear hb2); (try clear hk); (try clear hi); (try clear ho0)))
 repeat (go_quiet (first | (go_at_call 42; (with_reducible refine (spec_DrawDishUses.calls k _ _ l0 t758 t761 t764 _ ?side1 ?side2 A3.out).mono ?_); (case side1 => exact pS (HR0.out)); (case side2 => exact HC0.out); rintro e w7 ⟨v759, v762, rfl, ho0, ho1, hb⟩; have n0_ := Aside0.mk (Kd.N_lower (Kd.N_mono (ok' := fun k_ => some k_ ≠ (v762 : Value).ownBlock) ho0 (fun k_ hk_ => hk_.2)) (below_size pB)); have n1_ := Aside0.mk (Kd.R_lower (Kd.R_mono (ok' := fun k_ => True) ho1 (fun _ hk_ => trivial)) (below_size pB)); have n2_ := Aside0.mk (below_step pB hb); clear HB; have HO760 := n0_; have HO763 := n1_; have HB := n2_; clear n0_ n1_ n2_; (try clear hb); (try clear hb2); (try clear hk); (try clear hi); (try clear ho0); (try clear ho1); obtain ⟨Ao8, co8, eo8⟩ := Kd.N_slice HO760.out; subst eo8; obtain ⟨Ao9, co9, eo9⟩ := Kd.R_slice HO763.out; subst eo9) | (go_at_call 31; (with_reducible refine (impl_DishUses.calls k _ _ t758 _ _ t761 t764 t765 _ ?side1 ?side2 ?side3 ?side4 A4.out).mono ?_); (case side1 => exact pS ((Kd.N_reads' HO760.out).2.2)); (case side2 => exact (Kd.N_reads' HO760.out).2.1); (case side3 => exact pS ((Kd.R_reads' HO763.out).2.2)); (case side4 => exact (Kd.R_reads' HO763.out).2.1); rintro e w10 ⟨v766, rfl, ho0, hb⟩; have n0_ := Aside0.mk (Kd.N_elder' F10.q1 (Kd.R_base ho0) hb); have n1_ := Aside0.mk (Kd.R_below (pR HO763) hb); have n2_ := Aside0.mk (Kd.R_lower ho0 (below_size pB)); have n3_ := Aside0.mk (below_step pB hb); clear HO760; clear HO763; clear HB; have HO760 := n0_; have HO763 := n1_; have HO767 := n2_; have HB := n3_; clear n0_ n1_ n2_ n3_; (try clear hb); (try clear hb2); (try clear hk); (try clear hi); (try clear ho0)) | (go_at_call 30; (with_reducible refine (spec_DishUses.calls k _ _ t758 _ _ t761 t764 t768 _ ?side1 ?side2 ?side3 ?side4 A5.out).mono ?_); (case side1 => exact pS ((Kd.N_reads' HO760.out).2.2)); (case side2 => exact (Kd.N_reads' HO760.out).2.1); (case side3 => exact pS ((Kd.R_reads' HO763.out).2.2)); (case side4 => exact (Kd.R_reads' HO763.out).2.1); rintro e w11 ⟨v769, rfl, ho0, hb⟩; have n0_ := Aside0.mk (Kd.N_elder' F10.q1 (Kd.R_base ho0) hb); have n1_ := Aside0.mk (Kd.R_below (pR HO763) hb); have n2_ := Aside0.mk (Kd.R_elder' (pR HO767) (Kd.R_base ho0) hb); have n3_ := Aside0.mk (Kd.R_lower (Kd.R_new' ho0 (Kd.R_lt (pR HO767))) (below_size pB)); have n4_ := Aside0.mk (below_step pB hb); clear HO760; clear HO763; clear HO767; clear HB; have HO760 := n0_; have HO763 := n1_; have HO767 := n2_; have HO770 := n3_; have HB := n4_; clear n0_ n1_ n2_ n3_ n4_; (try clear hb); (try clear hb2); (try clear hk); (try clear hi); (try clear ho0))); go_upto_region 6 with (first | (go_at_call 42; (with_reducible refine (spec_DrawDishUses.calls k _ _ l0 t758 t761 t764 _ ?side1 ?side2 A3.out).mono ?_); (case side1 => exact pS (HR0.out)); (case side2 => exact HC0.out); rintro e w7 ⟨v759, v762, rfl, ho0, ho1, hb⟩; have n0_ := Aside0.mk (Kd.N_lower (Kd.N_mono (ok' := fun k_ => some k_ ≠ (v762 : Value).ownBlock) ho0 (fun k_ hk_ => hk_.2)) (below_size pB)); have n1_ := Aside0.mk (Kd.R_lower (Kd.R_mono (ok' := fun k_ => True) ho1 (fun _ hk_ => trivial)) (below_size pB)); have n2_ := Aside0.mk (below_step pB hb); clear HB; have HO760 := n0_; have HO763 := n1_; have HB := n2_; clear n0_ n1_ n2_; (try clear hb); (try clear hb2); (try clear hk); (try clear hi); (try clear ho0); (try clear ho1); obtain ⟨Ao8, co8, eo8⟩ := Kd.N_slice HO760.out; subst eo8; obtain ⟨Ao9, co9, eo9⟩ := Kd.R_slice HO763.out; subst eo9) | (go_at_call 31; (with_reducible refine (impl_DishUses.calls k _ _ t758 _ _ t761 t764 t765 _ ?side1 ?side2 ?side3 ?side4 A4.out).mono ?_); (case side1 => exact pS ((Kd.N_reads' HO760.out).2.2)); (case side2 => exact (Kd.N_reads' HO760.out).2.1); (case side3 => exact pS ((Kd.R_reads' HO763.out).2.2)); (case side4 => exact (Kd.R_reads' HO763.out).2.1); rintro e w10 ⟨v766, rfl, ho0, hb⟩; have n0_ := Aside0.mk (Kd.N_elder' F10.q1 (Kd.R_base ho0) hb); have n1_ := Aside0.mk (Kd.R_below (pR HO763) hb); have n2_ := Aside0.mk (Kd.R_lower ho0 (below_size pB)); have n3_ := Aside0.mk (below_step pB hb); clear HO760; clear HO763; clear HB; have HO760 := n0_; have HO763 := n1_; have HO767 := n2_; have HB := n3_; clear n0_ n1_ n2_ n3_; (try clear hb); (try clear hb2); (try clear hk); (try clear hi); (try clear ho0)) | (go_at_call 30; (with_reducible refine (spec_DishUses.calls k _ _ t758 _ _ t761 t764 t768 _ ?side1 ?side2 ?side3 ?side4 A5.out).mono ?_); (case side1 => exact pS ((Kd.N_reads' HO760.out).2.2)); (case side2 => exact (Kd.N_reads' HO760.out).2.1); (case side3 => exact pS ((Kd.R_reads' HO763.out).2.2)); (case side4 => exact (Kd.R_reads' HO763.out).2.1); rintro e w11 ⟨v769, rfl, ho0, hb⟩; have n0_ := Aside0.mk (Kd.N_elder' F10.q1 (Kd.R_base ho0) hb); have n1_ := Aside0.mk (Kd.R_below (pR HO763) hb); have n2_ := Aside0.mk (Kd.R_elder' (pR HO767) (Kd.R_base ho0) hb); have n3_ := Aside0.mk (Kd.R_lower (Kd.R_new' ho0 (Kd.R_lt (pR HO767))) (below_size pB)); have n4_ := Aside0.mk (below_step pB hb); clear HO760; clear HO763; clear HO767; clear HB; have HO760 := n0_; have HO763 := n1_; have HO767 := n2_; have HO770 := n3_; have HB := n4_; clear n0_ n1_ n2_ n3_ n4_; (try clear hb); (try clear hb2); (try clear hk); (try clear hi); (try clear ho0))))
 (try simp only [Act.put, List.setIfInBounds_toArray, List.set_cons_zero, List.set_cons_succ])
 go_cut [38] (fun v38 wc => ∃ (kq : Nat) (x38_5 : Bool), v38 = .bool x38_5 ∧ Aside0 (laws_FnDishUsesPart.j0 kq t758 t764 t765 t768 x38_5 = some r) ∧ Aside0 (kq ≤ k) ∧ Aside0 (Kd.N k29 29 wc w.heap.size (fun k_ => some k_ ≠ (v766 : Value).ownBlock ∧ some k_ ≠ (v769 : Value).ownBlock) (.slice Ao8 t758.length co8) t758) ∧ Aside0 (Kd.R (Kd.int .i64) 3 wc w.heap.size (fun k_ => some k_ ≠ (v769 : Value).ownBlock) v766 t765) ∧ Aside0 (Kd.R (Kd.int .i64) 3 wc w.heap.size (fun k_ => some k_ ≠ (v766 : Value).ownBlock) v769 t768) ∧ Aside0 (Below w.heap.size w wc))
 case first =>
  have H := HC6.out
  clear HC6
  replace H := Option.bind_eq_some_iff.mp H
  obtain ⟨t771, A120, H⟩ := H
  replace H : (if t771 = true then (laws_FnDishUsesPart.j0 k t758 t764 t765 t768 ((t768.length : Int) == 0)) else (laws_FnDishUsesPart.j0 k t758 t764 t765 t768 true)) = some r := H
  have A12 := Aside0.mk A120
  clear A120
  by_cases c13 : t771 = true
  ·subst c13
   have H1 : (laws_FnDishUsesPart.j0 k t758 t764 t765 t768 ((t768.length : Int) == 0)) = some r := by rw [if_pos rfl] at H; exact H
   clear H
   have H := H1
   clear H1
   have H' := Aside0.mk H
   clear H
   obtain ⟨Ao14, co14, eo14⟩ := Kd.R_slice HO767.out
   subst eo14
   obtain ⟨Ao15, co15, eo15⟩ := Kd.R_slice HO770.out
   subst eo15
   go_wp2_with (first | (go_at_call 43; (with_reducible refine (laws_sameInts.calls k _ _ t765 _ _ t768 true _ ?side1 ?side2 ?side3 ?side4 A12.out).mono ?_); (case side1 => exact pS ((Kd.R_reads' HO767.out).2.2)); (case side2 => exact (Kd.R_reads' HO767.out).2.1); (case side3 => exact pS ((Kd.R_reads' HO770.out).2.2)); (case side4 => exact (Kd.R_reads' HO770.out).2.1); rintro e w' ⟨rfl, ⟨nd, rfl⟩⟩; (try exact pD)))
   repeat (go_quiet (first | (go_at_call 43; (with_reducible refine (laws_sameInts.calls k _ _ t765 _ _ t768 true _ ?side1 ?side2 ?side3 ?side4 A12.out).mono ?_); (case side1 => exact pS ((Kd.R_reads' HO767.out).2.2)); (case side2 => exact (Kd.R_reads' HO767.out).2.1); (case side3 => exact pS ((Kd.R_reads' HO770.out).2.2)); (case side4 => exact (Kd.R_reads' HO770.out).2.1); rintro e w' ⟨rfl, ⟨nd, rfl⟩⟩; (try exact pD))); try go_wp2_with (first | (go_at_call 43; (with_reducible refine (laws_sameInts.calls k _ _ t765 _ _ t768 true _ ?side1 ?side2 ?side3 ?side4 A12.out).mono ?_); (case side1 => exact pS ((Kd.R_reads' HO767.out).2.2)); (case side2 => exact (Kd.R_reads' HO767.out).2.1); (case side3 => exact pS ((Kd.R_reads' HO770.out).2.2)); (case side4 => exact (Kd.R_reads' HO770.out).2.1); rintro e w' ⟨rfl, ⟨nd, rfl⟩⟩; (try exact pD))))
   go_meet
   case rel => exact ⟨_, (((t768.length : Int) == 0)), pF, H', ⟨by first | omega | exact Nat.le_refl _⟩, ⟨by (with_reducible repeat (first | apply Kd.N_alloc | apply Kd.N_drewN | apply Kd.N_drew)); exact Kd.N_mono HO760.out (fun _ hk => ⟨hk.1.2, hk.2⟩)⟩, ⟨by (with_reducible repeat (first | apply Kd.R_alloc | apply Kd.R_drewN | apply Kd.R_drew)); exact Kd.R_mono HO767.out (fun _ hk => hk.2)⟩, ⟨by (with_reducible repeat (first | apply Kd.R_alloc | apply Kd.R_drewN | apply Kd.R_drew)); exact Kd.R_mono HO770.out (fun _ hk => hk.2)⟩, ⟨pB⟩⟩
  replace c13 := Bool.eq_false_iff.mpr c13
  subst c13
  have H1 : (laws_FnDishUsesPart.j0 k t758 t764 t765 t768 true) = some r := by rw [if_neg (show ¬ (false = true) by decide)] at H; exact H
  clear H
  have H := H1
  clear H1
  have H' := Aside0.mk H
  clear H
  obtain ⟨Ao16, co16, eo16⟩ := Kd.R_slice HO767.out
  subst eo16
  obtain ⟨Ao17, co17, eo17⟩ := Kd.R_slice HO770.out
  subst eo17
  go_wp2_with (first | (go_at_call 43; (with_reducible refine (laws_sameInts.calls k _ _ t765 _ _ t768 false _ ?side1 ?side2 ?side3 ?side4 A12.out).mono ?_); (case side1 => exact pS ((Kd.R_reads' HO767.out).2.2)); (case side2 => exact (Kd.R_reads' HO767.out).2.1); (case side3 => exact pS ((Kd.R_reads' HO770.out).2.2)); (case side4 => exact (Kd.R_reads' HO770.out).2.1); rintro e w' ⟨rfl, ⟨nd, rfl⟩⟩; (try exact pD)))
  repeat (go_quiet (first | (go_at_call 43; (with_reducible refine (laws_sameInts.calls k _ _ t765 _ _ t768 false _ ?side1 ?side2 ?side3 ?side4 A12.out).mono ?_); (case side1 => exact pS ((Kd.R_reads' HO767.out).2.2)); (case side2 => exact (Kd.R_reads' HO767.out).2.1); (case side3 => exact pS ((Kd.R_reads' HO770.out).2.2)); (case side4 => exact (Kd.R_reads' HO770.out).2.1); rintro e w' ⟨rfl, ⟨nd, rfl⟩⟩; (try exact pD))); try go_wp2_with (first | (go_at_call 43; (with_reducible refine (laws_sameInts.calls k _ _ t765 _ _ t768 false _ ?side1 ?side2 ?side3 ?side4 A12.out).mono ?_); (case side1 => exact pS ((Kd.R_reads' HO767.out).2.2)); (case side2 => exact (Kd.R_reads' HO767.out).2.1); (case side3 => exact pS ((Kd.R_reads' HO770.out).2.2)); (case side4 => exact (Kd.R_reads' HO770.out).2.1); rintro e w' ⟨rfl, ⟨nd, rfl⟩⟩; (try exact pD))))
  go_meet
  case rel => exact ⟨_, (true), pF, H', ⟨by first | omega | exact Nat.le_refl _⟩, ⟨by (with_reducible repeat (first | apply Kd.N_alloc | apply Kd.N_drewN | apply Kd.N_drew)); exact Kd.N_mono HO760.out (fun _ hk => ⟨hk.1.2, hk.2⟩)⟩, ⟨by (with_reducible repeat (first | apply Kd.R_alloc | apply Kd.R_drewN | apply Kd.R_drew)); exact Kd.R_mono HO767.out (fun _ hk => hk.2)⟩, ⟨by (with_reducible repeat (first | apply Kd.R_alloc | apply Kd.R_drewN | apply Kd.R_drew)); exact Kd.R_mono HO770.out (fun _ hk => hk.2)⟩, ⟨pB⟩⟩
 case rest =>
  clear HC6
  try clear c1
  try clear c2
  try clear c2b0
  try clear c2b1
  try clear p2
  try clear c10
  try clear c13
  obtain ⟨kq, x38_5, rfl, HA, HJ5, HO_3, HO_6, HO_7, HB⟩ := hcut
  cases kq with
  | zero => exact absurd HA.out (by simp [laws_FnDishUsesPart.j0])
  | succ kj5 =>
   have H := HA.out
   clear HA
   simp only [laws_FnDishUsesPart.j0] at H
   by_cases c18 : x38_5 = true
   ·subst c18
    have H1 : ((laws_sameInts.f kj5 t765 t768).bind fun t772 => (some t772)) = some r := by rw [if_pos rfl] at H; exact H
    clear H
    have H := H1
    clear H1
    replace H := Option.bind_eq_some_iff.mp H
    obtain ⟨t772, A190, H⟩ := H
    replace H : (some t772) = some r := H
    have A19 := Aside0.mk A190
    clear A190
    obtain rfl := Option.some.inj H
    obtain ⟨Ao20, co20, eo20⟩ := Kd.R_slice HO_6.out
    subst eo20
    obtain ⟨Ao21, co21, eo21⟩ := Kd.R_slice HO_7.out
    subst eo21
    go_wp2_with (first | (go_at_call 43; (with_reducible refine (laws_sameInts.calls kj5 _ _ t765 _ _ t768 t772 _ ?side1 ?side2 ?side3 ?side4 A19.out).mono ?_); (case side1 => exact pS ((Kd.R_reads' HO_6.out).2.2)); (case side2 => exact (Kd.R_reads' HO_6.out).2.1); (case side3 => exact pS ((Kd.R_reads' HO_7.out).2.2)); (case side4 => exact (Kd.R_reads' HO_7.out).2.1); rintro e w' ⟨rfl, ⟨nd, rfl⟩⟩; (try exact pD)))
    repeat (go_quiet (first | (go_at_call 43; (with_reducible refine (laws_sameInts.calls kj5 _ _ t765 _ _ t768 t772 _ ?side1 ?side2 ?side3 ?side4 A19.out).mono ?_); (case side1 => exact pS ((Kd.R_reads' HO_6.out).2.2)); (case side2 => exact (Kd.R_reads' HO_6.out).2.1); (case side3 => exact pS ((Kd.R_reads' HO_7.out).2.2)); (case side4 => exact (Kd.R_reads' HO_7.out).2.1); rintro e w' ⟨rfl, ⟨nd, rfl⟩⟩; (try exact pD))); try go_wp2_with (first | (go_at_call 43; (with_reducible refine (laws_sameInts.calls kj5 _ _ t765 _ _ t768 t772 _ ?side1 ?side2 ?side3 ?side4 A19.out).mono ?_); (case side1 => exact pS ((Kd.R_reads' HO_6.out).2.2)); (case side2 => exact (Kd.R_reads' HO_6.out).2.1); (case side3 => exact pS ((Kd.R_reads' HO_7.out).2.2)); (case side4 => exact (Kd.R_reads' HO_7.out).2.1); rintro e w' ⟨rfl, ⟨nd, rfl⟩⟩; (try exact pD))))
    go_ret
    exact ⟨pE, pB⟩
   replace c18 := Bool.eq_false_iff.mpr c18
   subst c18
   have H1 : (laws_FnDishUsesPart.l0 kj5 t758 t764 t765 0) = some r := by rw [if_neg (show ¬ (false = true) by decide)] at H; exact H
   clear H
   have H := H1
   clear H1
   have H' := Aside0.mk H
   clear H
   go_wp2
   repeat (go_quiet (fail); try go_wp2)
   go_loopg [8] kj5 (fun kq v8 w' => ∃ (x8_2 : Int), v8 = .int .i64 x8_2 ∧ Aside0 (laws_FnDishUsesPart.l0 kq t758 t764 t765 x8_2 = some r) ∧ Aside0 (kq ≤ kj5) ∧ Aside0 (Kd.N k29 29 w' w.heap.size (fun k_ => some k_ ≠ (v766 : Value).ownBlock) (.slice Ao8 t758.length co8) t758) ∧ Aside0 (Kd.R (Kd.int .i64) 3 w' w.heap.size (fun _ => True) v766 t765) ∧ Aside0 (Below w.heap.size w w'))
   case atStart => exact ⟨(0), pF, H', ⟨Nat.le_refl _⟩, ⟨by (with_reducible repeat (first | apply Kd.N_alloc | apply Kd.N_drewN | apply Kd.N_drew)); exact Kd.N_mono HO_3.out (fun _ hk => hk.1)⟩, ⟨by (with_reducible repeat (first | apply Kd.R_alloc | apply Kd.R_drewN | apply Kd.R_drew)); exact Kd.R_mono HO_6.out (fun _ hk => trivial)⟩, ⟨pB⟩⟩
   case round =>
    clear H'
    try clear c1
    try clear c2
    try clear c2b0
    try clear c2b1
    try clear p2
    try clear c10
    try clear c13
    try clear c18
    try clear p2
    obtain ⟨x8_2, rfl, HA, HK2, HO_3, HO_6, HB⟩ := hrel
    cases gk with
    | zero => exact absurd HA.out (by simp [laws_FnDishUsesPart.l0])
    | succ k2 =>
     have H := HA.out
     clear HA
     simp only [laws_FnDishUsesPart.l0] at H
     rcases (Classical.em (x8_2 < (t765.length : Int))).symm with c22 | c22
     ·rw [if_neg c22] at H
      have c22b0 : decide (x8_2 < (t765.length : Int)) = false := decide_eq_false c22
      clear c22
      obtain rfl := Option.some.inj H
      obtain ⟨Ao42, co42, eo42⟩ := Kd.R_slice HO_6.out
      subst eo42
      go_wp2
      repeat (go_quiet (fail); try go_wp2)
      go_ret
      exact ⟨pE, pB⟩

     rw [if_pos c22] at H
     have c22b0 : decide (x8_2 < (t765.length : Int)) = true := decide_eq_true c22
     clear c22
     rcases (Classical.em (0 ≤ x8_2)).symm with c23 | c23
     ·rw [if_neg c23] at H
      exact absurd H (by simp)
     rw [if_pos c23] at H
     have c23b0 : decide (0 ≤ x8_2) = true := decide_eq_true c23
     clear c23
     have H' := Aside0.mk H
     clear H
     obtain ⟨Ao24, co24, eo24⟩ := Kd.R_slice HO_6.out
     subst eo24
     have p773 : 0 ≤ (x8_2 : Int) := of_decide_eq_true pA
     have q773 : x8_2 < (t765.length : Int) := of_decide_eq_true pA
     obtain ⟨ad773, e773, hx773_0⟩ := Kd.at_int (Kd.R_reads' HO_6.out).2.2 x8_2 p773 q773
     cases e773
     replace p773 := eq_true p773
     replace q773 := eq_true q773
     go_wp2
     repeat (go_quiet (fail); try go_wp2)
     go_loopg [9, 10] k2 (fun kq v9 v10 w' => ∃ (x9_3 : Bool) (x10_3 : Int), v9 = .bool x9_3 ∧ v10 = .int .i64 x10_3 ∧ Aside0 (laws_FnDishUsesPart.l1 kq t758 t764 t765 x8_2 x9_3 x10_3 = some r) ∧ Aside0 (kq ≤ k2) ∧ Aside0 (Kd.N k29 29 w' w.heap.size (fun k_ => some k_ ≠ ((.slice (some ad773) t765.length co24) : Value).ownBlock) (.slice Ao8 t758.length co8) t758) ∧ Aside0 (Kd.R (Kd.int .i64) 3 w' w.heap.size (fun _ => True) (.slice (some ad773) t765.length co24) t765) ∧ Aside0 (Below w.heap.size w w'))
     case atStart => exact ⟨(((rd t765 x8_2) == t764)), (0), pF, pF, H', ⟨Nat.le_refl _⟩, ⟨by (with_reducible repeat (first | apply Kd.N_alloc | apply Kd.N_drewN | apply Kd.N_drew)); exact HO_3.out⟩, ⟨pR HO_6⟩, ⟨pB⟩⟩
     case round =>
      clear H'
      try clear c1
      try clear c2
      try clear c2b0
      try clear c2b1
      try clear p2
      try clear p7
      try clear q7
      try clear hx7
      try clear c10
      try clear c13
      try clear c18
      try clear c22
      try clear c22b0
      try clear c23
      try clear c23b0
      try clear hx773_0
      try clear p2
      try clear p773
      try clear q773
      obtain ⟨x9_3, x10_3, rfl, rfl, HA, HK3, HO_3, HO_6, HB⟩ := hrel
      cases gk with
      | zero => exact absurd HA.out (by simp [laws_FnDishUsesPart.l1])
      | succ k3 =>
       have H := HA.out
       clear HA
       simp only [laws_FnDishUsesPart.l1] at H
       rcases (Classical.em (x10_3 < (t765.length : Int))).symm with c25 | c25
       ·rw [if_neg c25] at H
        have c25b0 : decide (x10_3 < (t765.length : Int)) = false := decide_eq_false c25
        clear c25
        rcases (Classical.em (x9_3 = true)).symm with c41 | c41
        ·replace c41 := Bool.eq_false_iff.mpr c41
         subst c41
         have H1 : (some false) = some r := by rw [if_neg (show ¬ (false = true) by decide)] at H; exact H
         clear H
         have H := H1
         clear H1
         obtain rfl := Option.some.inj H
         go_wp2
         repeat (go_quiet (fail); try go_wp2)
         go_ret
         exact ⟨pE, pB⟩
        subst c41
        have H1 : (laws_FnDishUsesPart.l0 k3 t758 t764 t765 (wrap64 (x8_2 + 1))) = some r := by rw [if_pos rfl] at H; exact H
        clear H
        have H := H1
        clear H1
        have H' := Aside0.mk H
        clear H
        go_wp2
        repeat (go_quiet (fail); try go_wp2)
        go_roundg k3
        case measure => have := HJ5.out; have := HK2.out; have := HK3.out; omega
        case rel => exact ⟨(wrap64 (x8_2 + 1)), pF, H', ⟨by have := HJ5.out; have := HK2.out; have := HK3.out; omega⟩, ⟨by (with_reducible repeat (first | apply Kd.N_alloc | apply Kd.N_drewN | apply Kd.N_drew)); exact HO_3.out⟩, ⟨pR HO_6⟩, ⟨pB⟩⟩
       rw [if_pos c25] at H
       have c25b0 : decide (x10_3 < (t765.length : Int)) = true := decide_eq_true c25
       clear c25
       rcases (Classical.em (0 ≤ x10_3)).symm with c26 | c26
       ·rw [if_neg c26] at H
        exact absurd H (by simp)
       rw [if_pos c26] at H
       have c26b0 : decide (0 ≤ x10_3) = true := decide_eq_true c26
       clear c26
       replace H := Option.bind_eq_some_iff.mp H
       obtain ⟨t775, A270, H⟩ := H
       replace H : (if 0 ≤ t775 then (if t775 < (t758.length : Int) then (laws_FnDishUsesPart.l2 k3 t758 t764 t765 x8_2 x9_3 x10_3 0 ((rd_T29 t758 t775).f0) ((rd_T29 t758 t775).f1) ((rd_T29 t758 t775).f2)) else (none)) else (none)) = some r := H
       have A27 := Aside0.mk A270
       clear A270
       rcases (Classical.em (0 ≤ t775)).symm with c28 | c28
       ·rw [if_neg c28] at H
        exact absurd H (by simp)
       rw [if_pos c28] at H
       have c28b0 : decide (0 ≤ t775) = true := decide_eq_true c28
       clear c28
       rcases (Classical.em (t775 < (t758.length : Int))).symm with c29 | c29
       ·rw [if_neg c29] at H
        exact absurd H (by simp)
       rw [if_pos c29] at H
       have c29b0 : decide (t775 < (t758.length : Int)) = true := decide_eq_true c29
       clear c29
       have H' := Aside0.mk H
       clear H
       have p774 : 0 ≤ (x10_3 : Int) := of_decide_eq_true pA
       have q774 : x10_3 < (t765.length : Int) := of_decide_eq_true pA
       obtain ⟨ad774, e774, hx774_0⟩ := Kd.at_int (Kd.R_reads' HO_6.out).2.2 x10_3 p774 q774
       obtain rfl : ad773 = ad774 := (by injection e774)
       replace p774 := eq_true p774
       replace q774 := eq_true q774
       go_wp2_with (first | (go_at_call 20; (with_reducible refine (impl_DishesFind.calls _ _ t758 (rd t765 x10_3) t775 _ ?side1 ?side2 A27.out).mono ?_); (case side1 => exact pS ((Kd.N_reads' HO_3.out).2.2)); (case side2 => exact (Kd.N_reads' HO_3.out).2.1); rintro e w30 ⟨rfl, hb⟩; have n0_ := Aside0.mk (Kd.N_below F10.q2 hb); have n1_ := Aside0.mk (Kd.R_below (pR HO_6) hb); have n2_ := Aside0.mk (below_step pB hb); clear HO_3; clear HO_6; clear HB; have HO_3 := n0_; have HO_6 := n1_; have HB := n2_; clear n0_ n1_ n2_; (try clear hb); (try clear hb2); (try clear hk); (try clear hi); have p776 : 0 ≤ (t775 : Int) := of_decide_eq_true pA; have q776 : t775 < (t758.length : Int) := of_decide_eq_true pA; obtain ⟨ad776, A776_2, c776_2, e776, hx776_0, hx776_1, hx776_2, hl776_2, hi776_2⟩ := at_T29 (Kd.N_reads' HO_3.out).2.2 t775 p776 q776; cases e776; obtain ⟨ce776, hce776, hMe776, hcc776⟩ := Kd.N_get HO_3.out z29 t775 p776 (by first | exact q776 | exact of_decide_eq_true pA | (have e_ := (Kd.N_reads' HO_3.out).1; omega)); obtain ⟨ua776_2, uc776_2, rfl, ul776_2, ge776_2⟩ := k29_openF hMe776; have hv776_2 := hcc776 2 _ rfl; rw [add_field _ _ 2 (by omega)] at hv776_2; replace hv776_2 := Option.some.inj (hv776_2.symm.trans hx776_2); injection hv776_2 with hva_ hvn_ hvc_; rw [hva_] at ge776_2; rw [hvc_] at ul776_2; have HL776_2 := Aside0.mk (show Kd.V k55 55 _ w.heap.size _ _ ((rd_T29 t758 t775).f2) from Kd.V_mk ul776_2 ge776_2); clear hva_ hvn_ hvc_ ge776_2 ul776_2; clear hcc776 hce776; have HR776_2 := Aside0.mk (hi776_2); have HC776_2 := Aside0.mk hl776_2; clear hi776_2 hl776_2; replace p776 := eq_true p776; replace q776 := eq_true q776) | ((with_reducible refine gate_dst (N := 11) rfl ?_); (try (refine gate_guard (by rfl) ?_; dsimp only)); refine box_event ?hg (N := 11) ?hd (cs := #[.int .i64 0, .int .i64 0, .slice none 0 0]) (t := 29) ?hr ?_; (case hd => rfl); (case hg => rfl); (case hr => first | (go_simp; done) | (go_simp; rfl)); intro gb777 hg w31 hbox hb; have n0_ := Aside0.mk (Kd.N_below (Kd.N_elderB F10.q2 gb777 (Nat.le_of_eq hg.symm)) hb); have n1_ := Aside0.mk (Kd.R_below (pR HO_6) hb); have n2_ := Aside0.mk (Kd.V_below (Kd.V_elderB (by (with_reducible repeat (first | apply Kd.V_alloc | apply Kd.V_drewN | apply Kd.V_drew)); exact HL776_2.out) gb777 (Nat.le_of_eq hg.symm)) hb); have n3_ := Aside0.mk (Kd.C_below F10.q0 hb); have n4_ := Aside0.mk (below_step pB hb); have n5_ := Aside0.mk (hbox); have n6_ := Aside0.mk ((by rw [hg]; exact (below_size pB) : w.heap.size ≤ gb777)); have n7_ := Aside0.mk ((by rw [hg]; exact (below_size pB) : w.heap.size ≤ gb777)); have n8_ := Aside0.mk ((fun ad_ he_ hp_ => by rw [hg]; exact Nat.ne_of_lt (laws_FnDishUsesPart.cLt_ (show Kd.C k55 _ A776_2 ((rd_T29 t758 t775).f2).length ((rd_T29 t758 t775).f2) from F10.q0) he_ hp_ (by decide)) : ∀ ad_ : Addr, A776_2 = some ad_ → 0 < ((rd_T29 t758 t775).f2).length → ad_.block ≠ gb777)); clear HO_3; clear HO_6; clear HL776_2; clear HR776_2; clear HB; have HO_3 := n0_; have HO_6 := n1_; have HL776_2 := n2_; have HR776_2 := n3_; have HB := n4_; have BK777 := n5_; have GW777 := n6_; have GE777 := n7_; have NS777_HR776_2 := n8_; clear n0_ n1_ n2_ n3_ n4_ n5_ n6_ n7_ n8_; clear hb hbox hg; have hcz32_0 : w31.cell? ⟨gb777, 0, none⟩ = some (.int .i64 0) := (blk_cell BK777.out 0).trans rfl; have hcz32_1 : w31.cell? ⟨gb777, 1, none⟩ = some (.int .i64 0) := (blk_cell BK777.out 1).trans rfl; have hcz32_2 : w31.cell? ⟨gb777, 2, none⟩ = some (.slice none 0 0) := (blk_cell BK777.out 2).trans rfl; have hfz32_0 := blk_frozen BK777.out 0; have hfz32_1 := blk_frozen BK777.out 1; have hfz32_2 := blk_frozen BK777.out 2))
       repeat (go_quiet (first | (go_at_call 20; (with_reducible refine (impl_DishesFind.calls _ _ t758 (rd t765 x10_3) t775 _ ?side1 ?side2 A27.out).mono ?_); (case side1 => exact pS ((Kd.N_reads' HO_3.out).2.2)); (case side2 => exact (Kd.N_reads' HO_3.out).2.1); rintro e w30 ⟨rfl, hb⟩; have n0_ := Aside0.mk (Kd.N_below F10.q2 hb); have n1_ := Aside0.mk (Kd.R_below (pR HO_6) hb); have n2_ := Aside0.mk (below_step pB hb); clear HO_3; clear HO_6; clear HB; have HO_3 := n0_; have HO_6 := n1_; have HB := n2_; clear n0_ n1_ n2_; (try clear hb); (try clear hb2); (try clear hk); (try clear hi); have p776 : 0 ≤ (t775 : Int) := of_decide_eq_true pA; have q776 : t775 < (t758.length : Int) := of_decide_eq_true pA; obtain ⟨ad776, A776_2, c776_2, e776, hx776_0, hx776_1, hx776_2, hl776_2, hi776_2⟩ := at_T29 (Kd.N_reads' HO_3.out).2.2 t775 p776 q776; cases e776; obtain ⟨ce776, hce776, hMe776, hcc776⟩ := Kd.N_get HO_3.out z29 t775 p776 (by first | exact q776 | exact of_decide_eq_true pA | (have e_ := (Kd.N_reads' HO_3.out).1; omega)); obtain ⟨ua776_2, uc776_2, rfl, ul776_2, ge776_2⟩ := k29_openF hMe776; have hv776_2 := hcc776 2 _ rfl; rw [add_field _ _ 2 (by omega)] at hv776_2; replace hv776_2 := Option.some.inj (hv776_2.symm.trans hx776_2); injection hv776_2 with hva_ hvn_ hvc_; rw [hva_] at ge776_2; rw [hvc_] at ul776_2; have HL776_2 := Aside0.mk (show Kd.V k55 55 _ w.heap.size _ _ ((rd_T29 t758 t775).f2) from Kd.V_mk ul776_2 ge776_2); clear hva_ hvn_ hvc_ ge776_2 ul776_2; clear hcc776 hce776; have HR776_2 := Aside0.mk (hi776_2); have HC776_2 := Aside0.mk hl776_2; clear hi776_2 hl776_2; replace p776 := eq_true p776; replace q776 := eq_true q776) | ((with_reducible refine gate_dst (N := 11) rfl ?_); (try (refine gate_guard (by rfl) ?_; dsimp only)); refine box_event ?hg (N := 11) ?hd (cs := #[.int .i64 0, .int .i64 0, .slice none 0 0]) (t := 29) ?hr ?_; (case hd => rfl); (case hg => rfl); (case hr => first | (go_simp; done) | (go_simp; rfl)); intro gb777 hg w31 hbox hb; have n0_ := Aside0.mk (Kd.N_below (Kd.N_elderB F10.q2 gb777 (Nat.le_of_eq hg.symm)) hb); have n1_ := Aside0.mk (Kd.R_below (pR HO_6) hb); have n2_ := Aside0.mk (Kd.V_below (Kd.V_elderB (by (with_reducible repeat (first | apply Kd.V_alloc | apply Kd.V_drewN | apply Kd.V_drew)); exact HL776_2.out) gb777 (Nat.le_of_eq hg.symm)) hb); have n3_ := Aside0.mk (Kd.C_below F10.q0 hb); have n4_ := Aside0.mk (below_step pB hb); have n5_ := Aside0.mk (hbox); have n6_ := Aside0.mk ((by rw [hg]; exact (below_size pB) : w.heap.size ≤ gb777)); have n7_ := Aside0.mk ((by rw [hg]; exact (below_size pB) : w.heap.size ≤ gb777)); have n8_ := Aside0.mk ((fun ad_ he_ hp_ => by rw [hg]; exact Nat.ne_of_lt (laws_FnDishUsesPart.cLt_ (show Kd.C k55 _ A776_2 ((rd_T29 t758 t775).f2).length ((rd_T29 t758 t775).f2) from F10.q0) he_ hp_ (by decide)) : ∀ ad_ : Addr, A776_2 = some ad_ → 0 < ((rd_T29 t758 t775).f2).length → ad_.block ≠ gb777)); clear HO_3; clear HO_6; clear HL776_2; clear HR776_2; clear HB; have HO_3 := n0_; have HO_6 := n1_; have HL776_2 := n2_; have HR776_2 := n3_; have HB := n4_; have BK777 := n5_; have GW777 := n6_; have GE777 := n7_; have NS777_HR776_2 := n8_; clear n0_ n1_ n2_ n3_ n4_ n5_ n6_ n7_ n8_; clear hb hbox hg; have hcz32_0 : w31.cell? ⟨gb777, 0, none⟩ = some (.int .i64 0) := (blk_cell BK777.out 0).trans rfl; have hcz32_1 : w31.cell? ⟨gb777, 1, none⟩ = some (.int .i64 0) := (blk_cell BK777.out 1).trans rfl; have hcz32_2 : w31.cell? ⟨gb777, 2, none⟩ = some (.slice none 0 0) := (blk_cell BK777.out 2).trans rfl; have hfz32_0 := blk_frozen BK777.out 0; have hfz32_1 := blk_frozen BK777.out 1; have hfz32_2 := blk_frozen BK777.out 2)); try go_wp2_with (first | (go_at_call 20; (with_reducible refine (impl_DishesFind.calls _ _ t758 (rd t765 x10_3) t775 _ ?side1 ?side2 A27.out).mono ?_); (case side1 => exact pS ((Kd.N_reads' HO_3.out).2.2)); (case side2 => exact (Kd.N_reads' HO_3.out).2.1); rintro e w30 ⟨rfl, hb⟩; have n0_ := Aside0.mk (Kd.N_below F10.q2 hb); have n1_ := Aside0.mk (Kd.R_below (pR HO_6) hb); have n2_ := Aside0.mk (below_step pB hb); clear HO_3; clear HO_6; clear HB; have HO_3 := n0_; have HO_6 := n1_; have HB := n2_; clear n0_ n1_ n2_; (try clear hb); (try clear hb2); (try clear hk); (try clear hi); have p776 : 0 ≤ (t775 : Int) := of_decide_eq_true pA; have q776 : t775 < (t758.length : Int) := of_decide_eq_true pA; obtain ⟨ad776, A776_2, c776_2, e776, hx776_0, hx776_1, hx776_2, hl776_2, hi776_2⟩ := at_T29 (Kd.N_reads' HO_3.out).2.2 t775 p776 q776; cases e776; obtain ⟨ce776, hce776, hMe776, hcc776⟩ := Kd.N_get HO_3.out z29 t775 p776 (by first | exact q776 | exact of_decide_eq_true pA | (have e_ := (Kd.N_reads' HO_3.out).1; omega)); obtain ⟨ua776_2, uc776_2, rfl, ul776_2, ge776_2⟩ := k29_openF hMe776; have hv776_2 := hcc776 2 _ rfl; rw [add_field _ _ 2 (by omega)] at hv776_2; replace hv776_2 := Option.some.inj (hv776_2.symm.trans hx776_2); injection hv776_2 with hva_ hvn_ hvc_; rw [hva_] at ge776_2; rw [hvc_] at ul776_2; have HL776_2 := Aside0.mk (show Kd.V k55 55 _ w.heap.size _ _ ((rd_T29 t758 t775).f2) from Kd.V_mk ul776_2 ge776_2); clear hva_ hvn_ hvc_ ge776_2 ul776_2; clear hcc776 hce776; have HR776_2 := Aside0.mk (hi776_2); have HC776_2 := Aside0.mk hl776_2; clear hi776_2 hl776_2; replace p776 := eq_true p776; replace q776 := eq_true q776) | ((with_reducible refine gate_dst (N := 11) rfl ?_); (try (refine gate_guard (by rfl) ?_; dsimp only)); refine box_event ?hg (N := 11) ?hd (cs := #[.int .i64 0, .int .i64 0, .slice none 0 0]) (t := 29) ?hr ?_; (case hd => rfl); (case hg => rfl); (case hr => first | (go_simp; done) | (go_simp; rfl)); intro gb777 hg w31 hbox hb; have n0_ := Aside0.mk (Kd.N_below (Kd.N_elderB F10.q2 gb777 (Nat.le_of_eq hg.symm)) hb); have n1_ := Aside0.mk (Kd.R_below (pR HO_6) hb); have n2_ := Aside0.mk (Kd.V_below (Kd.V_elderB (by (with_reducible repeat (first | apply Kd.V_alloc | apply Kd.V_drewN | apply Kd.V_drew)); exact HL776_2.out) gb777 (Nat.le_of_eq hg.symm)) hb); have n3_ := Aside0.mk (Kd.C_below F10.q0 hb); have n4_ := Aside0.mk (below_step pB hb); have n5_ := Aside0.mk (hbox); have n6_ := Aside0.mk ((by rw [hg]; exact (below_size pB) : w.heap.size ≤ gb777)); have n7_ := Aside0.mk ((by rw [hg]; exact (below_size pB) : w.heap.size ≤ gb777)); have n8_ := Aside0.mk ((fun ad_ he_ hp_ => by rw [hg]; exact Nat.ne_of_lt (laws_FnDishUsesPart.cLt_ (show Kd.C k55 _ A776_2 ((rd_T29 t758 t775).f2).length ((rd_T29 t758 t775).f2) from F10.q0) he_ hp_ (by decide)) : ∀ ad_ : Addr, A776_2 = some ad_ → 0 < ((rd_T29 t758 t775).f2).length → ad_.block ≠ gb777)); clear HO_3; clear HO_6; clear HL776_2; clear HR776_2; clear HB; have HO_3 := n0_; have HO_6 := n1_; have HL776_2 := n2_; have HR776_2 := n3_; have HB := n4_; have BK777 := n5_; have GW777 := n6_; have GE777 := n7_; have NS777_HR776_2 := n8_; clear n0_ n1_ n2_ n3_ n4_ n5_ n6_ n7_ n8_; clear hb hbox hg; have hcz32_0 : w31.cell? ⟨gb777, 0, none⟩ = some (.int .i64 0) := (blk_cell BK777.out 0).trans rfl; have hcz32_1 : w31.cell? ⟨gb777, 1, none⟩ = some (.int .i64 0) := (blk_cell BK777.out 1).trans rfl; have hcz32_2 : w31.cell? ⟨gb777, 2, none⟩ = some (.slice none 0 0) := (blk_cell BK777.out 2).trans rfl; have hfz32_0 := blk_frozen BK777.out 0; have hfz32_1 := blk_frozen BK777.out 1; have hfz32_2 := blk_frozen BK777.out 2)))
       go_loopg [9, 12] k3 (fun kq v9 v12 w' => ∃ (x9_4 : Bool) (x12_4 : Int), v9 = .bool x9_4 ∧ v12 = .int .i64 x12_4 ∧ Aside0 (laws_FnDishUsesPart.l2 kq t758 t764 t765 x8_2 x9_4 x10_3 x12_4 ((rd_T29 t758 t775).f0) ((rd_T29 t758 t775).f1) ((rd_T29 t758 t775).f2) = some r) ∧ Aside0 (kq ≤ k3) ∧ Aside0 (Kd.N k29 29 w' w.heap.size (fun k_ => some k_ ≠ ((.slice (some ad773) t765.length co24) : Value).ownBlock ∧ k_ ≠ gb777) (.slice (some ad776) t758.length co8) t758) ∧ Aside0 (Kd.R (Kd.int .i64) 3 w' w.heap.size (fun _ => True) (.slice (some ad773) t765.length co24) t765) ∧ Aside0 (w'.heap[gb777]? = some (.cells #[.int .i64 ((rd_T29 t758 t775).f0), .int .i64 ((rd_T29 t758 t775).f1), (.slice A776_2 ((rd_T29 t758 t775).f2).length c776_2)] 29 (0, 0))) ∧ Aside0 (Kd.C k55 w' A776_2 ((rd_T29 t758 t775).f2).length ((rd_T29 t758 t775).f2)) ∧ Aside0 (Below w.heap.size w w'))
       case atStart => exact ⟨(x9_3), (0), pF, pF, H', ⟨Nat.le_refl _⟩, ⟨by (with_reducible repeat (first | apply Kd.N_alloc | apply Kd.N_drewN | apply Kd.N_drew)); exact Kd.N_mono (Kd.N_far (p := ⟨gb777, 2, none⟩) (Kd.N_far (p := ⟨gb777, 1, none⟩) (Kd.N_far (p := ⟨gb777, 0, none⟩) (Kd.N_mono HO_3.out (fun k_ hk => (⟨hk, hk.2⟩ : _ ∧ k_ ≠ gb777))) (fun _ hk => hk.2) (.int .i64 ((rd_T29 t758 t775).f0))) (fun _ hk => hk.2) (.int .i64 ((rd_T29 t758 t775).f1))) (fun _ hk => hk.2) (.slice A776_2 ((rd_T29 t758 t775).f2).length c776_2)) (fun _ hk => ⟨hk.1.1, hk.1.2⟩)⟩, ⟨by (with_reducible repeat (first | apply Kd.R_alloc | apply Kd.R_drewN | apply Kd.R_drew)); exact Kd.R_mono (Kd.R_far (p := ⟨gb777, 2, none⟩) (Kd.R_far (p := ⟨gb777, 1, none⟩) (Kd.R_far (p := ⟨gb777, 0, none⟩) (Kd.R_types HO_6.out BK777.out (by decide)) (fun _ hk => hk.2) (.int .i64 ((rd_T29 t758 t775).f0))) (fun _ hk => hk.2) (.int .i64 ((rd_T29 t758 t775).f1))) (fun _ hk => hk.2) (.slice A776_2 ((rd_T29 t758 t775).f2).length c776_2)) (fun _ hk => trivial)⟩, ⟨by (with_reducible repeat (first | refine blk_drewN ?_ _ | refine blk_drew ?_ | refine blk_alloc ?_ _)); refine blk_put (cs := #[.int .i64 ((rd_T29 t758 t775).f0), .int .i64 ((rd_T29 t758 t775).f1), .slice none 0 0]) ?_ 2 _ rfl; (with_reducible repeat (first | refine blk_drewN ?_ _ | refine blk_drew ?_ | refine blk_alloc ?_ _)); refine blk_put (cs := #[.int .i64 ((rd_T29 t758 t775).f0), .int .i64 0, .slice none 0 0]) ?_ 1 _ rfl; (with_reducible repeat (first | refine blk_drewN ?_ _ | refine blk_drew ?_ | refine blk_alloc ?_ _)); refine blk_put (cs := #[.int .i64 0, .int .i64 0, .slice none 0 0]) ?_ 0 _ rfl; (with_reducible repeat (first | refine blk_drewN ?_ _ | refine blk_drew ?_ | refine blk_alloc ?_ _)); exact BK777.out⟩, ⟨(Kd.V_reads' (by (with_reducible repeat (first | apply Kd.V_alloc | apply Kd.V_drewN | apply Kd.V_drew)); exact (Kd.V_mono (Kd.V_far (p := ⟨gb777, 2, none⟩) (Kd.V_far (p := ⟨gb777, 1, none⟩) (Kd.V_far (p := ⟨gb777, 0, none⟩) (Kd.V_mono HL776_2.out (fun k_ hk => (⟨hk, hk.2⟩ : _ ∧ k_ ≠ gb777))) (fun _ hk => hk.2) (.int .i64 ((rd_T29 t758 t775).f0))) (fun _ hk => hk.2) (.int .i64 ((rd_T29 t758 t775).f1))) (fun _ hk => hk.2) (.slice A776_2 ((rd_T29 t758 t775).f2).length c776_2)) (fun _ h_ => h_.1)))).2.2⟩, ⟨pG GE777⟩⟩
       case round =>
        clear H'
        try clear c1
        try clear c2
        try clear c2b0
        try clear c2b1
        try clear p2
        try clear c7
        try clear p7
        try clear q7
        try clear hx7
        try clear c10
        try clear c13
        try clear c18
        try clear c22
        try clear c22b0
        try clear c23
        try clear c23b0
        try clear c25
        try clear c25b0
        try clear c26
        try clear c26b0
        try clear c28
        try clear c28b0
        try clear c29
        try clear c29b0
        try clear hcz32_0
        try clear hcz32_1
        try clear hcz32_2
        try clear hfz32_0
        try clear hfz32_1
        try clear hfz32_2
        try clear hx773_0
        try clear hx774_0
        try clear hx776_0
        try clear hx776_1
        try clear hx776_2
        try clear p2
        try clear p7
        try clear p773
        try clear p774
        try clear p776
        try clear q7
        try clear q773
        try clear q774
        try clear q776
        obtain ⟨x9_4, x12_4, rfl, rfl, HA, HK4, HO_3, HO_6, BK777, HR776_2, HB⟩ := hrel
        cases gk with
        | zero => exact absurd HA.out (by simp [laws_FnDishUsesPart.l2])
        | succ k4 =>
         have H := HA.out
         clear HA
         simp only [laws_FnDishUsesPart.l2] at H
         rcases (Classical.em (x12_4 < (((rd_T29 t758 t775).f2).length : Int))).symm with c33 | c33
         ·rw [if_neg c33] at H
          have c33b0 : decide (x12_4 < (((rd_T29 t758 t775).f2).length : Int)) = false := decide_eq_false c33
          clear c33
          have H' := Aside0.mk H
          clear H
          have hcz40_0 : wr.cell? ⟨gb777, 0, none⟩ = some (.int .i64 ((rd_T29 t758 t775).f0)) := (blk_cell BK777.out 0).trans rfl
          have hcz40_1 : wr.cell? ⟨gb777, 1, none⟩ = some (.int .i64 ((rd_T29 t758 t775).f1)) := (blk_cell BK777.out 1).trans rfl
          have hcz40_2 : wr.cell? ⟨gb777, 2, none⟩ = some (.slice A776_2 ((rd_T29 t758 t775).f2).length c776_2) := (blk_cell BK777.out 2).trans rfl
          have hfz40_0 := blk_frozen BK777.out 0
          have hfz40_1 := blk_frozen BK777.out 1
          have hfz40_2 := blk_frozen BK777.out 2
          go_wp2
          repeat (go_quiet (fail); try go_wp2)
          go_roundg k4
          case measure => have := HJ5.out; have := HK2.out; have := HK3.out; have := HK4.out; omega
          case rel => exact ⟨(x9_4), (wrap64 (x10_3 + 1)), pF, pF, H', ⟨by have := HJ5.out; have := HK2.out; have := HK3.out; have := HK4.out; omega⟩, ⟨by (with_reducible repeat (first | apply Kd.N_alloc | apply Kd.N_drewN | apply Kd.N_drew)); exact Kd.N_mono HO_3.out (fun _ hk => hk.1)⟩, ⟨pR HO_6⟩, ⟨pG GE777⟩⟩
         rw [if_pos c33] at H
         have c33b0 : decide (x12_4 < (((rd_T29 t758 t775).f2).length : Int)) = true := decide_eq_true c33
         clear c33
         by_cases c34 : x9_4 = true
         ·subst c34
          have H1 : (laws_FnDishUsesPart.l2 k4 t758 t764 t765 x8_2 true x10_3 (wrap64 (x12_4 + 1)) ((rd_T29 t758 t775).f0) ((rd_T29 t758 t775).f1) ((rd_T29 t758 t775).f2)) = some r := by rw [if_pos rfl] at H; exact H
          clear H
          have H := H1
          clear H1
          have H' := Aside0.mk H
          clear H
          have hcz35_0 : wr.cell? ⟨gb777, 0, none⟩ = some (.int .i64 ((rd_T29 t758 t775).f0)) := (blk_cell BK777.out 0).trans rfl
          have hcz35_1 : wr.cell? ⟨gb777, 1, none⟩ = some (.int .i64 ((rd_T29 t758 t775).f1)) := (blk_cell BK777.out 1).trans rfl
          have hcz35_2 : wr.cell? ⟨gb777, 2, none⟩ = some (.slice A776_2 ((rd_T29 t758 t775).f2).length c776_2) := (blk_cell BK777.out 2).trans rfl
          have hfz35_0 := blk_frozen BK777.out 0
          have hfz35_1 := blk_frozen BK777.out 1
          have hfz35_2 := blk_frozen BK777.out 2
          go_wp2
          repeat (go_quiet (fail); try go_wp2)
          go_roundg k4
          case measure => have := HJ5.out; have := HK2.out; have := HK3.out; have := HK4.out; omega
          case rel => exact ⟨(true), (wrap64 (x12_4 + 1)), pF, pF, H', ⟨by have := HJ5.out; have := HK2.out; have := HK3.out; have := HK4.out; omega⟩, ⟨by (with_reducible repeat (first | apply Kd.N_alloc | apply Kd.N_drewN | apply Kd.N_drew)); exact HO_3.out⟩, ⟨pR HO_6⟩, ⟨pC BK777⟩, ⟨by repeat (first | (with_reducible exact HR776_2.out) | (with_reducible refine Kd.C_alloc ?_ _) | (with_reducible refine Kd.C_drewN ?_ _) | (with_reducible refine Kd.C_drew ?_) | exact HR776_2.out)⟩, ⟨pG GE777⟩⟩
         replace c34 := Bool.eq_false_iff.mpr c34
         subst c34
         have H1 : (if 0 ≤ x12_4 then (if 0 ≤ x8_2 then (if x8_2 < (t765.length : Int) then (laws_FnDishUsesPart.l2 k4 t758 t764 t765 x8_2 (((rd_T55 ((rd_T29 t758 t775).f2) x12_4).f1) == (rd t765 x8_2)) x10_3 (wrap64 (x12_4 + 1)) ((rd_T29 t758 t775).f0) ((rd_T29 t758 t775).f1) ((rd_T29 t758 t775).f2)) else (none)) else (none)) else (none)) = some r := by rw [if_neg (show ¬ (false = true) by decide)] at H; exact H
         clear H
         have H := H1
         clear H1
         rcases (Classical.em (0 ≤ x12_4)).symm with c36 | c36
         ·rw [if_neg c36] at H
          exact absurd H (by simp)
         rw [if_pos c36] at H
         have c36b0 : decide (0 ≤ x12_4) = true := decide_eq_true c36
         clear c36
         rcases (Classical.em (0 ≤ x8_2)).symm with c37 | c37
         ·rw [if_neg c37] at H
          exact absurd H (by simp)
         rw [if_pos c37] at H
         have c37b0 : decide (0 ≤ x8_2) = true := decide_eq_true c37
         clear c37
         rcases (Classical.em (x8_2 < (t765.length : Int))).symm with c38 | c38
         ·rw [if_neg c38] at H
          exact absurd H (by simp)
         rw [if_pos c38] at H
         have c38b0 : decide (x8_2 < (t765.length : Int)) = true := decide_eq_true c38
         clear c38
         have H' := Aside0.mk H
         clear H
         have hcz39_0 : wr.cell? ⟨gb777, 0, none⟩ = some (.int .i64 ((rd_T29 t758 t775).f0)) := (blk_cell BK777.out 0).trans rfl
         have hcz39_1 : wr.cell? ⟨gb777, 1, none⟩ = some (.int .i64 ((rd_T29 t758 t775).f1)) := (blk_cell BK777.out 1).trans rfl
         have hcz39_2 : wr.cell? ⟨gb777, 2, none⟩ = some (.slice A776_2 ((rd_T29 t758 t775).f2).length c776_2) := (blk_cell BK777.out 2).trans rfl
         have hfz39_0 := blk_frozen BK777.out 0
         have hfz39_1 := blk_frozen BK777.out 1
         have hfz39_2 := blk_frozen BK777.out 2
         have p778 : 0 ≤ (x12_4 : Int) := of_decide_eq_true pA
         have q778 : x12_4 < (((rd_T29 t758 t775).f2).length : Int) := of_decide_eq_true pA
         obtain ⟨ad778, e778, hx778_0, hx778_1, hx778_2⟩ := at_T55 F10.q0 x12_4 p778 q778
         cases e778
         replace p778 := eq_true p778
         replace q778 := eq_true q778
         have p779 : 0 ≤ (x8_2 : Int) := of_decide_eq_true pA
         have q779 : x8_2 < (t765.length : Int) := of_decide_eq_true pA
         obtain ⟨ad779, e779, hx779_0⟩ := Kd.at_int (Kd.R_reads' HO_6.out).2.2 x8_2 p779 q779
         obtain rfl : ad773 = ad779 := (by injection e779)
         replace p779 := eq_true p779
         replace q779 := eq_true q779
         go_wp2
         repeat (go_quiet (fail); try go_wp2)
         go_roundg k4
         case measure => have := HJ5.out; have := HK2.out; have := HK3.out; have := HK4.out; omega
         case rel => exact ⟨((((rd_T55 ((rd_T29 t758 t775).f2) x12_4).f1) == (rd t765 x8_2))), (wrap64 (x12_4 + 1)), pF, pF, H', ⟨by have := HJ5.out; have := HK2.out; have := HK3.out; have := HK4.out; omega⟩, ⟨by (with_reducible repeat (first | apply Kd.N_alloc | apply Kd.N_drewN | apply Kd.N_drew)); exact HO_3.out⟩, ⟨pR HO_6⟩, ⟨pC BK777⟩, ⟨by repeat (first | (with_reducible exact HR776_2.out) | (with_reducible refine Kd.C_alloc ?_ _) | (with_reducible refine Kd.C_drewN ?_ _) | (with_reducible refine Kd.C_drew ?_) | exact HR776_2.out)⟩, ⟨pG GE777⟩⟩
/-- THE ONE PURE STATEMENT of laws_FnDishUsesPart: yours. -/
def laws_FnDishUsesPart.Pure : Prop := ∀ (l0 : List Int), l0.length ≤ maxLen → l0.length * 1 ≤ 140737488351232 → (∀ x ∈ l0, (Lit.int .u8 x).wf = true) → ∃ k, laws_FnDishUsesPart.f k l0 = some true
theorem laws_FnDishUsesPart.walk (P : laws_FnDishUsesPart.Pure) (a0 : Option Addr) (len0 cap0 : Nat) (z0 : List Int) (w : World) (w0 : (a0 = none ∧ len0 = 0 ∧ cap0 = 0 ∧ z0 = []) ∨ ∃ x, a0 = some x ∧ len0 ≤ cap0 ∧ cap0 ≤ maxLen ∧ z0.length = cap0 ∧ (∀ i, i < z0.length → w.cell? (x.add i) = some (.int .u8 (z0.getD i 0))) ∧ ∀ n ∈ z0, (Lit.int .u8 n).wf = true) (y0 : len0 * 1 ≤ 140737488351232) :
  Calls Try.prog 10 #[.slice a0 len0 cap0] w fun e w' => e = .returned (.bool true) ∧ Below w.heap.size w w' := by
 obtain ⟨l0, rfl, hr0, hm0, hw0, hc0⟩ := ReadsInt.ofRowC w0
 obtain ⟨k, h⟩ := P l0 hm0 y0 hw0
 refine (laws_FnDishUsesPart.calls k _ _ l0 true w (Kd.C_of_reads (d := (0 : Int)) (h1 := fun _ => rfl) hr0) hc0 h).mono ?_
 rintro e w' ⟨rfl, hd⟩
 exact ⟨rfl, hd⟩

end Go.Proofs.Ytclldijjbmnkeaa.Q
