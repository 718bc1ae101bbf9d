-- Written by the kit's print.py for all laws of the seat at once (one namespace), by a program of this session.
import Derived.Test.YtclldijjbmnkeaaQx0
import Derived.Test.YtclldijjbmnkeaaQx10
import Derived.Test.YtclldijjbmnkeaaQx16
import Derived.Test.YtclldijjbmnkeaaQx21
namespace Go.Proofs.Ytclldijjbmnkeaa.Q
open Go.RowKit Go.Proofs.YtclldijjbmnkeaaW.PrintWords Go.Proofs.YtclldijjbmnkeaaW.PrintLast Go.Proofs.YtclldijjbmnkeaaW.PrintMore
attribute [local go_sem] max2_int min2_int max_two min_two max_three min_three max_four min_four   -- for this text's walks alone
set_option linter.unusedVariables false
set_option linter.unusedSimpArgs false

/-! ### impl_DishNeeds: function 38 -/
mutual
def impl_DishNeeds.j0 : Nat → List (S29) → List (S63) → Int → Int → Bool → Option (List Int × Bool)
 | 0, _, _, _, _, _ => none
 | k + 1, x0, x1, x2, x3, x25 => if x25 = true then (some (([] : List Int), false)) else (impl_DishNeeds.l0 k x0 x1 x2 x3 1 x0 (x0.length : Int) 0)
def impl_DishNeeds.l0 : Nat → List (S29) → List (S63) → Int → Int → Int → List (S29) → Int → Int → Option (List Int × Bool)
 | 0, _, _, _, _, _, _, _, _ => none
 | k + 1, x0, x1, x2, x3, x10, x26, x27, x28 => if x28 < x27 then (if 0 ≤ x28 then (if x28 < (x26.length : Int) then (impl_DishNeeds.l0 k x0 x1 x2 x3 (wrap64 (x10 * ((rd_T29 x26 x28).f1))) x26 x27 (wrap64 (x28 + 1))) else (none)) else (none)) else (if 0 ≤ (x1.length : Int) then (if ((x1.length : Int) : Int).toNat ≤ 35184372088832 then ((some (List.replicate ((x1.length : Int) : Int).toNat 0 : List Int)).bind fun y612 => ((impl_addNeeds.f k x0 x1 x2 (wrap64 (x3 * x10)) y612).bind fun t615 => (impl_DishNeeds.l1 k x10 t615 (y612.length : Int) 0))) else (none)) else (none))
def impl_DishNeeds.l1 : Nat → Int → List Int → Int → Int → Option (List Int × Bool)
 | 0, _, _, _, _ => none
 | k + 1, x10, x13, x49, x50 => if x50 < x49 then (if 0 ≤ x50 then (if x50 < (x13.length : Int) then ((impl_roundedUp.f (rd x13 x50) x10).bind fun t617 => ((some (x13.set (x50 : Int).toNat t617 : List Int)).bind fun y618 => (if (rd y618 x50) > 999999 then (some (([] : List Int), false)) else (impl_DishNeeds.l1 k x10 y618 x49 (wrap64 (x50 + 1)))))) else (none)) else (none)) else (some (x13, true))
end
def impl_DishNeeds.f (k : Nat) (l0 : List (S29)) (l1 : List (S63)) (a2 : Int) (a3 : Int) : Option (List Int × Bool) := (impl_hasDish.f k l0 l1 a2).bind fun t608 => (if t608 = true then ((impl_within.f a3 0 300).bind fun t609 => (impl_DishNeeds.j0 k l0 l1 a2 a3 (!t609))) else (impl_DishNeeds.j0 k l0 l1 a2 a3 true))
theorem impl_DishNeeds.mono_l : ∀ k, (∀ y0 y1 y2 y3 y4, LeO (impl_DishNeeds.j0 k y0 y1 y2 y3 y4) (impl_DishNeeds.j0 (k + 1) y0 y1 y2 y3 y4)) ∧ (∀ y0 y1 y2 y3 y4 y5 y6 y7, LeO (impl_DishNeeds.l0 k y0 y1 y2 y3 y4 y5 y6 y7) (impl_DishNeeds.l0 (k + 1) y0 y1 y2 y3 y4 y5 y6 y7)) ∧ (∀ y0 y1 y2 y3, LeO (impl_DishNeeds.l1 k y0 y1 y2 y3) (impl_DishNeeds.l1 (k + 1) y0 y1 y2 y3))
 | 0 => ⟨fun _ _ _ _ _ r h => by simp [impl_DishNeeds.j0] at h, fun _ _ _ _ _ _ _ _ r h => by simp [impl_DishNeeds.l0] at h, fun _ _ _ _ r h => by simp [impl_DishNeeds.l1] at h⟩
 | k + 1 => by
  obtain ⟨ih0, ih1, ih2⟩ := impl_DishNeeds.mono_l k
  refine ⟨?_, ?_, ?_⟩
  ·intro y0 y1 y2 y3 y4
   unfold impl_DishNeeds.j0
   repeat' first
   | (with_reducible exact ih0 _ _ _ _ _)
   | (with_reducible exact ih1 _ _ _ _ _ _ _ _)
   | (with_reducible exact ih2 _ _ _ _)
   | (with_reducible exact impl_addNeeds.mono _ _ _ _ _ _)
   | (with_reducible exact impl_hasDish.mono _ _ _ _)
   | (with_reducible exact LeO.refl _)
   | (with_reducible exact LeO.none _)
   | (with_reducible refine LeO.ite ?_ ?_)
   | (with_reducible refine LeO.bind ?_ (fun _ => ?_))
   | exact ih0 _ _ _ _ _
   | exact ih1 _ _ _ _ _ _ _ _
   | exact ih2 _ _ _ _
   | exact impl_addNeeds.mono _ _ _ _ _ _
   | exact impl_hasDish.mono _ _ _ _
   | exact LeO.none _
   | refine LeO.ite ?_ ?_
   | refine LeO.bind ?_ (fun _ => ?_)
  ·intro y0 y1 y2 y3 y4 y5 y6 y7
   unfold impl_DishNeeds.l0
   repeat' first
   | (with_reducible exact ih0 _ _ _ _ _)
   | (with_reducible exact ih1 _ _ _ _ _ _ _ _)
   | (with_reducible exact ih2 _ _ _ _)
   | (with_reducible exact impl_addNeeds.mono _ _ _ _ _ _)
   | (with_reducible exact impl_hasDish.mono _ _ _ _)
   | (with_reducible exact LeO.refl _)
   | (with_reducible exact LeO.none _)
   | (with_reducible refine LeO.ite ?_ ?_)
   | (with_reducible refine LeO.bind ?_ (fun _ => ?_))
   | exact ih0 _ _ _ _ _
   | exact ih1 _ _ _ _ _ _ _ _
   | exact ih2 _ _ _ _
   | exact impl_addNeeds.mono _ _ _ _ _ _
   | exact impl_hasDish.mono _ _ _ _
   | exact LeO.none _
   | refine LeO.ite ?_ ?_
   | refine LeO.bind ?_ (fun _ => ?_)
  ·intro y0 y1 y2 y3
   unfold impl_DishNeeds.l1
   repeat' first
   | (with_reducible exact ih0 _ _ _ _ _)
   | (with_reducible exact ih1 _ _ _ _ _ _ _ _)
   | (with_reducible exact ih2 _ _ _ _)
   | (with_reducible exact impl_addNeeds.mono _ _ _ _ _ _)
   | (with_reducible exact impl_hasDish.mono _ _ _ _)
   | (with_reducible exact LeO.refl _)
   | (with_reducible exact LeO.none _)
   | (with_reducible refine LeO.ite ?_ ?_)
   | (with_reducible refine LeO.bind ?_ (fun _ => ?_))
   | exact ih0 _ _ _ _ _
   | exact ih1 _ _ _ _ _ _ _ _
   | exact ih2 _ _ _ _
   | exact impl_addNeeds.mono _ _ _ _ _ _
   | exact impl_hasDish.mono _ _ _ _
   | exact LeO.none _
   | refine LeO.ite ?_ ?_
   | refine LeO.bind ?_ (fun _ => ?_)
theorem impl_DishNeeds.mono : ∀ a0 a1 a2 a3 k, LeO (impl_DishNeeds.f k a0 a1 a2 a3) (impl_DishNeeds.f (k + 1) a0 a1 a2 a3) := by
 intro a0 a1 a2 a3 k
 obtain ⟨ih0, ih1, ih2⟩ := impl_DishNeeds.mono_l k
 unfold impl_DishNeeds.f
 repeat' first
   | (with_reducible exact ih0 _ _ _ _ _)
   | (with_reducible exact ih1 _ _ _ _ _ _ _ _)
   | (with_reducible exact ih2 _ _ _ _)
   | (with_reducible exact impl_addNeeds.mono _ _ _ _ _ _)
   | (with_reducible exact impl_hasDish.mono _ _ _ _)
   | (with_reducible exact LeO.refl _)
   | (with_reducible exact LeO.none _)
   | (with_reducible refine LeO.ite ?_ ?_)
   | (with_reducible refine LeO.bind ?_ (fun _ => ?_))
   | exact ih0 _ _ _ _ _
   | exact ih1 _ _ _ _ _ _ _ _
   | exact ih2 _ _ _ _
   | exact impl_addNeeds.mono _ _ _ _ _ _
   | exact impl_hasDish.mono _ _ _ _
   | exact LeO.none _
   | refine LeO.ite ?_ ?_
   | refine LeO.bind ?_ (fun _ => ?_)
set_option maxHeartbeats 8000000 in
set_option maxRecDepth 100000 in
theorem impl_DishNeeds.calls (k : Nat) (A0 : Option Addr) (c0 : Nat) (l0 : List (S29)) (A1 : Option Addr) (c1 : Nat) (l1 : List (S63)) (a2 : Int) (a3 : Int) (r1 : List Int) (r2 : Bool) (w : World) (hr0 : Kd.C k29 w A0 l0.length l0) (hc0 : l0.length ≤ c0) (hr1 : Kd.C k63 w A1 l1.length l1) (hc1 : l1.length ≤ c1) (h : impl_DishNeeds.f k l0 l1 a2 a3 = some (r1, r2)) :
  Calls Try.prog 38 #[.slice A0 l0.length c0, .slice A1 l1.length c1, .int .i64 a2, .int .i64 a3] w fun e w' => ∃ v0_ : Value, e = .returned (.tuple #[v0_, .bool r2]) ∧ Kd.R (Kd.int .i64) 3 w' w.heap.size (fun _ => True) v0_ r1 ∧ Below w.heap.size w w' := by
 have hu29 := Try.underlying29
 have HR0 := Aside0.mk hr0
 have HC0 := Aside0.mk hc0
 clear hr0 hc0
 have HR1 := Aside0.mk hr1
 have HC1 := Aside0.mk hc1
 clear hr1 hc1
 have HB := Aside0.mk (Below.refl w.heap.size w)
 have H : ((impl_hasDish.f k l0 l1 a2).bind fun t608 => (if t608 = true then ((impl_within.f a3 0 300).bind fun t609 => (impl_DishNeeds.j0 k l0 l1 a2 a3 (!t609))) else (impl_DishNeeds.j0 k l0 l1 a2 a3 true))) = some (r1, r2) := h
 clear h
 have HC5 := Aside0.mk H
 clear H
 go_enter Try.func38, Try.ntmps38
 go_upto_region 1 with (fail)
 go_cut [25] (fun v25 wc => ∃ (kq : Nat) (x25_4 : Bool), v25 = .bool x25_4 ∧ Aside0 (impl_DishNeeds.j0 kq l0 l1 a2 a3 x25_4 = some (r1, r2)) ∧ Aside0 (kq ≤ k) ∧ Aside0 (Below w.heap.size w wc))
 case first =>
  have H := HC5.out
  clear HC5
  replace H := Option.bind_eq_some_iff.mp H
  obtain ⟨t608, A60, H⟩ := H
  replace H : (if t608 = true then ((impl_within.f a3 0 300).bind fun t609 => (impl_DishNeeds.j0 k l0 l1 a2 a3 (!t609))) else (impl_DishNeeds.j0 k l0 l1 a2 a3 true)) = some (r1, r2) := H
  have A6 := Aside0.mk A60
  clear A60
  rcases (Classical.em (t608 = true)).symm with c7 | c7
  ·replace c7 := Bool.eq_false_iff.mpr c7
   subst c7
   have H1 : (impl_DishNeeds.j0 k l0 l1 a2 a3 true) = some (r1, r2) := by rw [if_neg (show ¬ (false = true) by decide)] at H; exact H
   clear H
   have H := H1
   clear H1
   have H' := Aside0.mk H
   clear H
   go_wp2_with (first | ((with_reducible refine gate_callee (f := 66) rfl ?_); refine goesL_ (some 19) rfl rfl Try.func66 pL rfl #[.slice A0 l0.length c0, .slice A1 l1.length c1, .int .i64 a2] rfl pM ?_; (with_reducible refine (impl_hasDish.calls k _ _ l0 _ _ l1 a2 false _ ?side1 ?side2 ?side3 ?side4 A6.out).mono ?_); (case side1 => exact pS ((Kd.C_below HR0.out HB.out))); (case side2 => exact HC0.out); (case side3 => exact pS ((Kd.C_below HR1.out HB.out))); (case side4 => exact HC1.out); rintro e w10 ⟨rfl, hb⟩; refine ⟨_, rfl, ?_⟩; have n0_ := Aside0.mk (below_step pB hb); clear HB; have HB := n0_; clear n0_; (try clear hb); (try clear hb2); (try clear hk); (try clear hi)))
   go_meet
   case rel => exact ⟨_, (true), pF, H', ⟨by first | omega | exact Nat.le_refl _⟩, ⟨pB⟩⟩
  subst c7
  have H1 : ((impl_within.f a3 0 300).bind fun t609 => (impl_DishNeeds.j0 k l0 l1 a2 a3 (!t609))) = some (r1, r2) := by rw [if_pos rfl] at H; exact H
  clear H
  have H := H1
  clear H1
  replace H := Option.bind_eq_some_iff.mp H
  obtain ⟨t609, A80, H⟩ := H
  replace H : (impl_DishNeeds.j0 k l0 l1 a2 a3 (!t609)) = some (r1, r2) := H
  have A8 := Aside0.mk A80
  clear A80
  have H' := Aside0.mk H
  clear H
  go_wp2_with (first | ((with_reducible refine gate_callee (f := 66) rfl ?_); refine goesL_ (some 19) rfl rfl Try.func66 pL rfl #[.slice A0 l0.length c0, .slice A1 l1.length c1, .int .i64 a2] rfl pM ?_; (with_reducible refine (impl_hasDish.calls k _ _ l0 _ _ l1 a2 true _ ?side1 ?side2 ?side3 ?side4 A6.out).mono ?_); (case side1 => exact pS ((Kd.C_below HR0.out HB.out))); (case side2 => exact HC0.out); (case side3 => exact pS ((Kd.C_below HR1.out HB.out))); (case side4 => exact HC1.out); rintro e w9 ⟨rfl, hb⟩; refine ⟨_, rfl, ?_⟩; have n0_ := Aside0.mk (below_step pB hb); clear HB; have HB := n0_; clear n0_; (try clear hb); (try clear hb2); (try clear hk); (try clear hi)) | (go_at_call 76; (with_reducible refine (impl_within.calls a3 0 300 t609 _ A8.out).mono ?_); rintro e w' ⟨rfl, ⟨nd, rfl⟩⟩))
  go_meet
  case rel => exact ⟨_, (!t609), pF, H', ⟨by first | omega | exact Nat.le_refl _⟩, ⟨pB⟩⟩
 case rest =>
  clear HC5
  try clear c1
  try clear p2
  try clear c3
  try clear c6
  try clear c7
  obtain ⟨kq, x25_4, rfl, HA, HJ4, HB⟩ := hcut
  cases kq with
  | zero => exact absurd HA.out (by simp [impl_DishNeeds.j0])
  | succ kj4 =>
   have H := HA.out
   clear HA
   simp only [impl_DishNeeds.j0] at H
   by_cases c11 : x25_4 = true
   ·subst c11
    have H1 : (some (([] : List Int), false)) = some (r1, r2) := by rw [if_pos rfl] at H; exact H
    clear H
    have H := H1
    clear H1
    simp only [Option.some.injEq, Prod.mk.injEq] at H
    obtain ⟨rfl, rfl⟩ := H
    go_wp2
    go_ret2
    exact ⟨_, pE, by first | exact Kd.R_nil _ _ _ _ _ | exact Kd.N_nil _ _ _ _ _ | exact Kd.V_nil _ _ _ _ _ | exact Kd.Q_nil _ _ _ _ _ | exact Kd.S_nil _ _ _ _ _, pB⟩
   replace c11 := Bool.eq_false_iff.mpr c11
   subst c11
   have H1 : (impl_DishNeeds.l0 kj4 l0 l1 a2 a3 1 l0 (l0.length : Int) 0) = some (r1, r2) := by rw [if_neg (show ¬ (false = true) by decide)] at H; exact H
   clear H
   have H := H1
   clear H1
   have H' := Aside0.mk H
   clear H
   go_wp2
   go_loopg [10, 28] kj4 (fun kq v10 v28 w' => ∃ (x10_2 : Int) (x28_2 : Int), v10 = .int .i64 x10_2 ∧ v28 = .int .i64 x28_2 ∧ Aside0 (impl_DishNeeds.l0 kq l0 l1 a2 a3 x10_2 l0 (l0.length : Int) x28_2 = some (r1, r2)) ∧ Aside0 (kq ≤ kj4) ∧ Aside0 (Below w.heap.size w w'))
   case atStart => exact ⟨(1), (0), pF, pF, H', ⟨Nat.le_refl _⟩, ⟨pB⟩⟩
   case round =>
    clear H'
    try clear c1
    try clear p2
    try clear c3
    try clear c6
    try clear c7
    try clear c11
    try clear p2
    obtain ⟨x10_2, x28_2, rfl, rfl, HA, HK2, HB⟩ := hrel
    cases gk with
    | zero => exact absurd HA.out (by simp [impl_DishNeeds.l0])
    | succ k2 =>
     have H := HA.out
     clear HA
     simp only [impl_DishNeeds.l0] at H
     by_cases c12 : x28_2 < (l0.length : Int)
     ·rw [if_pos c12] at H
      have c12b0 : decide (x28_2 < (l0.length : Int)) = true := decide_eq_true c12
      clear c12
      rcases (Classical.em (0 ≤ x28_2)).symm with c13 | c13
      ·rw [if_neg c13] at H
       exact absurd H (by simp)
      rw [if_pos c13] at H
      have c13b0 : decide (0 ≤ x28_2) = true := decide_eq_true c13
      clear c13
      rcases (Classical.em (x28_2 < (l0.length : Int))).symm with c14 | c14
      ·rw [if_neg c14] at H
       exact absurd H (by simp)
      rw [if_pos c14] at H
      have c14b0 : decide (x28_2 < (l0.length : Int)) = true := decide_eq_true c14
      clear c14
      have H' := Aside0.mk H
      clear H
      have p610 : 0 ≤ (x28_2 : Int) := of_decide_eq_true pA
      have q610 : x28_2 < (l0.length : Int) := of_decide_eq_true pA
      obtain ⟨ad610, A610_2, c610_2, e610, hx610_0, hx610_1, hx610_2, hl610_2, hi610_2⟩ := at_T29 HR0.out x28_2 p610 q610
      cases e610
      replace hx610_0 := (HB.out.cell (World.block_lt_of_cell? w _ hx610_0)).trans hx610_0
      replace hx610_1 := (HB.out.cell (World.block_lt_of_cell? w _ hx610_1)).trans hx610_1
      replace hx610_2 := (HB.out.cell (World.block_lt_of_cell? w _ hx610_2)).trans hx610_2
      have HR610_2 := Aside0.mk (hi610_2)
      have HC610_2 := Aside0.mk hl610_2
      clear hi610_2 hl610_2
      replace p610 := eq_true p610
      replace q610 := eq_true q610
      go_wp2_with (first | ((with_reducible refine gate_dst (N := 12) rfl ?_); refine box_event ?hg (N := 12) ?hd (cs := #[.int .i64 0, .int .i64 0, .slice none 0 0]) (t := 29) ?hr ?_; (case hd => rfl); (case hg => rfl); (case hr => first | (go_simp; done) | (go_simp; rfl)); intro gb611 hg w15 hbox hb; have n0_ := Aside0.mk (below_step pB hb); have n1_ := Aside0.mk (hbox); have n2_ := Aside0.mk ((by rw [hg]; exact (below_size pB) : w.heap.size ≤ gb611)); have n3_ := Aside0.mk ((by rw [hg]; exact (below_size pB) : w.heap.size ≤ gb611)); clear HB; have HB := n0_; have BK611 := n1_; have GW611 := n2_; have GE611 := n3_; clear n0_ n1_ n2_ n3_; clear hb hbox hg; have hcz16_0 : w15.cell? ⟨gb611, 0, none⟩ = some (.int .i64 0) := (blk_cell BK611.out 0).trans rfl; have hcz16_1 : w15.cell? ⟨gb611, 1, none⟩ = some (.int .i64 0) := (blk_cell BK611.out 1).trans rfl; have hcz16_2 : w15.cell? ⟨gb611, 2, none⟩ = some (.slice none 0 0) := (blk_cell BK611.out 2).trans rfl; have hfz16_0 := blk_frozen BK611.out 0; have hfz16_1 := blk_frozen BK611.out 1; have hfz16_2 := blk_frozen BK611.out 2))
      go_roundg k2
      case measure => have := HJ4.out; have := HK2.out; omega
      case rel => exact ⟨(wrap64 (x10_2 * ((rd_T29 l0 x28_2).f1))), (wrap64 (x28_2 + 1)), pF, pF, H', ⟨by have := HJ4.out; have := HK2.out; omega⟩, ⟨pG GE611⟩⟩
     rw [if_neg c12] at H
     have c12b0 : decide (x28_2 < (l0.length : Int)) = false := decide_eq_false c12
     clear c12
     rcases (Classical.em (0 ≤ (l1.length : Int))).symm with c17 | c17
     ·rw [if_neg c17] at H
      exact absurd H (by simp)

     rw [if_pos c17] at H
     have c17b0 := eq_true c17
     have c17b1 : decide (0 ≤ (l1.length : Int)) = true := decide_eq_true c17
     clear c17
     rcases (Classical.em (((l1.length : Int) : Int).toNat ≤ 35184372088832)).symm with c18 | c18
     ·rw [if_neg c18] at H
      exact absurd H (by simp)
     rw [if_pos c18] at H
     have c18b0 := eq_true c18
     have c18b1 : decide (((l1.length : Int) : Int).toNat ≤ 35184372088832) = true := decide_eq_true c18
     clear c18
     obtain ⟨y612, hy612⟩ : ∃ y_ : List Int, y_ = (List.replicate ((l1.length : Int) : Int).toNat 0) := ⟨_, rfl⟩
     replace H : ((impl_addNeeds.f k2 l0 l1 a2 (wrap64 (a3 * x10_2)) y612).bind fun t615 => (impl_DishNeeds.l1 k2 x10_2 t615 (y612.length : Int) 0)) = some (r1, r2) := pJ hy612 H
     have Ny612 := Aside0.mk hy612
     clear hy612
     replace H := Option.bind_eq_some_iff.mp H
     obtain ⟨t615, A190, H⟩ := H
     replace H : (impl_DishNeeds.l1 k2 x10_2 t615 (y612.length : Int) 0) = some (r1, r2) := H
     have A19 := Aside0.mk A190
     clear A190
     have H' := Aside0.mk H
     clear H
     go_wp2_with (first | ((with_reducible refine gate_dst (N := 39) rfl ?_); refine Kd.R_make (Kd.int .i64) _ 3 rfl (N := 39) rfl 43 _ _ rfl (l1.length : Int) rfl rfl Try.underlying43 (.int .i64 0) 8 info3 rfl (by decide) (by omega) 0 (ok := fun _ => True) (okp := fun _ => True) rfl (fun _ hk => hk) trivial (of_decide_eq_true pA) (Nat.le_trans (Nat.mul_le_mul_right _ (of_decide_eq_true pA : (l1.length : Int).toNat ≤ 35184372088832)) (by omega)) (Below.refl _ _) (Nat.le_refl _) ?_; intro v613 w20 ho21 hb hg_ hnew_; clear hg_ hnew_; (first | rw [← Ny612.out] at ho21 | (simp only [Int.reduceToNat] at ho21; rw [← Ny612.out] at ho21)); have n0_ := Aside0.mk (Kd.R_lower ho21 (below_size pB)); have n1_ := Aside0.mk (below_step pB hb); clear HB; have HO614 := n0_; have HB := n1_; clear n0_ n1_; clear hb ho21; obtain ⟨Ao22, co22, eo22⟩ := Kd.R_slice HO614.out; subst eo22) | ((with_reducible refine gate_callee (f := 77) rfl ?_); refine goesL_ (some 47) rfl rfl Try.func77 pL rfl #[.slice A0 l0.length c0, .slice A1 l1.length c1, .int .i64 a2, .int .i64 (wrap64 (a3 * x10_2)), .slice Ao22 y612.length co22] rfl pM ?_; (with_reducible refine (impl_addNeeds.calls k2 _ _ l0 _ _ l1 a2 (wrap64 (a3 * x10_2)) (fun k_ => some k_ = (.slice Ao22 y612.length co22 : Value).ownBlock) (.slice Ao22 y612.length co22) y612 t615 w _ ?side1 ?side2 ?side3 ?side4 ?side5 ?side6 A19.out).mono ?_); (case side1 => exact pB); (case side2 => exact Kd.C_kept_came k29_heap HR0.out pB (fun k_ hs_ => (fun e_ => Kd.R_base HO614.out k_ e_.symm) hs_)); (case side3 => exact HC0.out); (case side4 => exact Kd.C_kept_came k63_heap HR1.out pB (fun k_ hs_ => (fun e_ => Kd.R_base HO614.out k_ e_.symm) hs_)); (case side5 => exact HC1.out); (case side6 => exact Kd.R_tight rfl HO614.out); rintro e w23 ⟨rfl, hy0, hb, hkp⟩; refine ⟨_, rfl, ?_⟩; have n0_ := Aside0.mk (Kd.R_reok rfl hy0 (fun k_ e_ => HO614.out.1 k_ e_)); have n1_ := Aside0.mk (hb); clear HO614; clear HB; have HO614 := n0_; have HB := n1_; clear n0_ n1_; (try clear hb); (try clear hkp); (try clear hy0)))
     go_loopg [50] k2 (fun kq v50 w' => ∃ (x13_3 : List Int) (x50_3 : Int), v50 = .int .i64 x50_3 ∧ Aside0 (impl_DishNeeds.l1 kq x10_2 x13_3 (y612.length : Int) x50_3 = some (r1, r2)) ∧ Aside0 (kq ≤ k2) ∧ Aside0 (Kd.R (Kd.int .i64) 3 w' w.heap.size (fun _ => True) (.slice Ao22 y612.length co22) x13_3) ∧ Aside0 (Below w.heap.size w w'))
     case atStart => exact ⟨(t615), (0), pF, H', ⟨Nat.le_refl _⟩, ⟨pR HO614⟩, ⟨pB⟩⟩
     case round =>
      clear H'
      try clear c1
      try clear p2
      try clear c3
      try clear c6
      try clear p6
      try clear q6
      try clear hx6
      try clear c7
      try clear c11
      try clear c12
      try clear c12b0
      try clear c13
      try clear c13b0
      try clear c14
      try clear c14b0
      try clear c17
      try clear c17b0
      try clear c17b1
      try clear c18
      try clear c18b0
      try clear c18b1
      try clear hcz16_0
      try clear hcz16_1
      try clear hcz16_2
      try clear hfz16_0
      try clear hfz16_1
      try clear hfz16_2
      try clear hx610_0
      try clear hx610_1
      try clear hx610_2
      try clear p2
      try clear p610
      try clear q610
      obtain ⟨x13_3, x50_3, rfl, HA, HK3, HO_13, HB⟩ := hrel
      have hl13_3 := (Kd.R_reads' HO_13.out).1
      rw [hl13_3] at HO_13
      (try simp only [hl13_3])
      cases gk with
      | zero => exact absurd HA.out (by simp [impl_DishNeeds.l1])
      | succ k3 =>
       have H := HA.out
       clear HA
       simp only [impl_DishNeeds.l1] at H
       rcases (Classical.em (x50_3 < (y612.length : Int))).symm with c24 | c24
       ·rw [if_neg c24] at H
        have c24b0 : decide (x50_3 < (y612.length : Int)) = false := decide_eq_false c24
        have c24b2 : decide (x50_3 < (x13_3.length : Int)) = false := by rw [← hl13_3]; exact c24b0
        clear c24
        simp only [Option.some.injEq, Prod.mk.injEq] at H
        obtain ⟨rfl, rfl⟩ := H
        go_wp2
        go_ret2
        exact ⟨_, pE, pR HO_13, pB⟩
       rw [if_pos c24] at H
       have c24b0 : decide (x50_3 < (y612.length : Int)) = true := decide_eq_true c24
       clear c24
       rcases (Classical.em (0 ≤ x50_3)).symm with c25 | c25
       ·rw [if_neg c25] at H
        exact absurd H (by simp)
       rw [if_pos c25] at H
       have c25b0 : decide (0 ≤ x50_3) = true := decide_eq_true c25
       clear c25
       rcases (Classical.em (x50_3 < (x13_3.length : Int))).symm with c26 | c26
       ·rw [if_neg c26] at H
        exact absurd H (by simp)
       rw [if_pos c26] at H
       have c26b0 : decide (x50_3 < (x13_3.length : Int)) = true := decide_eq_true c26
       clear c26
       replace H := Option.bind_eq_some_iff.mp H
       obtain ⟨t617, A270, H⟩ := H
       replace H : ((some (x13_3.set (x50_3 : Int).toNat t617 : List Int)).bind fun y618 => (if (rd y618 x50_3) > 999999 then (some (([] : List Int), false)) else (impl_DishNeeds.l1 k3 x10_2 y618 (y612.length : Int) (wrap64 (x50_3 + 1))))) = some (r1, r2) := H
       have A27 := Aside0.mk A270
       clear A270
       obtain ⟨y618, hy618⟩ : ∃ y_ : List Int, y_ = (x13_3.set (x50_3 : Int).toNat t617) := ⟨_, rfl⟩
       replace H : (if (rd y618 x50_3) > 999999 then (some (([] : List Int), false)) else (impl_DishNeeds.l1 k3 x10_2 y618 (y612.length : Int) (wrap64 (x50_3 + 1)))) = some (r1, r2) := pJ hy618 H
       have Ny618 := Aside0.mk hy618
       clear hy618
       by_cases c29 : (rd y618 x50_3) > 999999
       ·rw [if_pos c29] at H
        have c29b0 : decide (999999 < (rd y618 x50_3)) = true := decide_eq_true c29
        clear c29
        simp only [Option.some.injEq, Prod.mk.injEq] at H
        obtain ⟨rfl, rfl⟩ := H
        have p616 : 0 ≤ (x50_3 : Int) := of_decide_eq_true pA
        have q616 : x50_3 < (x13_3.length : Int) := of_decide_eq_true pA
        obtain ⟨ad616, e616, hx616_0⟩ := Kd.at_int (Kd.R_reads' HO_13.out).2.2 x50_3 p616 q616
        cases e616
        replace p616 := eq_true p616
        replace q616 := eq_true q616
        go_wp2_with (first | ((with_reducible refine gate_callee (f := 78) rfl ?_); refine goesL_ (some 59) rfl rfl Try.func78 pL rfl #[.int .i64 (rd x13_3 x50_3), .int .i64 x10_2] rfl pM ?_; (with_reducible refine (impl_roundedUp.calls (rd x13_3 x50_3) x10_2 t617 _ A27.out).mono ?_); rintro e w' ⟨rfl, ⟨nd, rfl⟩⟩; refine ⟨_, rfl, ?_⟩; (try (rw [drewN_self wr]; generalize hq_ : World.drewN wr _ = wr; have n0_ : Aside0 (Kd.R (Kd.int .i64) 3 wr w.heap.size (fun _ => True) (.slice (some ad616) x13_3.length co22) x13_3) := ⟨by rw [← hq_]; exact (pR HO_13)⟩; have n1_ : Aside0 (Below w.heap.size w wr) := ⟨by rw [← hq_]; exact pB⟩; clear HO_13 HB hq_; have HO_13 := n0_; have HB := n1_; clear n0_ n1_)); have p28 : 0 ≤ (x50_3 : Int) := of_decide_eq_true pA; have q28 : (x50_3 : Int) < ((x13_3.length : Int) : Int) := of_decide_eq_true pA; obtain ⟨go28, co28, eo28, gb28, gl28, cl28, HG28⟩ := Kd.R_form HO_13.out (by omega); (first | cases eo28 | (injection eo28 with ea_ en_ ec_; (first | subst ea_ | (injection ea_ with ea_; subst ea_)); subst ec_; clear en_)); have GB28 := Aside0.mk gb28; have GG28 := Aside0.mk HG28; clear gb28 gl28 HG28; (first | simp only [add_plain] at hx616_0 | skip); obtain ⟨hx28_0, hf28_0⟩ := Kd.R_celln 0 HO_13.out (x50_3 : Int) p28 q28; replace p28 := eq_true p28; replace q28 := eq_true q28; obtain ⟨hy30_, hz30_⟩ := Kd.R_celln 0 HO_13.out (x50_3 : Int) (of_decide_eq_true pA) (of_decide_eq_true pA); have HP30 := Kd.R_putg HO_13.out (x50_3 : Int) t617) | ((with_reducible refine gate_store (t := 3) (p := 60) rfl ?_); refine store_event (t := 3) (p := 60) (v := ?vo_w31) (w1 := (wr.setCell ⟨go28, (x50_3 : Int).toNat, none⟩ (.int .i64 t617))) ?hg ?ho ?hn ?hr ?_; (case ho => rfl); (case hg => rfl); (case hn => rfl); (case hr => first | (go_simp; done) | (go_simp; rfl)); intro w31 hw; have hg : wr.grownBy w31 (some go28) := (by rw [hw]; exact HP30.2); have hp_ : Kd.R (Kd.int .i64) 3 w31 w.heap.size (fun _ => True) (.slice (some ⟨go28, 0, none⟩) x13_3.length co22) y618 := (by rw [hw, Ny618.out]; exact HP30.1); clear HP30; have n0_ := Aside0.mk (hp_); have n1_ := Aside0.mk ((by rw [hw]; exact below_set (HB.out) GB28.out : Below w.heap.size w w31)); clear HO_13; clear HB; have HO_13 := n0_; have HB := n1_; clear n0_ n1_; clear hg hw hp_; have p619 : 0 ≤ (x50_3 : Int) := of_decide_eq_true pA; have q619 : x50_3 < (y618.length : Int) := (by have h_ : (x50_3 : Int) < ((x13_3.length : Int) : Int) := of_decide_eq_true pA; first | (have e_ := (Kd.R_reads' HO_13.out).1; omega) | simpa only [Ny618.out, List.length_set] using h_); have ql619 : ((x50_3 : Int) < ((x13_3.length : Int) : Int)) = True := eq_true (of_decide_eq_true pA); obtain ⟨ad619, e619, hx619_0⟩ := Kd.at_int (Kd.R_reads' HO_13.out).2.2 x50_3 p619 q619; obtain rfl : (⟨go28, 0, none⟩ : Addr) = ad619 := (by injection e619); (first | simp only [add_plain] at hx619_0 | simp only [add_at] at hx619_0 | simp only [Addr.add, Nat.zero_add] at hx619_0 | skip); replace p619 := eq_true p619; replace q619 := eq_true q619))
        go_ret2
        exact ⟨_, pE, by first | exact Kd.R_nil _ _ _ _ _ | exact Kd.N_nil _ _ _ _ _ | exact Kd.V_nil _ _ _ _ _ | exact Kd.Q_nil _ _ _ _ _ | exact Kd.S_nil _ _ _ _ _, pB⟩
       rw [if_neg c29] at H
       have c29b0 : decide (999999 < (rd y618 x50_3)) = false := decide_eq_false c29
       clear c29
       have H' := Aside0.mk H
       clear H
       have p616 : 0 ≤ (x50_3 : Int) := of_decide_eq_true pA
       have q616 : x50_3 < (x13_3.length : Int) := of_decide_eq_true pA
       obtain ⟨ad616, e616, hx616_0⟩ := Kd.at_int (Kd.R_reads' HO_13.out).2.2 x50_3 p616 q616
       cases e616
       replace p616 := eq_true p616
       replace q616 := eq_true q616
       go_wp2_with (first | ((with_reducible refine gate_callee (f := 78) rfl ?_); refine goesL_ (some 59) rfl rfl Try.func78 pL rfl #[.int .i64 (rd x13_3 x50_3), .int .i64 x10_2] rfl pM ?_; (with_reducible refine (impl_roundedUp.calls (rd x13_3 x50_3) x10_2 t617 _ A27.out).mono ?_); rintro e w' ⟨rfl, ⟨nd, rfl⟩⟩; refine ⟨_, rfl, ?_⟩; (try (rw [drewN_self wr]; generalize hq_ : World.drewN wr _ = wr; have n0_ : Aside0 (Kd.R (Kd.int .i64) 3 wr w.heap.size (fun _ => True) (.slice (some ad616) x13_3.length co22) x13_3) := ⟨by rw [← hq_]; exact (pR HO_13)⟩; have n1_ : Aside0 (Below w.heap.size w wr) := ⟨by rw [← hq_]; exact pB⟩; clear HO_13 HB hq_; have HO_13 := n0_; have HB := n1_; clear n0_ n1_)); have p28 : 0 ≤ (x50_3 : Int) := of_decide_eq_true pA; have q28 : (x50_3 : Int) < ((x13_3.length : Int) : Int) := of_decide_eq_true pA; obtain ⟨go28, co28, eo28, gb28, gl28, cl28, HG28⟩ := Kd.R_form HO_13.out (by omega); (first | cases eo28 | (injection eo28 with ea_ en_ ec_; (first | subst ea_ | (injection ea_ with ea_; subst ea_)); subst ec_; clear en_)); have GB28 := Aside0.mk gb28; have GG28 := Aside0.mk HG28; clear gb28 gl28 HG28; (first | simp only [add_plain] at hx616_0 | skip); obtain ⟨hx28_0, hf28_0⟩ := Kd.R_celln 0 HO_13.out (x50_3 : Int) p28 q28; replace p28 := eq_true p28; replace q28 := eq_true q28; obtain ⟨hy32_, hz32_⟩ := Kd.R_celln 0 HO_13.out (x50_3 : Int) (of_decide_eq_true pA) (of_decide_eq_true pA); have HP32 := Kd.R_putg HO_13.out (x50_3 : Int) t617) | ((with_reducible refine gate_store (t := 3) (p := 60) rfl ?_); refine store_event (t := 3) (p := 60) (v := ?vo_w33) (w1 := (wr.setCell ⟨go28, (x50_3 : Int).toNat, none⟩ (.int .i64 t617))) ?hg ?ho ?hn ?hr ?_; (case ho => rfl); (case hg => rfl); (case hn => rfl); (case hr => first | (go_simp; done) | (go_simp; rfl)); intro w33 hw; have hg : wr.grownBy w33 (some go28) := (by rw [hw]; exact HP32.2); have hp_ : Kd.R (Kd.int .i64) 3 w33 w.heap.size (fun _ => True) (.slice (some ⟨go28, 0, none⟩) x13_3.length co22) y618 := (by rw [hw, Ny618.out]; exact HP32.1); clear HP32; have n0_ := Aside0.mk (hp_); have n1_ := Aside0.mk ((by rw [hw]; exact below_set (HB.out) GB28.out : Below w.heap.size w w33)); clear HO_13; clear HB; have HO_13 := n0_; have HB := n1_; clear n0_ n1_; clear hg hw hp_; have p619 : 0 ≤ (x50_3 : Int) := of_decide_eq_true pA; have q619 : x50_3 < (y618.length : Int) := (by have h_ : (x50_3 : Int) < ((x13_3.length : Int) : Int) := of_decide_eq_true pA; first | (have e_ := (Kd.R_reads' HO_13.out).1; omega) | simpa only [Ny618.out, List.length_set] using h_); have ql619 : ((x50_3 : Int) < ((x13_3.length : Int) : Int)) = True := eq_true (of_decide_eq_true pA); obtain ⟨ad619, e619, hx619_0⟩ := Kd.at_int (Kd.R_reads' HO_13.out).2.2 x50_3 p619 q619; obtain rfl : (⟨go28, 0, none⟩ : Addr) = ad619 := (by injection e619); (first | simp only [add_plain] at hx619_0 | simp only [add_at] at hx619_0 | simp only [Addr.add, Nat.zero_add] at hx619_0 | skip); replace p619 := eq_true p619; replace q619 := eq_true q619))
       (try simp only [← hl13_3])
       go_roundg k3
       case measure => have := HJ4.out; have := HK2.out; have := HK3.out; omega
       case rel => exact ⟨(y618), (wrap64 (x50_3 + 1)), pF, H', ⟨by have := HJ4.out; have := HK2.out; have := HK3.out; omega⟩, ⟨by (try simp only [hl13_3]); (with_reducible repeat (first | apply Kd.R_alloc | apply Kd.R_drewN | apply Kd.R_drew)); exact HO_13.out⟩, ⟨pB⟩⟩
end Go.Proofs.Ytclldijjbmnkeaa.Q
