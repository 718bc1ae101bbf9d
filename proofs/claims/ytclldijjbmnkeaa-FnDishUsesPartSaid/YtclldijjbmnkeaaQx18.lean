-- Written by the kit's print.py for all laws of the seat at once (one namespace), by a program of this session.
import Derived.Test.YtclldijjbmnkeaaQx0
import Derived.Test.YtclldijjbmnkeaaQx5
import Derived.Test.YtclldijjbmnkeaaQx10
import Derived.Test.YtclldijjbmnkeaaQx13
import Derived.Test.YtclldijjbmnkeaaQx16
namespace Go.Proofs.Ytclldijjbmnkeaa.Q
open Go.RowKit Go.Proofs.YtclldijjbmnkeaaW.PrintWords Go.Proofs.YtclldijjbmnkeaaW.PrintLast Go.Proofs.YtclldijjbmnkeaaW.PrintMore
attribute [local go_sem] max2_int min2_int max_two min_two max_three min_three max_four min_four   -- for this text's walks alone
set_option linter.unusedVariables false
set_option linter.unusedSimpArgs false

/-! ### spec_DishUses: function 30 -/
mutual
def spec_DishUses.j0 : Nat → List (S29) → Int → List Int → Bool → Option (List Int)
 | 0, _, _, _, _ => none
 | k + 1, x0, x2, x7, x20 => if x20 = true then (some x7) else ((spec_l11Find.f k x0 x2).bind fun t482 => (if 0 ≤ (x0.length : Int) then (if ((x0.length : Int) : Int).toNat ≤ 281474976710656 then ((spec_l11Uses.f k x0 t482 (List.replicate ((x0.length : Int) : Int).toNat false)).bind fun t486 => (spec_DishUses.l0 k x0 x7 t486 0)) else (none)) else (none)))
def spec_DishUses.l0 : Nat → List (S29) → List Int → List Bool → Int → Option (List Int)
 | 0, _, _, _, _ => none
 | k + 1, x0, x7, x8, x9 => if x9 < (x0.length : Int) then (if 0 ≤ x9 then (if x9 < (x8.length : Int) then (if rdOf false x8 x9 = true then (if x7.length < 17592186044416 then (spec_DishUses.l0 k x0 (x7 ++ [(rd_T29 x0 x9).f0]) x8 (wrap64 (x9 + 1))) else (none)) else (spec_DishUses.l0 k x0 x7 x8 (wrap64 (x9 + 1)))) else (none)) else (none)) else (some x7)
end
def spec_DishUses.f (k : Nat) (l0 : List (S29)) (l1 : List (S63)) (a2 : Int) : Option (List Int) := (some (([] : List Int) : List Int)).bind fun y477 => ((spec_DishesValid.f k l0 l1).bind fun t480 => (if t480 = true then ((spec_l11Find.f k l0 a2).bind fun t481 => (spec_DishUses.j0 k l0 a2 y477 (decide (t481 < 0)))) else (spec_DishUses.j0 k l0 a2 y477 true)))
theorem spec_DishUses.mono_l : ∀ k, (∀ y0 y1 y2 y3, LeO (spec_DishUses.j0 k y0 y1 y2 y3) (spec_DishUses.j0 (k + 1) y0 y1 y2 y3)) ∧ (∀ y0 y1 y2 y3, LeO (spec_DishUses.l0 k y0 y1 y2 y3) (spec_DishUses.l0 (k + 1) y0 y1 y2 y3))
 | 0 => ⟨fun _ _ _ _ r h => by simp [spec_DishUses.j0] at h, fun _ _ _ _ r h => by simp [spec_DishUses.l0] at h⟩
 | k + 1 => by
  obtain ⟨ih0, ih1⟩ := spec_DishUses.mono_l k
  refine ⟨?_, ?_⟩
  ·intro y0 y1 y2 y3
   unfold spec_DishUses.j0
   repeat' first
   | (with_reducible exact ih0 _ _ _ _)
   | (with_reducible exact ih1 _ _ _ _)
   | (with_reducible exact spec_DishesValid.mono _ _ _)
   | (with_reducible exact spec_l11Find.mono _ _ _)
   | (with_reducible exact spec_l11Uses.mono _ _ _ _)
   | (with_reducible exact LeO.refl _)
   | (with_reducible exact LeO.none _)
   | (with_reducible refine LeO.ite ?_ ?_)
   | (with_reducible refine LeO.bind ?_ (fun _ => ?_))
   | exact ih0 _ _ _ _
   | exact ih1 _ _ _ _
   | exact spec_DishesValid.mono _ _ _
   | exact spec_l11Find.mono _ _ _
   | exact spec_l11Uses.mono _ _ _ _
   | exact LeO.none _
   | refine LeO.ite ?_ ?_
   | refine LeO.bind ?_ (fun _ => ?_)
  ·intro y0 y1 y2 y3
   unfold spec_DishUses.l0
   repeat' first
   | (with_reducible exact ih0 _ _ _ _)
   | (with_reducible exact ih1 _ _ _ _)
   | (with_reducible exact spec_DishesValid.mono _ _ _)
   | (with_reducible exact spec_l11Find.mono _ _ _)
   | (with_reducible exact spec_l11Uses.mono _ _ _ _)
   | (with_reducible exact LeO.refl _)
   | (with_reducible exact LeO.none _)
   | (with_reducible refine LeO.ite ?_ ?_)
   | (with_reducible refine LeO.bind ?_ (fun _ => ?_))
   | exact ih0 _ _ _ _
   | exact ih1 _ _ _ _
   | exact spec_DishesValid.mono _ _ _
   | exact spec_l11Find.mono _ _ _
   | exact spec_l11Uses.mono _ _ _ _
   | exact LeO.none _
   | refine LeO.ite ?_ ?_
   | refine LeO.bind ?_ (fun _ => ?_)
theorem spec_DishUses.mono : ∀ a0 a1 a2 k, LeO (spec_DishUses.f k a0 a1 a2) (spec_DishUses.f (k + 1) a0 a1 a2) := by
 intro a0 a1 a2 k
 obtain ⟨ih0, ih1⟩ := spec_DishUses.mono_l k
 unfold spec_DishUses.f
 repeat' first
   | (with_reducible exact ih0 _ _ _ _)
   | (with_reducible exact ih1 _ _ _ _)
   | (with_reducible exact spec_DishesValid.mono _ _ _)
   | (with_reducible exact spec_l11Find.mono _ _ _)
   | (with_reducible exact spec_l11Uses.mono _ _ _ _)
   | (with_reducible exact LeO.refl _)
   | (with_reducible exact LeO.none _)
   | (with_reducible refine LeO.ite ?_ ?_)
   | (with_reducible refine LeO.bind ?_ (fun _ => ?_))
   | exact ih0 _ _ _ _
   | exact ih1 _ _ _ _
   | exact spec_DishesValid.mono _ _ _
   | exact spec_l11Find.mono _ _ _
   | exact spec_l11Uses.mono _ _ _ _
   | exact LeO.none _
   | refine LeO.ite ?_ ?_
   | refine LeO.bind ?_ (fun _ => ?_)
def spec_DishUses.T4 : Bool × List (List Nat × List Nat) := (true, [([], []), ([], []), ([], []), ([1, 2], [1, 2]), ([], []), ([4], [4]), ([5, 5], [5]), ([0, 3, 6, 3], [0, 3, 6]), ([7, 7, 0, 1, 2, 3, 4, 5, 6, 7], [7])])
def spec_DishUses.B4 : List Nat := [0, 0, 0, 6, 0, 16, 48, 127, 255]
theorem spec_DishUses.tab4 : rtab .any (opsOf Try.f30 4) = spec_DishUses.T4 := by kernel_rfl
theorem spec_DishUses.bits4 : waitsOk spec_DishUses.T4.2 spec_DishUses.B4 = true := by kernel_rfl
set_option maxHeartbeats 8000000 in
set_option maxRecDepth 100000 in
theorem spec_DishUses.calls (k : Nat) (A0 : Option Addr) (c0 : Nat) (l0 : List (S29)) (A1 : Option Addr) (c1 : Nat) (l1 : List (S63)) (a2 : Int) (r : List Int) (w : World) (hr0 : Kd.C k29 w A0 l0.length l0) (hc0 : l0.length ≤ c0) (hr1 : Kd.C k63 w A1 l1.length l1) (hc1 : l1.length ≤ c1) (h : spec_DishUses.f k l0 l1 a2 = some r) :
  Calls Try.prog 30 #[.slice A0 l0.length c0, .slice A1 l1.length c1, .int .i64 a2] w fun e w' => ∃ v0_ : Value, e = .returned (v0_) ∧ Kd.R (Kd.int .i64) 3 w' w.heap.size (fun _ => True) v0_ r ∧ Below w.heap.size w w' := by
 have HR0 := Aside0.mk hr0
 have HC0 := Aside0.mk hc0
 clear hr0 hc0
 have HR1 := Aside0.mk hr1
 have HC1 := Aside0.mk hc1
 clear hr1 hc1
 have HB := Aside0.mk (Below.refl w.heap.size w)
 have H : ((some (([] : List Int) : List Int)).bind fun y477 => ((spec_DishesValid.f k l0 l1).bind fun t480 => (if t480 = true then ((spec_l11Find.f k l0 a2).bind fun t481 => (spec_DishUses.j0 k l0 a2 y477 (decide (t481 < 0)))) else (spec_DishUses.j0 k l0 a2 y477 true)))) = some r := h
 clear h
 obtain ⟨y477, hy477⟩ : ∃ y_ : List Int, y_ = (([] : List Int)) := ⟨_, rfl⟩
 replace H : ((spec_DishesValid.f k l0 l1).bind fun t480 => (if t480 = true then ((spec_l11Find.f k l0 a2).bind fun t481 => (spec_DishUses.j0 k l0 a2 y477 (decide (t481 < 0)))) else (spec_DishUses.j0 k l0 a2 y477 true))) = some r := pJ hy477 H
 have Ny477 := Aside0.mk hy477
 clear hy477
 have HC4 := Aside0.mk H
 clear H
 go_enter Try.func30, Try.ntmps30
 go_upto_region 2 with (first | ((with_reducible refine gate_dst (N := 10) rfl ?_); refine Kd.R_lit (Kd.int .i64) _ 3 ?hg (N := 10) ?hd (xs := ([] : List Int)) (inner := []) (ok := fun _ => True) (okp := fun _ => True) ?hr ?hp (fun _ hk => hk) trivial (Below.refl _ _) (Nat.le_refl _) (by simp) ?_; (case hd => rfl); (case hg => rfl); (case hr => first | (go_simp; done) | (go_simp; rfl)); (case hp => exact (Reps.none _ _)); intro v478 w5 ho6 hb hg_ hnew_; clear hg_ hnew_; (first | rw [← Ny477.out] at ho6 | (simp only [Int.reduceToNat] at ho6; rw [← Ny477.out] at ho6)); have n0_ := Aside0.mk (Kd.R_lower ho6 (below_size pB)); have n1_ := Aside0.mk (below_step pB hb); clear HB; have HO479 := n0_; have HB := n1_; clear n0_ n1_; clear hb ho6))
 (try simp only [Act.put, List.setIfInBounds_toArray, List.set_cons_zero, List.set_cons_succ])
 go_cut [20] (fun v20 wc => ∃ (kq : Nat) (x20_3 : Bool), v20 = .bool x20_3 ∧ Aside0 (spec_DishUses.j0 kq l0 a2 y477 x20_3 = some r) ∧ Aside0 (kq ≤ k) ∧ Aside0 (Kd.R (Kd.int .i64) 3 wc w.heap.size (fun _ => True) v478 y477) ∧ Aside0 (Below w.heap.size w wc))
 case first =>
  have H := HC4.out
  clear HC4
  replace H := Option.bind_eq_some_iff.mp H
  obtain ⟨t480, A70, H⟩ := H
  replace H : (if t480 = true then ((spec_l11Find.f k l0 a2).bind fun t481 => (spec_DishUses.j0 k l0 a2 y477 (decide (t481 < 0)))) else (spec_DishUses.j0 k l0 a2 y477 true)) = some r := H
  have A7 := Aside0.mk A70
  clear A70
  rcases (Classical.em (t480 = true)).symm with c8 | c8
  ·replace c8 := Bool.eq_false_iff.mpr c8
   subst c8
   have H1 : (spec_DishUses.j0 k l0 a2 y477 true) = some r := by rw [if_neg (show ¬ (false = true) by decide)] at H; exact H
   clear H
   have H := H1
   clear H1
   have H' := Aside0.mk H
   clear H
   go_wp2_with (first | ((with_reducible refine gate_callee (f := 41) rfl ?_); refine goesL_ (some 13) rfl rfl Try.func41 pL rfl #[.slice A0 l0.length c0, .slice A1 l1.length c1] rfl pM ?_; (with_reducible refine (spec_DishesValid.calls k _ _ l0 _ _ l1 false _ ?side1 ?side2 ?side3 ?side4 A7.out).mono ?_); (case side1 => exact pS ((Kd.C_below HR0.out HB.out))); (case side2 => exact HC0.out); (case side3 => exact pS ((Kd.C_below HR1.out HB.out))); (case side4 => exact HC1.out); rintro e w11 ⟨rfl, hb⟩; refine ⟨_, rfl, ?_⟩; have n0_ := Aside0.mk (Kd.R_below (pR HO479) hb); have n1_ := Aside0.mk (below_step pB hb); clear HO479; clear HB; have HO479 := n0_; have HB := n1_; clear n0_ n1_; (try clear hb); (try clear hb2); (try clear hk); (try clear hi)))
   go_meet
   case rel => exact ⟨_, (true), pF, H', ⟨by first | omega | exact Nat.le_refl _⟩, ⟨pR HO479⟩, ⟨pB⟩⟩
  subst c8
  have H1 : ((spec_l11Find.f k l0 a2).bind fun t481 => (spec_DishUses.j0 k l0 a2 y477 (decide (t481 < 0)))) = some r := by rw [if_pos rfl] at H; exact H
  clear H
  have H := H1
  clear H1
  replace H := Option.bind_eq_some_iff.mp H
  obtain ⟨t481, A90, H⟩ := H
  replace H : (spec_DishUses.j0 k l0 a2 y477 (decide (t481 < 0))) = some r := H
  have A9 := Aside0.mk A90
  clear A90
  have H' := Aside0.mk H
  clear H
  go_wp2_with (first | ((with_reducible refine gate_callee (f := 41) rfl ?_); refine goesL_ (some 13) rfl rfl Try.func41 pL rfl #[.slice A0 l0.length c0, .slice A1 l1.length c1] rfl pM ?_; (with_reducible refine (spec_DishesValid.calls k _ _ l0 _ _ l1 true _ ?side1 ?side2 ?side3 ?side4 A7.out).mono ?_); (case side1 => exact pS ((Kd.C_below HR0.out HB.out))); (case side2 => exact HC0.out); (case side3 => exact pS ((Kd.C_below HR1.out HB.out))); (case side4 => exact HC1.out); rintro e w10 ⟨rfl, hb⟩; refine ⟨_, rfl, ?_⟩; have n0_ := Aside0.mk (Kd.R_below (pR HO479) hb); have n1_ := Aside0.mk (below_step pB hb); clear HO479; clear HB; have HO479 := n0_; have HB := n1_; clear n0_ n1_; (try clear hb); (try clear hb2); (try clear hk); (try clear hi)) | (go_at_call 58; (with_reducible refine (spec_l11Find.calls k _ _ l0 a2 t481 _ ?side1 ?side2 A9.out).mono ?_); (case side1 => exact pS ((Kd.C_below HR0.out HB.out))); (case side2 => exact HC0.out); rintro e w' ⟨rfl, ⟨nd, rfl⟩⟩))
  go_meet
  case rel => exact ⟨_, (decide (t481 < 0)), pF, H', ⟨by first | omega | exact Nat.le_refl _⟩, ⟨pR HO479⟩, ⟨pB⟩⟩
 case rest =>
  clear HC4
  try clear c1
  try clear p2
  try clear c3
  try clear c4
  try clear c8
  obtain ⟨kq, x20_3, rfl, HA, HJ3, HO_7, HB⟩ := hcut
  cases kq with
  | zero => exact absurd HA.out (by simp [spec_DishUses.j0])
  | succ kj3 =>
   have H := HA.out
   clear HA
   simp only [spec_DishUses.j0] at H
   by_cases c12 : x20_3 = true
   ·subst c12
    have H1 : (some y477) = some r := by rw [if_pos rfl] at H; exact H
    clear H
    have H := H1
    clear H1
    obtain rfl := Option.some.inj H
    go_wp2
    go_ret
    exact ⟨_, pE, pR HO_7, pB⟩
   replace c12 := Bool.eq_false_iff.mpr c12
   subst c12
   have H1 : ((spec_l11Find.f kj3 l0 a2).bind fun t482 => (if 0 ≤ (l0.length : Int) then (if ((l0.length : Int) : Int).toNat ≤ 281474976710656 then ((spec_l11Uses.f kj3 l0 t482 (List.replicate ((l0.length : Int) : Int).toNat false)).bind fun t486 => (spec_DishUses.l0 kj3 l0 y477 t486 0)) else (none)) else (none))) = some r := by rw [if_neg (show ¬ (false = true) by decide)] at H; exact H
   clear H
   have H := H1
   clear H1
   replace H := Option.bind_eq_some_iff.mp H
   obtain ⟨t482, A130, H⟩ := H
   replace H : (if 0 ≤ (l0.length : Int) then (if ((l0.length : Int) : Int).toNat ≤ 281474976710656 then ((spec_l11Uses.f kj3 l0 t482 (List.replicate ((l0.length : Int) : Int).toNat false)).bind fun t486 => (spec_DishUses.l0 kj3 l0 y477 t486 0)) else (none)) else (none)) = some r := H
   have A13 := Aside0.mk A130
   clear A130
   rcases (Classical.em (0 ≤ (l0.length : Int))).symm with c14 | c14
   ·rw [if_neg c14] at H
    exact absurd H (by simp)

   rw [if_pos c14] at H
   have c14b0 := eq_true c14
   have c14b1 : decide (0 ≤ (l0.length : Int)) = true := decide_eq_true c14
   clear c14
   rcases (Classical.em (((l0.length : Int) : Int).toNat ≤ 281474976710656)).symm with c15 | c15
   ·rw [if_neg c15] at H
    exact absurd H (by simp)
   rw [if_pos c15] at H
   have c15b0 := eq_true c15
   have c15b1 : decide (((l0.length : Int) : Int).toNat ≤ 281474976710656) = true := decide_eq_true c15
   clear c15
   obtain ⟨y483, hy483⟩ : ∃ y_ : List Bool, y_ = (List.replicate ((l0.length : Int) : Int).toNat false) := ⟨_, rfl⟩
   replace H : ((spec_l11Uses.f kj3 l0 t482 y483).bind fun t486 => (spec_DishUses.l0 kj3 l0 y477 t486 0)) = some r := pJ hy483 H
   have Ny483 := Aside0.mk hy483
   clear hy483
   replace H := Option.bind_eq_some_iff.mp H
   obtain ⟨t486, A160, H⟩ := H
   replace H : (spec_DishUses.l0 kj3 l0 y477 t486 0) = some r := H
   have A16 := Aside0.mk A160
   clear A160
   have H' := Aside0.mk H
   clear H
   try go_wp2
   have n0_ := Aside0.mk (Kd.R_drew HO_7.out)
   have n1_ := Aside0.mk (below_drew1 HB.out)
   clear HO_7
   clear HB
   have HO_7 := n0_
   have HB := n1_
   clear n0_ n1_
   refine start_ (n := 9) (S := fun w' => True) (ds := []) #[false, false, false, false, false, false, false, false, false] pL rfl rfl trivial (fun hHeld => ?_); refine with_tabW spec_DishUses.tab4 spec_DishUses.bits4 (fun HT_ HW_ => ?_)
   generalize wc.drew = w17 at HO_7 HB hHeld ⊢
   refine pv 0 (some 22) HT_ rfl rfl pL ?_
   refine pv 1 (some 23) HT_ rfl rfl pL ?_
   refine pv 2 (some 24) HT_ rfl rfl pL ?_
   refine pv 4 (some 26) HT_ rfl rfl pL ?_
   refine pv 5 (some 27) HT_ rfl rfl pL ?_
   refine join_ (σ := Value) 2 #[true, true, true, true, true, true, true, false, false] (fun s_ => [(25, .int .i64 t482), (28, s_)]) (fun s_ w' => (Kd.R Kd.bool 4 w' w.heap.size (fun _ => True) s_ y483) ∧ (Kd.R (Kd.int .i64) 3 w' w.heap.size (fun _ => True) v478 y477) ∧ (Below w.heap.size w w')) ?_ ?_
   rotate_left
   ·intro hCont
    refine two_ (i := 3) (j := 6) (Ni := some 25) (Nj := some 28) #[true, true, true, true, true, true, false, false, false] #[true, true, true, false, true, true, true, false, false] rfl rfl rfl rfl (two_of HT_.out pL) (by decide) (by decide) (fun K hK => ?_) (fun K hK => ?_)
    ·skip
     refine goes_ Try.func58 pL rfl #[.slice A0 l0.length c0, .int .i64 a2] (by rfl) rfl rfl pM ?_
     with_reducible refine (spec_l11Find.calls kj3 _ _ l0 a2 t482 _ ?side1 ?side2 A13.out).mono ?_
     (case side1 => exact pS ((Kd.C_below HR0.out HB.out)))
     (case side2 => exact HC0.out)
     rintro e w' ⟨rfl, ⟨nd, rfl⟩⟩
     refine ⟨_, rfl, ?_⟩
     refine hK.out _ _ trivial (fun hHeld => ?_)
     clear hK K
     refine norm_ (a' := ?_) ?_ ?_
     rotate_left
     ·show Act.put _ (some 25) _ = _
      exact pP
     refine one_ (i := 6) (N := some 28) #[true, true, true, true, true, true, true, false, false] rfl rfl (one_of HT_.out pL) (by decide) (fun K hK => ?_)
     refine Kd.R_make_step Kd.bool _ 4 (by rfl) (N := 28) rfl 85 _ _ rfl (l0.length : Int) rfl rfl Try.underlying85 (.bool false) 1 info4 rfl (by decide) (by omega) false (ok := fun _ => True) (okp := fun _ => True) rfl (fun _ hk => hk) trivial (of_decide_eq_true pA) (Nat.le_trans (Nat.mul_le_mul_right _ (of_decide_eq_true pA : (l0.length : Int).toNat ≤ 281474976710656)) (by omega)) (Below.refl _ _) (Nat.le_refl _) ?_
     intro v484 w18 ho19 hb hg_ hnew_
     clear hg_ hnew_
     (first | rw [← Ny483.out] at ho19 | (simp only [Int.reduceToNat] at ho19; rw [← Ny483.out] at ho19))
     have n0_ := Aside0.mk (Kd.R_below (pR HO_7) hb)
     have n1_ := Aside0.mk (Kd.R_lower ho19 (below_size pB))
     have n2_ := Aside0.mk (below_step pB hb)
     clear HO_7
     clear HB
     have HO_7 := n0_
     have HO485 := n1_
     have HB := n2_
     clear n0_ n1_ n2_
     clear hb ho19
     refine hK.out _ _ trivial (fun hHeld => ?_)
     clear hK K
     refine norm_ (a' := ?_) ?_ ?_
     rotate_left
     ·show Act.put _ (some 28) _ = _
      exact pP
     exact norm_ (by simp only [putAll, Act.put, List.setIfInBounds_toArray, List.set_cons_zero, List.set_cons_succ]) (hCont (v484) _ ⟨(pR HO485), (pR HO_7), pB⟩)
    ·skip
     refine Kd.R_make_step Kd.bool _ 4 (by rfl) (N := 28) rfl 85 _ _ rfl (l0.length : Int) rfl rfl Try.underlying85 (.bool false) 1 info4 rfl (by decide) (by omega) false (ok := fun _ => True) (okp := fun _ => True) rfl (fun _ hk => hk) trivial (of_decide_eq_true pA) (Nat.le_trans (Nat.mul_le_mul_right _ (of_decide_eq_true pA : (l0.length : Int).toNat ≤ 281474976710656)) (by omega)) (Below.refl _ _) (Nat.le_refl _) ?_
     intro v484 w18 ho19 hb hg_ hnew_
     clear hg_ hnew_
     (first | rw [← Ny483.out] at ho19 | (simp only [Int.reduceToNat] at ho19; rw [← Ny483.out] at ho19))
     have n0_ := Aside0.mk (Kd.R_below (pR HO_7) hb)
     have n1_ := Aside0.mk (Kd.R_lower ho19 (below_size pB))
     have n2_ := Aside0.mk (below_step pB hb)
     clear HO_7
     clear HB
     have HO_7 := n0_
     have HO485 := n1_
     have HB := n2_
     clear n0_ n1_ n2_
     clear hb ho19
     refine hK.out _ _ trivial (fun hHeld => ?_)
     clear hK K
     refine norm_ (a' := ?_) ?_ ?_
     rotate_left
     ·show Act.put _ (some 28) _ = _
      exact pP
     refine one_ (i := 3) (N := some 25) #[true, true, true, true, true, true, true, false, false] rfl rfl (one_of HT_.out pL) (by decide) (fun K hK => ?_)
     refine goes_ Try.func58 pL rfl #[.slice A0 l0.length c0, .int .i64 a2] (by rfl) rfl rfl pM ?_
     with_reducible refine (spec_l11Find.calls kj3 _ _ l0 a2 t482 _ ?side1 ?side2 A13.out).mono ?_
     (case side1 => exact pS ((Kd.C_below HR0.out HB.out)))
     (case side2 => exact HC0.out)
     rintro e w' ⟨rfl, ⟨nd, rfl⟩⟩
     refine ⟨_, rfl, ?_⟩
     refine hK.out _ _ trivial (fun hHeld => ?_)
     clear hK K
     refine norm_ (a' := ?_) ?_ ?_
     rotate_left
     ·show Act.put _ (some 25) _ = _
      exact pP
     exact norm_ (by simp only [putAll, Act.put, List.setIfInBounds_toArray, List.set_cons_zero, List.set_cons_succ]) (hCont (v484) _ ⟨(pR HO485), (pR HO_7), pB⟩)
   rintro v484 w20 ⟨h0_, h1_, h2_⟩
   have n0_ : Aside0 (Kd.R Kd.bool 4 w20 w.heap.size (fun _ => True) v484 y483) := ⟨h0_⟩
   have n1_ : Aside0 (Kd.R (Kd.int .i64) 3 w20 w.heap.size (fun _ => True) v478 y477) := ⟨h1_⟩
   have n2_ : Aside0 (Below w.heap.size w w20) := ⟨h2_⟩
   clear HO_7
   clear HB
   clear h0_ h1_ h2_
   have HO485 := n0_
   have HO_7 := n1_
   have HB := n2_
   clear n0_ n1_ n2_
   have hHeld := trivial
   obtain ⟨Ao21, co21, eo21⟩ := Kd.R_slice HO485.out
   (first | subst eo21 | (injection eo21 with f1_ f2_ f3_; have f4_ := f1_.symm; have f5_ := f3_.symm; clear f1_ f2_ f3_; subst f4_; subst f5_))
   refine norm_ (a' := ?_) ?_ ?_
   rotate_left
   ·simp only [putAll, Act.put, List.setIfInBounds_toArray, List.set_cons_zero, List.set_cons_succ]
    rfl
   refine one_ (i := 7) (N := some 29) #[true, true, true, true, true, true, true, true, false] rfl rfl (one_of HT_.out pL) (by decide) (fun K hK => ?_)
   refine goes_ Try.func69 pL rfl #[.slice A0 l0.length c0, .int .i64 t482, .slice Ao21 y483.length co21] (by rfl) rfl rfl pM ?_
   with_reducible refine (spec_l11Uses.calls kj3 _ _ l0 t482 (fun k_ => some k_ = (.slice Ao21 y483.length co21 : Value).ownBlock) (.slice Ao21 y483.length co21) y483 t486 w _ ?side1 ?side2 ?side3 ?side4 A16.out).mono ?_
   (case side1 => exact pB)
   (case side2 => exact Kd.C_kept_came k29_heap HR0.out pB (fun k_ hs_ => (fun e_ => Kd.R_base HO485.out k_ e_.symm) hs_))
   (case side3 => exact HC0.out)
   (case side4 => exact Kd.R_tight rfl HO485.out)
   rintro e w22 ⟨v487, rfl, ho0, hb, hkp⟩
   refine ⟨_, rfl, ?_⟩
   have n0_ := Aside0.mk (Kd.R_mono (ok' := fun k_ => True) (Kd.R_keptB ((Kd.R_apart' HO_7.out (Kd.R_typed HO485.out) (by decide))) hkp (fun k_ hk_ hs_ => (hk_.2) hs_)) (fun k_ hk_ => trivial))
   have n1_ := Aside0.mk (Kd.R_mono (ok' := fun k_ => True) ho0 (fun k_ hk_ => trivial))
   have n2_ := Aside0.mk (hb)
   clear HO_7
   clear HB
   clear HO485
   have HO_7 := n0_
   have HO488 := n1_
   have HB := n2_
   clear n0_ n1_ n2_
   (try clear hb)
   (try clear hkp)
   (try clear ho0)
   refine hK.out _ _ trivial (fun hHeld => ?_)
   clear hK K
   refine norm_ (a' := ?_) ?_ ?_
   rotate_left
   ·show Act.put _ (some 29) _ = _
    exact pP
   refine pv 8 (some 8) HT_ rfl rfl pL ?_
   refine done_ (done_of HT_.out pL) ?_
   try go_wp2
   go_loopg [7, 9] kj3 (fun kq v7 v9 w' => ∃ (x7_2 : List Int) (x9_2 : Int), v9 = .int .i64 x9_2 ∧ Aside0 (spec_DishUses.l0 kq l0 x7_2 t486 x9_2 = some r) ∧ Aside0 (kq ≤ kj3) ∧ Aside0 (Kd.R (Kd.int .i64) 3 w' w.heap.size (fun _ => True) v7 x7_2) ∧ Aside0 (Kd.R Kd.bool 4 w' w.heap.size (fun _ => True) v487 t486) ∧ Aside0 (Below w.heap.size w w'))
   case atStart => exact ⟨(y477), (0), pF, H', ⟨Nat.le_refl _⟩, ⟨pR HO_7⟩, ⟨pR HO488⟩, ⟨pB⟩⟩
   case round =>
    clear H'
    try clear c1
    try clear p2
    try clear c3
    try clear c4
    try clear c5
    try clear c6
    try clear c8
    try clear c12
    try clear c14
    try clear c14b0
    try clear c14b1
    try clear c15
    try clear c15b0
    try clear c15b1
    try clear p2
    obtain ⟨x7_2, x9_2, rfl, HA, HK2, HO_7, HO_8, HB⟩ := hrel
    cases gk with
    | zero => exact absurd HA.out (by simp [spec_DishUses.l0])
    | succ k2 =>
     have H := HA.out
     clear HA
     simp only [spec_DishUses.l0] at H
     rcases (Classical.em (x9_2 < (l0.length : Int))).symm with c23 | c23
     ·rw [if_neg c23] at H
      have c23b0 : decide (x9_2 < (l0.length : Int)) = false := decide_eq_false c23
      clear c23
      obtain rfl := Option.some.inj H
      go_wp2
      go_ret
      exact ⟨_, pE, pR HO_7, pB⟩
     rw [if_pos c23] at H
     have c23b0 : decide (x9_2 < (l0.length : Int)) = true := decide_eq_true c23
     clear c23
     rcases (Classical.em (0 ≤ x9_2)).symm with c24 | c24
     ·rw [if_neg c24] at H
      exact absurd H (by simp)
     rw [if_pos c24] at H
     have c24b0 : decide (0 ≤ x9_2) = true := decide_eq_true c24
     clear c24
     rcases (Classical.em (x9_2 < (t486.length : Int))).symm with c25 | c25
     ·rw [if_neg c25] at H
      exact absurd H (by simp)
     rw [if_pos c25] at H
     have c25b0 : decide (x9_2 < (t486.length : Int)) = true := decide_eq_true c25
     clear c25
     obtain ⟨bq26, hbq26⟩ : ∃ b_ : Bool, b_ = (rdOf false t486 x9_2) := ⟨_, rfl⟩
     replace H : (if bq26 = true then (if x7_2.length < 17592186044416 then (spec_DishUses.l0 k2 l0 (x7_2 ++ [(rd_T29 l0 x9_2).f0]) t486 (wrap64 (x9_2 + 1))) else (none)) else (spec_DishUses.l0 k2 l0 x7_2 t486 (wrap64 (x9_2 + 1)))) = some r := by rw [← hbq26] at H; exact H
     have Nbq26 := Aside0.mk hbq26
     clear hbq26
     rcases (Classical.em (bq26 = true)).symm with c27 | c27
     ·replace c27 := Bool.eq_false_iff.mpr c27
      subst c27
      have H1 : (spec_DishUses.l0 k2 l0 x7_2 t486 (wrap64 (x9_2 + 1))) = some r := by rw [if_neg (show ¬ (false = true) by decide)] at H; exact H
      clear H
      have H := H1
      clear H1
      have H' := Aside0.mk H
      clear H
      obtain ⟨Ao31, co31, eo31⟩ := Kd.R_slice HO_8.out
      subst eo31
      have p489 : 0 ≤ (x9_2 : Int) := of_decide_eq_true pA
      have q489 : x9_2 < (t486.length : Int) := of_decide_eq_true pA
      obtain ⟨ad489, e489, hx489_0⟩ := Kd.at_bool (Kd.R_reads' HO_8.out).2.2 x9_2 p489 q489
      (try rw [← Nbq26.out] at hx489_0)
      cases e489
      replace p489 := eq_true p489
      replace q489 := eq_true q489
      go_wp2
      go_roundg k2
      case measure => have := HJ3.out; have := HK2.out; omega
      case rel => exact ⟨(x7_2), (wrap64 (x9_2 + 1)), pF, H', ⟨by have := HJ3.out; have := HK2.out; omega⟩, ⟨pR HO_7⟩, ⟨pR HO_8⟩, ⟨pB⟩⟩
     subst c27
     have H1 : (if x7_2.length < 17592186044416 then (spec_DishUses.l0 k2 l0 (x7_2 ++ [(rd_T29 l0 x9_2).f0]) t486 (wrap64 (x9_2 + 1))) else (none)) = some r := by rw [if_pos rfl] at H; exact H
     clear H
     have H := H1
     clear H1
     rcases (Classical.em (x7_2.length < 17592186044416)).symm with c28 | c28
     ·rw [if_neg c28] at H
      exact absurd H (by simp)
     rw [if_pos c28] at H
     have LMc28 := Aside0.mk c28
     clear c28
     obtain ⟨y491, hy491⟩ : ∃ y_ : List Int, y_ = (x7_2 ++ [(rd_T29 l0 x9_2).f0]) := ⟨_, rfl⟩
     replace H : (spec_DishUses.l0 k2 l0 y491 t486 (wrap64 (x9_2 + 1))) = some r := pJ hy491 H
     have Ny491 := Aside0.mk hy491
     clear hy491
     have H' := Aside0.mk H
     clear H
     obtain ⟨Ao29, co29, eo29⟩ := Kd.R_slice HO_8.out
     subst eo29
     have p489 : 0 ≤ (x9_2 : Int) := of_decide_eq_true pA
     have q489 : x9_2 < (t486.length : Int) := of_decide_eq_true pA
     obtain ⟨ad489, e489, hx489_0⟩ := Kd.at_bool (Kd.R_reads' HO_8.out).2.2 x9_2 p489 q489
     (try rw [← Nbq26.out] at hx489_0)
     cases e489
     replace p489 := eq_true p489
     replace q489 := eq_true q489
     have p490 : 0 ≤ (x9_2 : Int) := of_decide_eq_true pA
     have q490 : x9_2 < (l0.length : Int) := of_decide_eq_true pA
     obtain ⟨ad490, A490_2, c490_2, e490, hx490_0, hx490_1, hx490_2, hl490_2, hi490_2⟩ := at_T29 HR0.out x9_2 p490 q490
     cases e490
     replace hx490_0 := (HB.out.cell (World.block_lt_of_cell? w _ hx490_0)).trans hx490_0
     replace hx490_1 := (HB.out.cell (World.block_lt_of_cell? w _ hx490_1)).trans hx490_1
     replace hx490_2 := (HB.out.cell (World.block_lt_of_cell? w _ hx490_2)).trans hx490_2
     have HR490_2 := Aside0.mk (hi490_2)
     have HC490_2 := Aside0.mk hl490_2
     clear hi490_2 hl490_2
     replace p490 := eq_true p490
     replace q490 := eq_true q490
     go_wp2_with (first | ((with_reducible refine gate_builtin (b := .append) (xs := #[.tmp 40, .tmp 46]) rfl ?_); at_builtin; refine Kd.R_append (Kd.int .i64) (w0 := w) w.heap.size rfl (.tmp 40) (.tmp 46) 43 3 (.int .i64 0) 8 rfl Try.underlying43 info3 rfl (by decide) (by omega) u7 x7_2 ((rd_T29 l0 x9_2).f0) [.int .i64 ((rd_T29 l0 x9_2).f0)] (fun _ => True) (fun _ => False) rfl rfl ?aP (fun _ hk => hk.elim) ?aF ?aO ?aB ?aS ?aL ?_; (case aP => exact rfl); (case aB => exact pB); (case aF => exact (fun _ _ => trivial)); (case aO => exact (pR HO_7)); (case aS => exact (below_size pB)); (case aL => have := LMc28.out; omega); intro v492 w30 ho hb hg hat; rw [← Ny491.out] at ho; have n0_ := Aside0.mk (Kd.R_over' (pR HO_8) (Kd.R_typed (pR HO_7)) (by decide) hg); have n1_ := Aside0.mk (hb); have n2_ := Aside0.mk (ho); clear HO_8; clear HB; clear HO_7; have HO_8 := n0_; have HB := n1_; have HO493 := n2_; clear n0_ n1_ n2_; clear ho hb hg hat))
     go_roundg k2
     case measure => have := HJ3.out; have := HK2.out; omega
     case rel => exact ⟨(y491), (wrap64 (x9_2 + 1)), pF, H', ⟨by have := HJ3.out; have := HK2.out; omega⟩, ⟨pR HO493⟩, ⟨pR HO_8⟩, ⟨pB⟩⟩
/-! ### impl_DishUses: function 31 -/
def impl_DishUses.l0 : Nat → List (S29) → List Int → List Bool → Int → Int → Option (List Int)
 | 0, _, _, _, _, _ => none
 | k + 1, x0, x7, x19, x20, x21 => if x21 < x20 then (if 0 ≤ x21 then (if x21 < (x19.length : Int) then (if rdOf false x19 x21 = true then (if x21 < (x0.length : Int) then (if x7.length < 17592186044416 then (impl_DishUses.l0 k x0 (x7 ++ [(rd_T29 x0 x21).f0]) x19 x20 (wrap64 (x21 + 1))) else (none)) else (none)) else (impl_DishUses.l0 k x0 x7 x19 x20 (wrap64 (x21 + 1)))) else (none)) else (none)) else (some x7)
def impl_DishUses.f (k : Nat) (l0 : List (S29)) (l1 : List (S63)) (a2 : Int) : Option (List Int) := (some (([] : List Int) : List Int)).bind fun y494 => ((impl_hasDish.f k l0 l1 a2).bind fun t497 => (if t497 = true then ((impl_inDish.f k l0 a2).bind fun t498 => (impl_DishUses.l0 k l0 y494 t498 (t498.length : Int) 0)) else (some y494)))
theorem impl_DishUses.mono_l : ∀ k, (∀ y0 y1 y2 y3 y4, LeO (impl_DishUses.l0 k y0 y1 y2 y3 y4) (impl_DishUses.l0 (k + 1) y0 y1 y2 y3 y4))
 | 0 => fun _ _ _ _ _ r h => by simp [impl_DishUses.l0] at h
 | k + 1 => by
  have ih0 := impl_DishUses.mono_l k
  ·intro y0 y1 y2 y3 y4
   unfold impl_DishUses.l0
   repeat' first
   | (with_reducible exact ih0 _ _ _ _ _)
   | (with_reducible exact impl_hasDish.mono _ _ _ _)
   | (with_reducible exact impl_inDish.mono _ _ _)
   | (with_reducible exact LeO.refl _)
   | (with_reducible exact LeO.none _)
   | (with_reducible refine LeO.ite ?_ ?_)
   | (with_reducible refine LeO.bind ?_ (fun _ => ?_))
   | exact ih0 _ _ _ _ _
   | exact impl_hasDish.mono _ _ _ _
   | exact impl_inDish.mono _ _ _
   | exact LeO.none _
   | refine LeO.ite ?_ ?_
   | refine LeO.bind ?_ (fun _ => ?_)
theorem impl_DishUses.mono : ∀ a0 a1 a2 k, LeO (impl_DishUses.f k a0 a1 a2) (impl_DishUses.f (k + 1) a0 a1 a2) := by
 intro a0 a1 a2 k
 have ih0 := impl_DishUses.mono_l k
 unfold impl_DishUses.f
 repeat' first
   | (with_reducible exact ih0 _ _ _ _ _)
   | (with_reducible exact impl_hasDish.mono _ _ _ _)
   | (with_reducible exact impl_inDish.mono _ _ _)
   | (with_reducible exact LeO.refl _)
   | (with_reducible exact LeO.none _)
   | (with_reducible refine LeO.ite ?_ ?_)
   | (with_reducible refine LeO.bind ?_ (fun _ => ?_))
   | exact ih0 _ _ _ _ _
   | exact impl_hasDish.mono _ _ _ _
   | exact impl_inDish.mono _ _ _
   | exact LeO.none _
   | refine LeO.ite ?_ ?_
   | refine LeO.bind ?_ (fun _ => ?_)
set_option maxHeartbeats 8000000 in
set_option maxRecDepth 100000 in
theorem impl_DishUses.calls (k : Nat) (A0 : Option Addr) (c0 : Nat) (l0 : List (S29)) (A1 : Option Addr) (c1 : Nat) (l1 : List (S63)) (a2 : Int) (r : List Int) (w : World) (hr0 : Kd.C k29 w A0 l0.length l0) (hc0 : l0.length ≤ c0) (hr1 : Kd.C k63 w A1 l1.length l1) (hc1 : l1.length ≤ c1) (h : impl_DishUses.f k l0 l1 a2 = some r) :
  Calls Try.prog 31 #[.slice A0 l0.length c0, .slice A1 l1.length c1, .int .i64 a2] w fun e w' => ∃ v0_ : Value, e = .returned (v0_) ∧ Kd.R (Kd.int .i64) 3 w' w.heap.size (fun _ => True) v0_ r ∧ Below w.heap.size w w' := by
 have HR0 := Aside0.mk hr0
 have HC0 := Aside0.mk hc0
 clear hr0 hc0
 have HR1 := Aside0.mk hr1
 have HC1 := Aside0.mk hc1
 clear hr1 hc1
 have HB := Aside0.mk (Below.refl w.heap.size w)
 have H : ((some (([] : List Int) : List Int)).bind fun y494 => ((impl_hasDish.f k l0 l1 a2).bind fun t497 => (if t497 = true then ((impl_inDish.f k l0 a2).bind fun t498 => (impl_DishUses.l0 k l0 y494 t498 (t498.length : Int) 0)) else (some y494)))) = some r := h
 clear h
 obtain ⟨y494, hy494⟩ : ∃ y_ : List Int, y_ = (([] : List Int)) := ⟨_, rfl⟩
 replace H : ((impl_hasDish.f k l0 l1 a2).bind fun t497 => (if t497 = true then ((impl_inDish.f k l0 a2).bind fun t498 => (impl_DishUses.l0 k l0 y494 t498 (t498.length : Int) 0)) else (some y494))) = some r := pJ hy494 H
 have Ny494 := Aside0.mk hy494
 clear hy494
 replace H := Option.bind_eq_some_iff.mp H
 obtain ⟨t497, A40, H⟩ := H
 replace H : (if t497 = true then ((impl_inDish.f k l0 a2).bind fun t498 => (impl_DishUses.l0 k l0 y494 t498 (t498.length : Int) 0)) else (some y494)) = some r := H
 have A4 := Aside0.mk A40
 clear A40
 rcases (Classical.em (t497 = true)).symm with c5 | c5
 ·replace c5 := Bool.eq_false_iff.mpr c5
  subst c5
  have H1 : (some y494) = some r := by rw [if_neg (show ¬ (false = true) by decide)] at H; exact H
  clear H
  have H := H1
  clear H1
  obtain rfl := Option.some.inj H
  go_enter Try.func31, Try.ntmps31
  go_wp2_with (first | ((with_reducible refine gate_dst (N := 10) rfl ?_); refine Kd.R_lit (Kd.int .i64) _ 3 ?hg (N := 10) ?hd (xs := ([] : List Int)) (inner := []) (ok := fun _ => True) (okp := fun _ => True) ?hr ?hp (fun _ hk => hk) trivial (Below.refl _ _) (Nat.le_refl _) (by simp) ?_; (case hd => rfl); (case hg => rfl); (case hr => first | (go_simp; done) | (go_simp; rfl)); (case hp => exact (Reps.none _ _)); intro v495 w20 ho21 hb hg_ hnew_; clear hg_ hnew_; (first | rw [← Ny494.out] at ho21 | (simp only [Int.reduceToNat] at ho21; rw [← Ny494.out] at ho21)); have n0_ := Aside0.mk (Kd.R_lower ho21 (below_size pB)); have n1_ := Aside0.mk (below_step pB hb); clear HB; have HO496 := n0_; have HB := n1_; clear n0_ n1_; clear hb ho21) | ((with_reducible refine gate_callee (f := 66) rfl ?_); refine goesL_ (some 14) rfl rfl Try.func66 pL rfl #[.slice A0 l0.length c0, .slice A1 l1.length c1, .int .i64 a2] rfl pM ?_; (with_reducible refine (impl_hasDish.calls k _ _ l0 _ _ l1 a2 false _ ?side1 ?side2 ?side3 ?side4 A4.out).mono ?_); (case side1 => exact pS ((Kd.C_below HR0.out HB.out))); (case side2 => exact HC0.out); (case side3 => exact pS ((Kd.C_below HR1.out HB.out))); (case side4 => exact HC1.out); rintro e w22 ⟨rfl, hb⟩; refine ⟨_, rfl, ?_⟩; have n0_ := Aside0.mk (Kd.R_below (pR HO496) hb); have n1_ := Aside0.mk (below_step pB hb); clear HO496; clear HB; have HO496 := n0_; have HB := n1_; clear n0_ n1_; (try clear hb); (try clear hb2); (try clear hk); (try clear hi)))
  go_ret
  exact ⟨_, pE, pR HO496, pB⟩

 subst c5
 have H1 : ((impl_inDish.f k l0 a2).bind fun t498 => (impl_DishUses.l0 k l0 y494 t498 (t498.length : Int) 0)) = some r := by rw [if_pos rfl] at H; exact H
 clear H
 have H := H1
 clear H1
 replace H := Option.bind_eq_some_iff.mp H
 obtain ⟨t498, A60, H⟩ := H
 replace H : (impl_DishUses.l0 k l0 y494 t498 (t498.length : Int) 0) = some r := H
 have A6 := Aside0.mk A60
 clear A60
 have H' := Aside0.mk H
 clear H
 go_enter Try.func31, Try.ntmps31
 go_wp2_with (first | ((with_reducible refine gate_dst (N := 10) rfl ?_); refine Kd.R_lit (Kd.int .i64) _ 3 ?hg (N := 10) ?hd (xs := ([] : List Int)) (inner := []) (ok := fun _ => True) (okp := fun _ => True) ?hr ?hp (fun _ hk => hk) trivial (Below.refl _ _) (Nat.le_refl _) (by simp) ?_; (case hd => rfl); (case hg => rfl); (case hr => first | (go_simp; done) | (go_simp; rfl)); (case hp => exact (Reps.none _ _)); intro v495 w7 ho8 hb hg_ hnew_; clear hg_ hnew_; (first | rw [← Ny494.out] at ho8 | (simp only [Int.reduceToNat] at ho8; rw [← Ny494.out] at ho8)); have n0_ := Aside0.mk (Kd.R_lower ho8 (below_size pB)); have n1_ := Aside0.mk (below_step pB hb); clear HB; have HO496 := n0_; have HB := n1_; clear n0_ n1_; clear hb ho8) | ((with_reducible refine gate_callee (f := 66) rfl ?_); refine goesL_ (some 14) rfl rfl Try.func66 pL rfl #[.slice A0 l0.length c0, .slice A1 l1.length c1, .int .i64 a2] rfl pM ?_; (with_reducible refine (impl_hasDish.calls k _ _ l0 _ _ l1 a2 true _ ?side1 ?side2 ?side3 ?side4 A4.out).mono ?_); (case side1 => exact pS ((Kd.C_below HR0.out HB.out))); (case side2 => exact HC0.out); (case side3 => exact pS ((Kd.C_below HR1.out HB.out))); (case side4 => exact HC1.out); rintro e w9 ⟨rfl, hb⟩; refine ⟨_, rfl, ?_⟩; have n0_ := Aside0.mk (Kd.R_below (pR HO496) hb); have n1_ := Aside0.mk (below_step pB hb); clear HO496; clear HB; have HO496 := n0_; have HB := n1_; clear n0_ n1_; (try clear hb); (try clear hb2); (try clear hk); (try clear hi)) | ((with_reducible refine gate_callee (f := 70) rfl ?_); refine goesL_ (some 19) rfl rfl Try.func70 pL rfl #[.slice A0 l0.length c0, .int .i64 a2] rfl pM ?_; (with_reducible refine (impl_inDish.calls k _ _ l0 a2 t498 _ ?side1 ?side2 A6.out).mono ?_); (case side1 => exact pS ((Kd.C_below HR0.out HB.out))); (case side2 => exact HC0.out); rintro e w10 ⟨v499, rfl, ho0, hb⟩; refine ⟨_, rfl, ?_⟩; have n0_ := Aside0.mk (Kd.R_below (pR HO496) hb); have n1_ := Aside0.mk (Kd.R_lower ho0 (below_size pB)); have n2_ := Aside0.mk (below_step pB hb); clear HO496; clear HB; have HO496 := n0_; have HO500 := n1_; have HB := n2_; clear n0_ n1_ n2_; (try clear hb); (try clear hb2); (try clear hk); (try clear hi); (try clear ho0); obtain ⟨Ao11, co11, eo11⟩ := Kd.R_slice HO500.out; subst eo11))
 go_loopg [7, 21] k (fun kq v7 v21 w' => ∃ (x7_1 : List Int) (x21_1 : Int), v21 = .int .i64 x21_1 ∧ Aside0 (impl_DishUses.l0 kq l0 x7_1 t498 (t498.length : Int) x21_1 = some r) ∧ Aside0 (kq ≤ k) ∧ Aside0 (Kd.R (Kd.int .i64) 3 w' w.heap.size (fun _ => True) v7 x7_1) ∧ Aside0 (Kd.R Kd.bool 4 w' w.heap.size (fun _ => True) (.slice Ao11 t498.length co11) t498) ∧ Aside0 (Below w.heap.size w w'))
 case atStart => exact ⟨(y494), (0), pF, H', ⟨Nat.le_refl _⟩, ⟨pR HO496⟩, ⟨pR HO500⟩, ⟨pB⟩⟩
 case round =>
  clear H'
  try clear c1
  try clear p2
  try clear c3
  try clear c5
  try clear c6
  try clear c7
  obtain ⟨x7_1, x21_1, rfl, HA, HK1, HO_7, HO_19, HB⟩ := hrel
  cases gk with
  | zero => exact absurd HA.out (by simp [impl_DishUses.l0])
  | succ k1 =>
   have H := HA.out
   clear HA
   simp only [impl_DishUses.l0] at H
   rcases (Classical.em (x21_1 < (t498.length : Int))).symm with c12 | c12
   ·rw [if_neg c12] at H
    have c12b0 : decide (x21_1 < (t498.length : Int)) = false := decide_eq_false c12
    clear c12
    obtain rfl := Option.some.inj H
    go_wp2
    go_ret
    exact ⟨_, pE, pR HO_7, pB⟩
   rw [if_pos c12] at H
   have c12b0 : decide (x21_1 < (t498.length : Int)) = true := decide_eq_true c12
   clear c12
   rcases (Classical.em (0 ≤ x21_1)).symm with c13 | c13
   ·rw [if_neg c13] at H
    exact absurd H (by simp)
   rw [if_pos c13] at H
   have c13b0 : decide (0 ≤ x21_1) = true := decide_eq_true c13
   clear c13
   rcases (Classical.em (x21_1 < (t498.length : Int))).symm with c14 | c14
   ·rw [if_neg c14] at H
    exact absurd H (by simp)
   rw [if_pos c14] at H
   have c14b0 : decide (x21_1 < (t498.length : Int)) = true := decide_eq_true c14
   clear c14
   obtain ⟨bq15, hbq15⟩ : ∃ b_ : Bool, b_ = (rdOf false t498 x21_1) := ⟨_, rfl⟩
   replace H : (if bq15 = true then (if x21_1 < (l0.length : Int) then (if x7_1.length < 17592186044416 then (impl_DishUses.l0 k1 l0 (x7_1 ++ [(rd_T29 l0 x21_1).f0]) t498 (t498.length : Int) (wrap64 (x21_1 + 1))) else (none)) else (none)) else (impl_DishUses.l0 k1 l0 x7_1 t498 (t498.length : Int) (wrap64 (x21_1 + 1)))) = some r := by rw [← hbq15] at H; exact H
   have Nbq15 := Aside0.mk hbq15
   clear hbq15
   rcases (Classical.em (bq15 = true)).symm with c16 | c16
   ·replace c16 := Bool.eq_false_iff.mpr c16
    subst c16
    have H1 : (impl_DishUses.l0 k1 l0 x7_1 t498 (t498.length : Int) (wrap64 (x21_1 + 1))) = some r := by rw [if_neg (show ¬ (false = true) by decide)] at H; exact H
    clear H
    have H := H1
    clear H1
    have H' := Aside0.mk H
    clear H
    have p501 : 0 ≤ (x21_1 : Int) := of_decide_eq_true pA
    have q501 : x21_1 < (t498.length : Int) := of_decide_eq_true pA
    obtain ⟨ad501, e501, hx501_0⟩ := Kd.at_bool (Kd.R_reads' HO_19.out).2.2 x21_1 p501 q501
    (try rw [← Nbq15.out] at hx501_0)
    cases e501
    replace p501 := eq_true p501
    replace q501 := eq_true q501
    go_wp2
    go_roundg k1
    case measure => have := HK1.out; omega
    case rel => exact ⟨(x7_1), (wrap64 (x21_1 + 1)), pF, H', ⟨by have := HK1.out; omega⟩, ⟨pR HO_7⟩, ⟨pR HO_19⟩, ⟨pB⟩⟩
   subst c16
   have H1 : (if x21_1 < (l0.length : Int) then (if x7_1.length < 17592186044416 then (impl_DishUses.l0 k1 l0 (x7_1 ++ [(rd_T29 l0 x21_1).f0]) t498 (t498.length : Int) (wrap64 (x21_1 + 1))) else (none)) else (none)) = some r := by rw [if_pos rfl] at H; exact H
   clear H
   have H := H1
   clear H1
   rcases (Classical.em (x21_1 < (l0.length : Int))).symm with c17 | c17
   ·rw [if_neg c17] at H
    exact absurd H (by simp)
   rw [if_pos c17] at H
   have c17b0 : decide (x21_1 < (l0.length : Int)) = true := decide_eq_true c17
   clear c17
   rcases (Classical.em (x7_1.length < 17592186044416)).symm with c18 | c18
   ·rw [if_neg c18] at H
    exact absurd H (by simp)
   rw [if_pos c18] at H
   have LMc18 := Aside0.mk c18
   clear c18
   obtain ⟨y503, hy503⟩ : ∃ y_ : List Int, y_ = (x7_1 ++ [(rd_T29 l0 x21_1).f0]) := ⟨_, rfl⟩
   replace H : (impl_DishUses.l0 k1 l0 y503 t498 (t498.length : Int) (wrap64 (x21_1 + 1))) = some r := pJ hy503 H
   have Ny503 := Aside0.mk hy503
   clear hy503
   have H' := Aside0.mk H
   clear H
   have p501 : 0 ≤ (x21_1 : Int) := of_decide_eq_true pA
   have q501 : x21_1 < (t498.length : Int) := of_decide_eq_true pA
   obtain ⟨ad501, e501, hx501_0⟩ := Kd.at_bool (Kd.R_reads' HO_19.out).2.2 x21_1 p501 q501
   (try rw [← Nbq15.out] at hx501_0)
   cases e501
   replace p501 := eq_true p501
   replace q501 := eq_true q501
   have p502 : 0 ≤ (x21_1 : Int) := of_decide_eq_true pA
   have q502 : x21_1 < (l0.length : Int) := of_decide_eq_true pA
   obtain ⟨ad502, A502_2, c502_2, e502, hx502_0, hx502_1, hx502_2, hl502_2, hi502_2⟩ := at_T29 HR0.out x21_1 p502 q502
   cases e502
   replace hx502_0 := (HB.out.cell (World.block_lt_of_cell? w _ hx502_0)).trans hx502_0
   replace hx502_1 := (HB.out.cell (World.block_lt_of_cell? w _ hx502_1)).trans hx502_1
   replace hx502_2 := (HB.out.cell (World.block_lt_of_cell? w _ hx502_2)).trans hx502_2
   have HR502_2 := Aside0.mk (hi502_2)
   have HC502_2 := Aside0.mk hl502_2
   clear hi502_2 hl502_2
   replace p502 := eq_true p502
   replace q502 := eq_true q502
   go_wp2_with (first | ((with_reducible refine gate_builtin (b := .append) (xs := #[.tmp 27, .tmp 33]) rfl ?_); at_builtin; refine Kd.R_append (Kd.int .i64) (w0 := w) w.heap.size rfl (.tmp 27) (.tmp 33) 43 3 (.int .i64 0) 8 rfl Try.underlying43 info3 rfl (by decide) (by omega) u7 x7_1 ((rd_T29 l0 x21_1).f0) [.int .i64 ((rd_T29 l0 x21_1).f0)] (fun _ => True) (fun _ => False) rfl rfl ?aP (fun _ hk => hk.elim) ?aF ?aO ?aB ?aS ?aL ?_; (case aP => exact rfl); (case aB => exact pB); (case aF => exact (fun _ _ => trivial)); (case aO => exact (pR HO_7)); (case aS => exact (below_size pB)); (case aL => have := LMc18.out; omega); intro v504 w19 ho hb hg hat; rw [← Ny503.out] at ho; have n0_ := Aside0.mk (Kd.R_over' (pR HO_19) (Kd.R_typed (pR HO_7)) (by decide) hg); have n1_ := Aside0.mk (hb); have n2_ := Aside0.mk (ho); clear HO_19; clear HB; clear HO_7; have HO_19 := n0_; have HB := n1_; have HO505 := n2_; clear n0_ n1_ n2_; clear ho hb hg hat))
   go_roundg k1
   case measure => have := HK1.out; omega
   case rel => exact ⟨(y503), (wrap64 (x21_1 + 1)), pF, H', ⟨by have := HK1.out; omega⟩, ⟨pR HO505⟩, ⟨pR HO_19⟩, ⟨pB⟩⟩
end Go.Proofs.Ytclldijjbmnkeaa.Q
