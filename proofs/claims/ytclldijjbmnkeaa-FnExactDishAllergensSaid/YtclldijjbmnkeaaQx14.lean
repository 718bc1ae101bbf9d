-- Written by the kit's print.py for all laws of the seat at once (one namespace), by a program of this session.
import Derived.Test.YtclldijjbmnkeaaQx0
import Derived.Test.YtclldijjbmnkeaaQx11
import Derived.Test.YtclldijjbmnkeaaQx13
namespace Go.Proofs.Ytclldijjbmnkeaa.Q
open Go.RowKit Go.Proofs.YtclldijjbmnkeaaW.PrintWords Go.Proofs.YtclldijjbmnkeaaW.PrintLast Go.Proofs.YtclldijjbmnkeaaW.PrintMore
attribute [local go_sem] max2_int min2_int max_two min_two max_three min_three max_four min_four   -- for this text's walks alone
set_option linter.unusedVariables false
set_option linter.unusedSimpArgs false

/-! ### spec_l11Foods: function 62 -/
mutual
def spec_l11Foods.l0 : Nat → List (S29) → List Int → List Bool → Int → Option (List Int)
 | 0, _, _, _, _ => none
 | k + 1, x0, x5, x6, x7 => if x7 < (x0.length : Int) then (spec_l11Foods.l1 k x0 x5 x6 x7 0) else (some x5)
def spec_l11Foods.l1 : Nat → List (S29) → List Int → List Bool → Int → Int → Option (List Int)
 | 0, _, _, _, _, _ => none
 | k + 1, x0, x5, x6, x7, x8 => if 0 ≤ x7 then (if x7 < (x0.length : Int) then (if x8 < (((rd_T29 x0 x7).f2).length : Int) then (if x7 < (x6.length : Int) then (spec_l11Foods.j2 k x0 x5 x6 x7 x8 (rdOf false x6 x7)) else (none)) else (spec_l11Foods.j2 k x0 x5 x6 x7 x8 false)) else (none)) else (none)
def spec_l11Foods.j2 : Nat → List (S29) → List Int → List Bool → Int → Int → Bool → Option (List Int)
 | 0, _, _, _, _, _, _ => none
 | k + 1, x0, x5, x6, x7, x8, x35 => if x35 = true then (if 0 ≤ x7 then (if x7 < (x0.length : Int) then (if 0 ≤ x8 then (if x8 < (((rd_T29 x0 x7).f2).length : Int) then (if ((rd_T55 ((rd_T29 x0 x7).f2) x8).f1) = 0 then (if x5.length < 17592186044416 then (spec_l11Foods.l1 k x0 (x5 ++ [(rd_T55 ((rd_T29 x0 x7).f2) x8).f0]) x6 x7 (wrap64 (x8 + 1))) else (none)) else (spec_l11Foods.l1 k x0 x5 x6 x7 (wrap64 (x8 + 1)))) else (none)) else (none)) else (none)) else (none)) else (spec_l11Foods.l0 k x0 x5 x6 (wrap64 (x7 + 1)))
end
def spec_l11Foods.f (k : Nat) (l0 : List (S29)) (a1 : Int) : Option (List Int) := if 0 ≤ (l0.length : Int) then (if ((l0.length : Int) : Int).toNat ≤ 281474976710656 then ((spec_l11Uses.f k l0 a1 (List.replicate ((l0.length : Int) : Int).toNat false)).bind fun t342 => (spec_l11Foods.l0 k l0 (([] : List Int)) t342 0)) else (none)) else (none)
theorem spec_l11Foods.mono_l : ∀ k, (∀ y0 y1 y2 y3, LeO (spec_l11Foods.l0 k y0 y1 y2 y3) (spec_l11Foods.l0 (k + 1) y0 y1 y2 y3)) ∧ (∀ y0 y1 y2 y3 y4, LeO (spec_l11Foods.l1 k y0 y1 y2 y3 y4) (spec_l11Foods.l1 (k + 1) y0 y1 y2 y3 y4)) ∧ (∀ y0 y1 y2 y3 y4 y5, LeO (spec_l11Foods.j2 k y0 y1 y2 y3 y4 y5) (spec_l11Foods.j2 (k + 1) y0 y1 y2 y3 y4 y5))
 | 0 => ⟨fun _ _ _ _ r h => by simp [spec_l11Foods.l0] at h, fun _ _ _ _ _ r h => by simp [spec_l11Foods.l1] at h, fun _ _ _ _ _ _ r h => by simp [spec_l11Foods.j2] at h⟩
 | k + 1 => by
  obtain ⟨ih0, ih1, ih2⟩ := spec_l11Foods.mono_l k
  refine ⟨?_, ?_, ?_⟩
  ·intro y0 y1 y2 y3
   unfold spec_l11Foods.l0
   repeat' first
   | (with_reducible exact ih0 _ _ _ _)
   | (with_reducible exact ih1 _ _ _ _ _)
   | (with_reducible exact ih2 _ _ _ _ _ _)
   | (with_reducible exact spec_l11Uses.mono _ _ _ _)
   | (with_reducible exact LeO.refl _)
   | (with_reducible exact LeO.none _)
   | (with_reducible refine LeO.ite ?_ ?_)
   | (with_reducible refine LeO.bind ?_ (fun _ => ?_))
   | exact ih0 _ _ _ _
   | exact ih1 _ _ _ _ _
   | exact ih2 _ _ _ _ _ _
   | exact spec_l11Uses.mono _ _ _ _
   | exact LeO.none _
   | refine LeO.ite ?_ ?_
   | refine LeO.bind ?_ (fun _ => ?_)
  ·intro y0 y1 y2 y3 y4
   unfold spec_l11Foods.l1
   repeat' first
   | (with_reducible exact ih0 _ _ _ _)
   | (with_reducible exact ih1 _ _ _ _ _)
   | (with_reducible exact ih2 _ _ _ _ _ _)
   | (with_reducible exact spec_l11Uses.mono _ _ _ _)
   | (with_reducible exact LeO.refl _)
   | (with_reducible exact LeO.none _)
   | (with_reducible refine LeO.ite ?_ ?_)
   | (with_reducible refine LeO.bind ?_ (fun _ => ?_))
   | exact ih0 _ _ _ _
   | exact ih1 _ _ _ _ _
   | exact ih2 _ _ _ _ _ _
   | exact spec_l11Uses.mono _ _ _ _
   | exact LeO.none _
   | refine LeO.ite ?_ ?_
   | refine LeO.bind ?_ (fun _ => ?_)
  ·intro y0 y1 y2 y3 y4 y5
   unfold spec_l11Foods.j2
   repeat' first
   | (with_reducible exact ih0 _ _ _ _)
   | (with_reducible exact ih1 _ _ _ _ _)
   | (with_reducible exact ih2 _ _ _ _ _ _)
   | (with_reducible exact spec_l11Uses.mono _ _ _ _)
   | (with_reducible exact LeO.refl _)
   | (with_reducible exact LeO.none _)
   | (with_reducible refine LeO.ite ?_ ?_)
   | (with_reducible refine LeO.bind ?_ (fun _ => ?_))
   | exact ih0 _ _ _ _
   | exact ih1 _ _ _ _ _
   | exact ih2 _ _ _ _ _ _
   | exact spec_l11Uses.mono _ _ _ _
   | exact LeO.none _
   | refine LeO.ite ?_ ?_
   | refine LeO.bind ?_ (fun _ => ?_)
theorem spec_l11Foods.mono : ∀ a0 a1 k, LeO (spec_l11Foods.f k a0 a1) (spec_l11Foods.f (k + 1) a0 a1) := by
 intro a0 a1 k
 obtain ⟨ih0, ih1, ih2⟩ := spec_l11Foods.mono_l k
 unfold spec_l11Foods.f
 repeat' first
   | (with_reducible exact ih0 _ _ _ _)
   | (with_reducible exact ih1 _ _ _ _ _)
   | (with_reducible exact ih2 _ _ _ _ _ _)
   | (with_reducible exact spec_l11Uses.mono _ _ _ _)
   | (with_reducible exact LeO.refl _)
   | (with_reducible exact LeO.none _)
   | (with_reducible refine LeO.ite ?_ ?_)
   | (with_reducible refine LeO.bind ?_ (fun _ => ?_))
   | exact ih0 _ _ _ _
   | exact ih1 _ _ _ _ _
   | exact ih2 _ _ _ _ _ _
   | exact spec_l11Uses.mono _ _ _ _
   | exact LeO.none _
   | refine LeO.ite ?_ ?_
   | refine LeO.bind ?_ (fun _ => ?_)
set_option maxHeartbeats 8000000 in
set_option maxRecDepth 100000 in
theorem spec_l11Foods.calls (k : Nat) (A0 : Option Addr) (c0 : Nat) (l0 : List (S29)) (a1 : Int) (r : List Int) (w : World) (hr0 : Kd.C k29 w A0 l0.length l0) (hc0 : l0.length ≤ c0) (h : spec_l11Foods.f k l0 a1 = some r) :
  Calls Try.prog 62 #[.slice A0 l0.length c0, .int .i64 a1] w fun e w' => ∃ v0_ : Value, e = .returned (v0_) ∧ Kd.R (Kd.int .i64) 3 w' w.heap.size (fun _ => True) v0_ r ∧ Below w.heap.size w w' := by
 have HR0 := Aside0.mk hr0
 have HC0 := Aside0.mk hc0
 clear hr0 hc0
 have HB := Aside0.mk (Below.refl w.heap.size w)
 have H : (if 0 ≤ (l0.length : Int) then (if ((l0.length : Int) : Int).toNat ≤ 281474976710656 then ((spec_l11Uses.f k l0 a1 (List.replicate ((l0.length : Int) : Int).toNat false)).bind fun t342 => (spec_l11Foods.l0 k l0 (([] : List Int)) t342 0)) else (none)) else (none)) = some r := h
 clear h
 obtain ⟨y336, hy336⟩ : ∃ y_ : List Int, y_ = (([] : List Int)) := ⟨_, rfl⟩
 replace H : (if 0 ≤ (l0.length : Int) then (if ((l0.length : Int) : Int).toNat ≤ 281474976710656 then ((spec_l11Uses.f k l0 a1 (List.replicate ((l0.length : Int) : Int).toNat false)).bind fun t342 => (spec_l11Foods.l0 k l0 y336 t342 0)) else (none)) else (none)) = some r := pJ hy336 H
 have Ny336 := Aside0.mk hy336
 clear hy336
 rcases (Classical.em (0 ≤ (l0.length : Int))).symm with c3 | c3
 ·rw [if_neg c3] at H
  exact absurd H (by simp)

 rw [if_pos c3] at H
 have c3b0 := eq_true c3
 have c3b1 : decide (0 ≤ (l0.length : Int)) = true := decide_eq_true c3
 clear c3
 rcases (Classical.em (((l0.length : Int) : Int).toNat ≤ 281474976710656)).symm with c4 | c4
 ·rw [if_neg c4] at H
  exact absurd H (by simp)
 rw [if_pos c4] at H
 have c4b0 := eq_true c4
 have c4b1 : decide (((l0.length : Int) : Int).toNat ≤ 281474976710656) = true := decide_eq_true c4
 clear c4
 obtain ⟨y339, hy339⟩ : ∃ y_ : List Bool, y_ = (List.replicate ((l0.length : Int) : Int).toNat false) := ⟨_, rfl⟩
 replace H : ((spec_l11Uses.f k l0 a1 y339).bind fun t342 => (spec_l11Foods.l0 k l0 y336 t342 0)) = some r := pJ hy339 H
 have Ny339 := Aside0.mk hy339
 clear hy339
 replace H := Option.bind_eq_some_iff.mp H
 obtain ⟨t342, A50, H⟩ := H
 replace H : (spec_l11Foods.l0 k l0 y336 t342 0) = some r := H
 have A5 := Aside0.mk A50
 clear A50
 have H' := Aside0.mk H
 clear H
 go_enter Try.func62, Try.ntmps62
 go_wp2_with (first | ((with_reducible refine gate_dst (N := 9) rfl ?_); refine Kd.R_lit (Kd.int .i64) _ 3 ?hg (N := 9) ?hd (xs := ([] : List Int)) (inner := []) (ok := fun _ => True) (okp := fun _ => True) ?hr ?hp (fun _ hk => hk) trivial (Below.refl _ _) (Nat.le_refl _) (by simp) ?_; (case hd => rfl); (case hg => rfl); (case hr => first | (go_simp; done) | (go_simp; rfl)); (case hp => exact (Reps.none _ _)); intro v337 w6 ho7 hb hg_ hnew_; clear hg_ hnew_; (first | rw [← Ny336.out] at ho7 | (simp only [Int.reduceToNat] at ho7; rw [← Ny336.out] at ho7)); have n0_ := Aside0.mk (Kd.R_lower ho7 (below_size pB)); have n1_ := Aside0.mk (below_step pB hb); clear HB; have HO338 := n0_; have HB := n1_; clear n0_ n1_; clear hb ho7) | ((with_reducible refine gate_dst (N := 14) rfl ?_); refine Kd.R_make Kd.bool _ 4 rfl (N := 14) rfl 85 _ _ rfl (l0.length : Int) rfl rfl Try.underlying85 (.bool false) 1 info4 rfl (by decide) (by omega) false (ok := fun _ => True) (okp := fun _ => True) rfl (fun _ hk => hk) trivial (of_decide_eq_true pA) (Nat.le_trans (Nat.mul_le_mul_right _ (of_decide_eq_true pA : (l0.length : Int).toNat ≤ 281474976710656)) (by omega)) (Below.refl _ _) (Nat.le_refl _) ?_; intro v340 w8 ho9 hb hg_ hnew_; clear hg_ hnew_; (first | rw [← Ny339.out] at ho9 | (simp only [Int.reduceToNat] at ho9; rw [← Ny339.out] at ho9)); have n0_ := Aside0.mk (Kd.R_below (pR HO338) hb); have n1_ := Aside0.mk (Kd.R_lower ho9 (below_size pB)); have n2_ := Aside0.mk (below_step pB hb); clear HO338; clear HB; have HO338 := n0_; have HO341 := n1_; have HB := n2_; clear n0_ n1_ n2_; clear hb ho9; obtain ⟨Ao10, co10, eo10⟩ := Kd.R_slice HO341.out; subst eo10) | ((with_reducible refine gate_callee (f := 69) rfl ?_); refine goesL_ (some 15) rfl rfl Try.func69 pL rfl #[.slice A0 l0.length c0, .int .i64 a1, .slice Ao10 y339.length co10] rfl pM ?_; (with_reducible refine (spec_l11Uses.calls k _ _ l0 a1 (fun k_ => some k_ = (.slice Ao10 y339.length co10 : Value).ownBlock) (.slice Ao10 y339.length co10) y339 t342 w _ ?side1 ?side2 ?side3 ?side4 A5.out).mono ?_); (case side1 => exact pB); (case side2 => exact Kd.C_kept_came k29_heap HR0.out pB (fun k_ hs_ => (fun e_ => Kd.R_base HO341.out k_ e_.symm) hs_)); (case side3 => exact HC0.out); (case side4 => exact Kd.R_tight rfl HO341.out); rintro e w11 ⟨v343, rfl, ho0, hb, hkp⟩; refine ⟨_, rfl, ?_⟩; have n0_ := Aside0.mk (Kd.R_mono (ok' := fun k_ => True) (Kd.R_keptB ((Kd.R_apart' HO338.out (Kd.R_typed HO341.out) (by decide))) hkp (fun k_ hk_ hs_ => (hk_.2) hs_)) (fun k_ hk_ => trivial)); have n1_ := Aside0.mk (Kd.R_mono (ok' := fun k_ => True) ho0 (fun k_ hk_ => trivial)); have n2_ := Aside0.mk (hb); clear HO338; clear HB; clear HO341; have HO338 := n0_; have HO344 := n1_; have HB := n2_; clear n0_ n1_ n2_; (try clear hb); (try clear hkp); (try clear ho0)))
 go_loopg [5, 7] k (fun kq v5 v7 w' => ∃ (x5_1 : List Int) (x7_1 : Int), v7 = .int .i64 x7_1 ∧ Aside0 (spec_l11Foods.l0 kq l0 x5_1 t342 x7_1 = some r) ∧ Aside0 (kq ≤ k) ∧ Aside0 (Kd.R (Kd.int .i64) 3 w' w.heap.size (fun _ => True) v5 x5_1) ∧ Aside0 (Kd.R Kd.bool 4 w' w.heap.size (fun _ => True) v343 t342) ∧ Aside0 (Below w.heap.size w w'))
 case atStart => exact ⟨(y336), (0), pF, H', ⟨Nat.le_refl _⟩, ⟨pR HO338⟩, ⟨pR HO344⟩, ⟨pB⟩⟩
 case round =>
  clear H'
  try clear p2
  try clear c3
  try clear c3b0
  try clear c3b1
  try clear c4
  try clear c4b0
  try clear c4b1
  try clear c6
  obtain ⟨x5_1, x7_1, rfl, HA, HK1, HO_5, HO_6, HB⟩ := hrel
  cases gk with
  | zero => exact absurd HA.out (by simp [spec_l11Foods.l0])
  | succ k1 =>
   have H := HA.out
   clear HA
   simp only [spec_l11Foods.l0] at H
   rcases (Classical.em (x7_1 < (l0.length : Int))).symm with c12 | c12
   ·rw [if_neg c12] at H
    have c12b0 : decide (x7_1 < (l0.length : Int)) = false := decide_eq_false c12
    clear c12
    obtain rfl := Option.some.inj H
    go_wp2
    go_ret
    exact ⟨_, pE, pR HO_5, pB⟩
   rw [if_pos c12] at H
   have c12b0 : decide (x7_1 < (l0.length : Int)) = true := decide_eq_true c12
   clear c12
   have H' := Aside0.mk H
   clear H
   go_wp2
   go_loopg [5, 8] k1 (fun kq v5 v8 w' => ∃ (x5_2 : List Int) (x8_2 : Int), v8 = .int .i64 x8_2 ∧ Aside0 (spec_l11Foods.l1 kq l0 x5_2 t342 x7_1 x8_2 = some r) ∧ Aside0 (kq ≤ k1) ∧ Aside0 (Kd.R (Kd.int .i64) 3 w' w.heap.size (fun _ => True) v5 x5_2) ∧ Aside0 (Kd.R Kd.bool 4 w' w.heap.size (fun _ => True) v343 t342) ∧ Aside0 (Below w.heap.size w w'))
   case atStart => exact ⟨(x5_1), (0), pF, H', ⟨Nat.le_refl _⟩, ⟨pR HO_5⟩, ⟨pR HO_6⟩, ⟨pB⟩⟩
   case round =>
    clear H'
    try clear c1
    try clear p2
    try clear c3
    try clear c3b0
    try clear c3b1
    try clear c4
    try clear c4b0
    try clear c4b1
    try clear c6
    try clear c12
    try clear c12b0
    try clear p2
    obtain ⟨x5_2, x8_2, rfl, HA, HK2, HO_5, HO_6, HB⟩ := hrel
    cases gk with
    | zero => exact absurd HA.out (by simp [spec_l11Foods.l1])
    | succ k2 =>
     have H := HA.out
     clear HA
     simp only [spec_l11Foods.l1] at H
     have HC13 := Aside0.mk H
     clear H
     go_upto_region 7 with (fail)
     go_cut [35] (fun v35 wc => ∃ (kq : Nat) (x35_12 : Bool), v35 = .bool x35_12 ∧ Aside0 (spec_l11Foods.j2 kq l0 x5_2 t342 x7_1 x8_2 x35_12 = some r) ∧ Aside0 (kq ≤ k2) ∧ Aside0 (Kd.R (Kd.int .i64) 3 wc w.heap.size (fun _ => True) u5 x5_2) ∧ Aside0 (Kd.R Kd.bool 4 wc w.heap.size (fun _ => True) v343 t342) ∧ Aside0 (Below w.heap.size w wc))
     case first =>
      have H := HC13.out
      clear HC13
      rcases (Classical.em (0 ≤ x7_1)).symm with c14 | c14
      ·rw [if_neg c14] at H
       exact absurd H (by simp)
      rw [if_pos c14] at H
      have c14b0 : decide (0 ≤ x7_1) = true := decide_eq_true c14
      clear c14
      (first | rw [c14b0] | (simp only [i64_w, i32_w]; rw [c14b0]) | skip)
      rcases (Classical.em (x7_1 < (l0.length : Int))).symm with c15 | c15
      ·rw [if_neg c15] at H
       exact absurd H (by simp)
      rw [if_pos c15] at H
      have c15b0 : decide (x7_1 < (l0.length : Int)) = true := decide_eq_true c15
      clear c15
      rcases (Classical.em (x8_2 < (((rd_T29 l0 x7_1).f2).length : Int))).symm with c16 | c16
      ·rw [if_neg c16] at H
       have c16b0 : decide (x8_2 < (((rd_T29 l0 x7_1).f2).length : Int)) = false := decide_eq_false c16
       clear c16
       have H' := Aside0.mk H
       clear H
       have p345 : 0 ≤ (x7_1 : Int) := of_decide_eq_true pA
       have q345 : x7_1 < (l0.length : Int) := of_decide_eq_true pA
       obtain ⟨ad345, A345_2, c345_2, e345, hx345_0, hx345_1, hx345_2, hl345_2, hi345_2⟩ := at_T29 HR0.out x7_1 p345 q345
       cases e345
       replace hx345_0 := (HB.out.cell (World.block_lt_of_cell? w _ hx345_0)).trans hx345_0
       replace hx345_1 := (HB.out.cell (World.block_lt_of_cell? w _ hx345_1)).trans hx345_1
       replace hx345_2 := (HB.out.cell (World.block_lt_of_cell? w _ hx345_2)).trans hx345_2
       have HR345_2 := Aside0.mk (hi345_2)
       have HC345_2 := Aside0.mk hl345_2
       clear hi345_2 hl345_2
       replace p345 := eq_true p345
       replace q345 := eq_true q345
       go_wp2
       go_meet
       case rel => exact ⟨_, (false), pF, H', ⟨by have := HK1.out; have := HK2.out; first | omega | exact Nat.le_refl _⟩, ⟨pR HO_5⟩, ⟨pR HO_6⟩, ⟨pB⟩⟩
      rw [if_pos c16] at H
      have c16b0 : decide (x8_2 < (((rd_T29 l0 x7_1).f2).length : Int)) = true := decide_eq_true c16
      clear c16
      rcases (Classical.em (x7_1 < (t342.length : Int))).symm with c17 | c17
      ·rw [if_neg c17] at H
       exact absurd H (by simp)
      rw [if_pos c17] at H
      have c17b0 : decide (x7_1 < (t342.length : Int)) = true := decide_eq_true c17
      clear c17
      have H' := Aside0.mk H
      clear H
      have p345 : 0 ≤ (x7_1 : Int) := of_decide_eq_true pA
      have q345 : x7_1 < (l0.length : Int) := of_decide_eq_true pA
      obtain ⟨ad345, A345_2, c345_2, e345, hx345_0, hx345_1, hx345_2, hl345_2, hi345_2⟩ := at_T29 HR0.out x7_1 p345 q345
      cases e345
      replace hx345_0 := (HB.out.cell (World.block_lt_of_cell? w _ hx345_0)).trans hx345_0
      replace hx345_1 := (HB.out.cell (World.block_lt_of_cell? w _ hx345_1)).trans hx345_1
      replace hx345_2 := (HB.out.cell (World.block_lt_of_cell? w _ hx345_2)).trans hx345_2
      have HR345_2 := Aside0.mk (hi345_2)
      have HC345_2 := Aside0.mk hl345_2
      clear hi345_2 hl345_2
      replace p345 := eq_true p345
      replace q345 := eq_true q345
      obtain ⟨Ao18, co18, eo18⟩ := Kd.R_slice HO_6.out
      subst eo18
      have p346 : 0 ≤ (x7_1 : Int) := of_decide_eq_true pA
      have q346 : x7_1 < (t342.length : Int) := of_decide_eq_true pA
      obtain ⟨ad346, e346, hx346_0⟩ := Kd.at_bool (Kd.R_reads' HO_6.out).2.2 x7_1 p346 q346
      cases e346
      replace p346 := eq_true p346
      replace q346 := eq_true q346
      go_wp2
      go_meet
      case rel => exact ⟨_, (rdOf false t342 x7_1), pF, H', ⟨by have := HK1.out; have := HK2.out; first | omega | exact Nat.le_refl _⟩, ⟨pR HO_5⟩, ⟨pR HO_6⟩, ⟨pB⟩⟩
     case rest =>
      clear HC13
      try clear c1
      try clear p2
      try clear c3
      try clear c3b0
      try clear c3b1
      try clear p3
      try clear q3
      try clear hx3
      try clear c4
      try clear c4b0
      try clear c4b1
      try clear c6
      try clear c12
      try clear c12b0
      try clear c14
      try clear c14b0
      try clear c15
      try clear c15b0
      try clear c16
      try clear c16b0
      try clear c17
      try clear c17b0
      try clear hx345_0
      try clear hx345_1
      try clear hx345_2
      try clear hx346_0
      try clear p2
      try clear p345
      try clear p346
      try clear q345
      try clear q346
      obtain ⟨kq, x35_12, rfl, HA, HJ12, HO_5, HO_6, HB⟩ := hcut
      cases kq with
      | zero => exact absurd HA.out (by simp [spec_l11Foods.j2])
      | succ kj12 =>
       have H := HA.out
       clear HA
       simp only [spec_l11Foods.j2] at H
       rcases (Classical.em (x35_12 = true)).symm with c19 | c19
       ·replace c19 := Bool.eq_false_iff.mpr c19
        subst c19
        have H1 : (spec_l11Foods.l0 kj12 l0 x5_2 t342 (wrap64 (x7_1 + 1))) = some r := by rw [if_neg (show ¬ (false = true) by decide)] at H; exact H
        clear H
        have H := H1
        clear H1
        have H' := Aside0.mk H
        clear H
        go_wp2
        go_roundg kj12
        case measure => have := HK1.out; have := HK2.out; have := HJ12.out; omega
        case rel => exact ⟨(x5_2), (wrap64 (x7_1 + 1)), pF, H', ⟨by have := HK1.out; have := HK2.out; have := HJ12.out; omega⟩, ⟨pR HO_5⟩, ⟨pR HO_6⟩, ⟨pB⟩⟩
       subst c19
       have H1 : (if 0 ≤ x7_1 then (if x7_1 < (l0.length : Int) then (if 0 ≤ x8_2 then (if x8_2 < (((rd_T29 l0 x7_1).f2).length : Int) then (if ((rd_T55 ((rd_T29 l0 x7_1).f2) x8_2).f1) = 0 then (if x5_2.length < 17592186044416 then (spec_l11Foods.l1 kj12 l0 (x5_2 ++ [(rd_T55 ((rd_T29 l0 x7_1).f2) x8_2).f0]) t342 x7_1 (wrap64 (x8_2 + 1))) else (none)) else (spec_l11Foods.l1 kj12 l0 x5_2 t342 x7_1 (wrap64 (x8_2 + 1)))) else (none)) else (none)) else (none)) else (none)) = some r := by rw [if_pos rfl] at H; exact H
       clear H
       have H := H1
       clear H1
       rcases (Classical.em (0 ≤ x7_1)).symm with c20 | c20
       ·rw [if_neg c20] at H
        exact absurd H (by simp)
       rw [if_pos c20] at H
       have c20b0 : decide (0 ≤ x7_1) = true := decide_eq_true c20
       clear c20
       rcases (Classical.em (x7_1 < (l0.length : Int))).symm with c21 | c21
       ·rw [if_neg c21] at H
        exact absurd H (by simp)
       rw [if_pos c21] at H
       have c21b0 : decide (x7_1 < (l0.length : Int)) = true := decide_eq_true c21
       clear c21
       rcases (Classical.em (0 ≤ x8_2)).symm with c22 | c22
       ·rw [if_neg c22] at H
        exact absurd H (by simp)
       rw [if_pos c22] at H
       have c22b0 : decide (0 ≤ x8_2) = true := decide_eq_true c22
       clear c22
       rcases (Classical.em (x8_2 < (((rd_T29 l0 x7_1).f2).length : Int))).symm with c23 | c23
       ·rw [if_neg c23] at H
        exact absurd H (by simp)
       rw [if_pos c23] at H
       have c23b0 : decide (x8_2 < (((rd_T29 l0 x7_1).f2).length : Int)) = true := decide_eq_true c23
       clear c23
       rcases (Classical.em (((rd_T55 ((rd_T29 l0 x7_1).f2) x8_2).f1) = 0)).symm with c24 | c24
       ·rw [if_neg c24] at H
        have c24b0 : (((rd_T55 ((rd_T29 l0 x7_1).f2) x8_2).f1) == 0) = false := beq_eq_false_iff_ne.mpr c24
        have c24b1 : (((rd_T55 ((rd_T29 l0 x7_1).f2) x8_2).f1) != 0) = true := bne_iff_ne.mpr c24
        have H' := Aside0.mk H
        clear H
        have p347 : 0 ≤ (x7_1 : Int) := of_decide_eq_true pA
        have q347 : x7_1 < (l0.length : Int) := of_decide_eq_true pA
        obtain ⟨ad347, A347_2, c347_2, e347, hx347_0, hx347_1, hx347_2, hl347_2, hi347_2⟩ := at_T29 HR0.out x7_1 p347 q347
        cases e347
        replace hx347_0 := (HB.out.cell (World.block_lt_of_cell? w _ hx347_0)).trans hx347_0
        replace hx347_1 := (HB.out.cell (World.block_lt_of_cell? w _ hx347_1)).trans hx347_1
        replace hx347_2 := (HB.out.cell (World.block_lt_of_cell? w _ hx347_2)).trans hx347_2
        have HR347_2 := Aside0.mk (hi347_2)
        have HC347_2 := Aside0.mk hl347_2
        clear hi347_2 hl347_2
        replace p347 := eq_true p347
        replace q347 := eq_true q347
        have p348 : 0 ≤ (x8_2 : Int) := of_decide_eq_true pA
        have q348 : x8_2 < (((rd_T29 l0 x7_1).f2).length : Int) := of_decide_eq_true pA
        obtain ⟨ad348, e348, hx348_0, hx348_1, hx348_2⟩ := at_T55 HR347_2.out x8_2 p348 q348
        cases e348
        replace hx348_0 := (HB.out.cell (World.block_lt_of_cell? w _ hx348_0)).trans hx348_0
        replace hx348_1 := (HB.out.cell (World.block_lt_of_cell? w _ hx348_1)).trans hx348_1
        replace hx348_2 := (HB.out.cell (World.block_lt_of_cell? w _ hx348_2)).trans hx348_2
        replace p348 := eq_true p348
        replace q348 := eq_true q348
        go_wp2
        go_roundg kj12
        case measure => have := HK1.out; have := HK2.out; have := HJ12.out; omega
        case rel => exact ⟨(x5_2), (wrap64 (x8_2 + 1)), pF, H', ⟨by have := HK1.out; have := HK2.out; have := HJ12.out; omega⟩, ⟨pR HO_5⟩, ⟨pR HO_6⟩, ⟨pB⟩⟩
       rw [if_pos c24] at H
       have c24b0 : (((rd_T55 ((rd_T29 l0 x7_1).f2) x8_2).f1) == 0) = true := beq_iff_eq.mpr c24
       have c24b1 : (((rd_T55 ((rd_T29 l0 x7_1).f2) x8_2).f1) != 0) = false := bne_eq_false_iff_eq.mpr c24
       clear c24
       rcases (Classical.em (x5_2.length < 17592186044416)).symm with c25 | c25
       ·rw [if_neg c25] at H
        exact absurd H (by simp)
       rw [if_pos c25] at H
       have LMc25 := Aside0.mk c25
       clear c25
       obtain ⟨y351, hy351⟩ : ∃ y_ : List Int, y_ = (x5_2 ++ [(rd_T55 ((rd_T29 l0 x7_1).f2) x8_2).f0]) := ⟨_, rfl⟩
       replace H : (spec_l11Foods.l1 kj12 l0 y351 t342 x7_1 (wrap64 (x8_2 + 1))) = some r := pJ hy351 H
       have Ny351 := Aside0.mk hy351
       clear hy351
       have H' := Aside0.mk H
       clear H
       have p347 : 0 ≤ (x7_1 : Int) := of_decide_eq_true pA
       have q347 : x7_1 < (l0.length : Int) := of_decide_eq_true pA
       obtain ⟨ad347, A347_2, c347_2, e347, hx347_0, hx347_1, hx347_2, hl347_2, hi347_2⟩ := at_T29 HR0.out x7_1 p347 q347
       cases e347
       replace hx347_0 := (HB.out.cell (World.block_lt_of_cell? w _ hx347_0)).trans hx347_0
       replace hx347_1 := (HB.out.cell (World.block_lt_of_cell? w _ hx347_1)).trans hx347_1
       replace hx347_2 := (HB.out.cell (World.block_lt_of_cell? w _ hx347_2)).trans hx347_2
       have HR347_2 := Aside0.mk (hi347_2)
       have HC347_2 := Aside0.mk hl347_2
       clear hi347_2 hl347_2
       replace p347 := eq_true p347
       replace q347 := eq_true q347
       have p348 : 0 ≤ (x8_2 : Int) := of_decide_eq_true pA
       have q348 : x8_2 < (((rd_T29 l0 x7_1).f2).length : Int) := of_decide_eq_true pA
       obtain ⟨ad348, e348, hx348_0, hx348_1, hx348_2⟩ := at_T55 HR347_2.out x8_2 p348 q348
       cases e348
       replace hx348_0 := (HB.out.cell (World.block_lt_of_cell? w _ hx348_0)).trans hx348_0
       replace hx348_1 := (HB.out.cell (World.block_lt_of_cell? w _ hx348_1)).trans hx348_1
       replace hx348_2 := (HB.out.cell (World.block_lt_of_cell? w _ hx348_2)).trans hx348_2
       replace p348 := eq_true p348
       replace q348 := eq_true q348
       have p349 : 0 ≤ (x7_1 : Int) := of_decide_eq_true pA
       have q349 : x7_1 < (l0.length : Int) := of_decide_eq_true pA
       obtain ⟨ad349, A349_2, c349_2, e349, hx349_0, hx349_1, hx349_2, hl349_2, hi349_2⟩ := at_T29 HR0.out x7_1 p349 q349
       obtain rfl : ad347 = ad349 := (by injection e349)
       replace hx349_0 := (HB.out.cell (World.block_lt_of_cell? w _ hx349_0)).trans hx349_0
       replace hx349_1 := (HB.out.cell (World.block_lt_of_cell? w _ hx349_1)).trans hx349_1
       replace hx349_2 := (HB.out.cell (World.block_lt_of_cell? w _ hx349_2)).trans hx349_2
       have HR349_2 := Aside0.mk (hi349_2)
       have HC349_2 := Aside0.mk hl349_2
       clear hi349_2 hl349_2
       replace p349 := eq_true p349
       replace q349 := eq_true q349
       have ea_ := Option.some.inj (hx347_2.symm.trans hx349_2)
       injection ea_ with ea_ en_ ec_
       subst ea_
       subst ec_
       clear en_
       have p350 : 0 ≤ (x8_2 : Int) := of_decide_eq_true pA
       have q350 : x8_2 < (((rd_T29 l0 x7_1).f2).length : Int) := of_decide_eq_true pA
       obtain ⟨ad350, e350, hx350_0, hx350_1, hx350_2⟩ := at_T55 HR349_2.out x8_2 p350 q350
       cases e350
       replace hx350_0 := (HB.out.cell (World.block_lt_of_cell? w _ hx350_0)).trans hx350_0
       replace hx350_1 := (HB.out.cell (World.block_lt_of_cell? w _ hx350_1)).trans hx350_1
       replace hx350_2 := (HB.out.cell (World.block_lt_of_cell? w _ hx350_2)).trans hx350_2
       replace p350 := eq_true p350
       replace q350 := eq_true q350
       go_wp2_with (first | ((with_reducible refine gate_builtin (b := .append) (xs := #[.tmp 48, .tmp 58]) rfl ?_); at_builtin; refine Kd.R_append (Kd.int .i64) (w0 := w) w.heap.size rfl (.tmp 48) (.tmp 58) 43 3 (.int .i64 0) 8 rfl Try.underlying43 info3 rfl (by decide) (by omega) u5 x5_2 ((rd_T55 ((rd_T29 l0 x7_1).f2) x8_2).f0) [.int .i64 ((rd_T55 ((rd_T29 l0 x7_1).f2) x8_2).f0)] (fun _ => True) (fun _ => False) rfl rfl ?aP (fun _ hk => hk.elim) ?aF ?aO ?aB ?aS ?aL ?_; (case aP => exact rfl); (case aB => exact pB); (case aF => exact (fun _ _ => trivial)); (case aO => exact (pR HO_5)); (case aS => exact (below_size pB)); (case aL => have := LMc25.out; omega); intro v352 w26 ho hb hg hat; rw [← Ny351.out] at ho; have n0_ := Aside0.mk (Kd.R_over' (pR HO_6) (Kd.R_typed (pR HO_5)) (by decide) hg); have n1_ := Aside0.mk (hb); have n2_ := Aside0.mk (ho); clear HO_6; clear HB; clear HO_5; have HO_6 := n0_; have HB := n1_; have HO353 := n2_; clear n0_ n1_ n2_; clear ho hb hg hat))
       go_roundg kj12
       case measure => have := HK1.out; have := HK2.out; have := HJ12.out; omega
       case rel => exact ⟨(y351), (wrap64 (x8_2 + 1)), pF, H', ⟨by have := HK1.out; have := HK2.out; have := HJ12.out; omega⟩, ⟨pR HO353⟩, ⟨pR HO_6⟩, ⟨pB⟩⟩
/-! ### impl_foodsIn: function 67 -/
mutual
def impl_foodsIn.l0 : Nat → List (S29) → List (S63) → List (S63) → List Bool → Int → Int → Option ((List (S63)))
 | 0, _, _, _, _, _, _ => none
 | k + 1, x0, x1, x7, x15, x16, x17 => if x17 < x16 then (if 0 ≤ x17 then (if x17 < (x15.length : Int) then (if x17 < (x0.length : Int) then (impl_foodsIn.l1 k x0 x1 x7 (rdOf false x15 x17) x15 x16 x17 ((rd_T29 x0 x17).f2) (((rd_T29 x0 x17).f2).length : Int) 0) else (none)) else (none)) else (none)) else (some x7)
def impl_foodsIn.l1 : Nat → List (S29) → List (S63) → List (S63) → Bool → List Bool → Int → Int → List (S55) → Int → Int → Option ((List (S63)))
 | 0, _, _, _, _, _, _, _, _, _, _ => none
 | k + 1, x0, x1, x7, x9, x15, x16, x17, x26, x27, x28 => if x28 < x27 then (if 0 ≤ x28 then (if x28 < (x26.length : Int) then (if x9 = true then (if ((rd_T55 x26 x28).f0) > 0 then ((impl_foodPlace.f x1 ((rd_T55 x26 x28).f0)).bind fun t437 => (if 0 ≤ t437 then (if t437 < (x1.length : Int) then (if x7.length < 2932031007402 then (impl_foodsIn.l1 k x0 x1 (x7 ++ [(⟨(rd_T63 x1 t437).f0, (rd_T63 x1 t437).f1, (rd_T63 x1 t437).f2, (rd_T63 x1 t437).f3, (rd_T63 x1 t437).f4, (rd_T63 x1 t437).f5⟩ : S63)]) x9 x15 x16 x17 x26 x27 (wrap64 (x28 + 1))) else (none)) else (none)) else (none))) else (impl_foodsIn.l1 k x0 x1 x7 x9 x15 x16 x17 x26 x27 (wrap64 (x28 + 1)))) else (impl_foodsIn.l1 k x0 x1 x7 x9 x15 x16 x17 x26 x27 (wrap64 (x28 + 1)))) else (none)) else (none)) else (impl_foodsIn.l0 k x0 x1 x7 x15 x16 (wrap64 (x17 + 1)))
end
def impl_foodsIn.f (k : Nat) (l0 : List (S29)) (l1 : List (S63)) (a2 : Int) : Option ((List (S63))) := (impl_inDish.f k l0 a2).bind fun t430 => (impl_foodsIn.l0 k l0 l1 (([] : List (S63))) t430 (t430.length : Int) 0)
theorem impl_foodsIn.mono_l : ∀ k, (∀ y0 y1 y2 y3 y4 y5, LeO (impl_foodsIn.l0 k y0 y1 y2 y3 y4 y5) (impl_foodsIn.l0 (k + 1) y0 y1 y2 y3 y4 y5)) ∧ (∀ y0 y1 y2 y3 y4 y5 y6 y7 y8 y9, LeO (impl_foodsIn.l1 k y0 y1 y2 y3 y4 y5 y6 y7 y8 y9) (impl_foodsIn.l1 (k + 1) y0 y1 y2 y3 y4 y5 y6 y7 y8 y9))
 | 0 => ⟨fun _ _ _ _ _ _ r h => by simp [impl_foodsIn.l0] at h, fun _ _ _ _ _ _ _ _ _ _ r h => by simp [impl_foodsIn.l1] at h⟩
 | k + 1 => by
  obtain ⟨ih0, ih1⟩ := impl_foodsIn.mono_l k
  refine ⟨?_, ?_⟩
  ·intro y0 y1 y2 y3 y4 y5
   unfold impl_foodsIn.l0
   repeat' first
   | (with_reducible exact ih0 _ _ _ _ _ _)
   | (with_reducible exact ih1 _ _ _ _ _ _ _ _ _ _)
   | (with_reducible exact impl_inDish.mono _ _ _)
   | (with_reducible exact LeO.refl _)
   | (with_reducible exact LeO.none _)
   | (with_reducible refine LeO.ite ?_ ?_)
   | (with_reducible refine LeO.bind ?_ (fun _ => ?_))
   | exact ih0 _ _ _ _ _ _
   | exact ih1 _ _ _ _ _ _ _ _ _ _
   | exact impl_inDish.mono _ _ _
   | exact LeO.none _
   | refine LeO.ite ?_ ?_
   | refine LeO.bind ?_ (fun _ => ?_)
  ·intro y0 y1 y2 y3 y4 y5 y6 y7 y8 y9
   unfold impl_foodsIn.l1
   repeat' first
   | (with_reducible exact ih0 _ _ _ _ _ _)
   | (with_reducible exact ih1 _ _ _ _ _ _ _ _ _ _)
   | (with_reducible exact impl_inDish.mono _ _ _)
   | (with_reducible exact LeO.refl _)
   | (with_reducible exact LeO.none _)
   | (with_reducible refine LeO.ite ?_ ?_)
   | (with_reducible refine LeO.bind ?_ (fun _ => ?_))
   | exact ih0 _ _ _ _ _ _
   | exact ih1 _ _ _ _ _ _ _ _ _ _
   | exact impl_inDish.mono _ _ _
   | exact LeO.none _
   | refine LeO.ite ?_ ?_
   | refine LeO.bind ?_ (fun _ => ?_)
theorem impl_foodsIn.mono : ∀ a0 a1 a2 k, LeO (impl_foodsIn.f k a0 a1 a2) (impl_foodsIn.f (k + 1) a0 a1 a2) := by
 intro a0 a1 a2 k
 obtain ⟨ih0, ih1⟩ := impl_foodsIn.mono_l k
 unfold impl_foodsIn.f
 repeat' first
   | (with_reducible exact ih0 _ _ _ _ _ _)
   | (with_reducible exact ih1 _ _ _ _ _ _ _ _ _ _)
   | (with_reducible exact impl_inDish.mono _ _ _)
   | (with_reducible exact LeO.refl _)
   | (with_reducible exact LeO.none _)
   | (with_reducible refine LeO.ite ?_ ?_)
   | (with_reducible refine LeO.bind ?_ (fun _ => ?_))
   | exact ih0 _ _ _ _ _ _
   | exact ih1 _ _ _ _ _ _ _ _ _ _
   | exact impl_inDish.mono _ _ _
   | exact LeO.none _
   | refine LeO.ite ?_ ?_
   | refine LeO.bind ?_ (fun _ => ?_)
set_option maxHeartbeats 8000000 in
set_option maxRecDepth 100000 in
theorem impl_foodsIn.calls (k : Nat) (A0 : Option Addr) (c0 : Nat) (l0 : List (S29)) (A1 : Option Addr) (c1 : Nat) (l1 : List (S63)) (a2 : Int) (r : List (S63)) (w : World) (hr0 : Kd.C k29 w A0 l0.length l0) (hc0 : l0.length ≤ c0) (hr1 : Kd.C k63 w A1 l1.length l1) (hc1 : l1.length ≤ c1) (h : impl_foodsIn.f k l0 l1 a2 = some r) :
  Calls Try.prog 67 #[.slice A0 l0.length c0, .slice A1 l1.length c1, .int .i64 a2] w fun e w' => ∃ v0_ : Value, e = .returned (v0_) ∧ Kd.R k63 63 w' w.heap.size (fun _ => True) v0_ r ∧ Below w.heap.size w w' := by
 have hu55 := Try.underlying55
 have hu63 := Try.underlying63
 have HR0 := Aside0.mk hr0
 have HC0 := Aside0.mk hc0
 clear hr0 hc0
 have HR1 := Aside0.mk hr1
 have HC1 := Aside0.mk hc1
 clear hr1 hc1
 have HB := Aside0.mk (Below.refl w.heap.size w)
 have H : ((impl_inDish.f k l0 a2).bind fun t430 => (impl_foodsIn.l0 k l0 l1 (([] : List (S63))) t430 (t430.length : Int) 0)) = some r := h
 clear h
 obtain ⟨y427, hy427⟩ : ∃ y_ : List (S63), y_ = (([] : List (S63))) := ⟨_, rfl⟩
 replace H : ((impl_inDish.f k l0 a2).bind fun t430 => (impl_foodsIn.l0 k l0 l1 y427 t430 (t430.length : Int) 0)) = some r := pJ hy427 H
 have Ny427 := Aside0.mk hy427
 clear hy427
 replace H := Option.bind_eq_some_iff.mp H
 obtain ⟨t430, A40, H⟩ := H
 replace H : (impl_foodsIn.l0 k l0 l1 y427 t430 (t430.length : Int) 0) = some r := H
 have A4 := Aside0.mk A40
 clear A40
 have H' := Aside0.mk H
 clear H
 go_enter Try.func67, Try.ntmps67
 go_wp2_with (first | ((with_reducible refine gate_dst (N := 12) rfl ?_); refine Kd.R_lit k63 _ 63 ?hg (N := 12) ?hd (xs := ([] : List (S63))) (inner := []) (ok := fun _ => True) (okp := fun _ => True) ?hr ?hp (fun _ hk => hk) trivial (Below.refl _ _) (Nat.le_refl _) (by simp) ?_; (case hd => rfl); (case hg => rfl); (case hr => first | (go_simp; done) | (go_simp; rfl)); (case hp => exact (Reps.none _ _)); intro v428 w5 ho6 hb hg_ hnew_; clear hg_ hnew_; (first | rw [← Ny427.out] at ho6 | (simp only [Int.reduceToNat] at ho6; rw [← Ny427.out] at ho6)); have n0_ := Aside0.mk (Kd.R_lower ho6 (below_size pB)); have n1_ := Aside0.mk (below_step pB hb); clear HB; have HO429 := n0_; have HB := n1_; clear n0_ n1_; clear hb ho6) | ((with_reducible refine gate_callee (f := 70) rfl ?_); refine goesL_ (some 15) rfl rfl Try.func70 pL rfl #[.slice A0 l0.length c0, .int .i64 a2] rfl pM ?_; (with_reducible refine (impl_inDish.calls k _ _ l0 a2 t430 _ ?side1 ?side2 A4.out).mono ?_); (case side1 => exact pS ((Kd.C_below HR0.out HB.out))); (case side2 => exact HC0.out); rintro e w7 ⟨v431, rfl, ho0, hb⟩; refine ⟨_, rfl, ?_⟩; have n0_ := Aside0.mk (Kd.R_below (pR HO429) hb); have n1_ := Aside0.mk (Kd.R_lower ho0 (below_size pB)); have n2_ := Aside0.mk (below_step pB hb); clear HO429; clear HB; have HO429 := n0_; have HO432 := n1_; have HB := n2_; clear n0_ n1_ n2_; (try clear hb); (try clear hb2); (try clear hk); (try clear hi); (try clear ho0); obtain ⟨Ao8, co8, eo8⟩ := Kd.R_slice HO432.out; subst eo8))
 go_loopg [7, 17] k (fun kq v7 v17 w' => ∃ (x7_1 : List (S63)) (x17_1 : Int), v17 = .int .i64 x17_1 ∧ Aside0 (impl_foodsIn.l0 kq l0 l1 x7_1 t430 (t430.length : Int) x17_1 = some r) ∧ Aside0 (kq ≤ k) ∧ Aside0 (Kd.R k63 63 w' w.heap.size (fun _ => True) v7 x7_1) ∧ Aside0 (Kd.R Kd.bool 4 w' w.heap.size (fun _ => True) (.slice Ao8 t430.length co8) t430) ∧ Aside0 (Below w.heap.size w w'))
 case atStart => exact ⟨(y427), (0), pF, H', ⟨Nat.le_refl _⟩, ⟨pR HO429⟩, ⟨pR HO432⟩, ⟨pB⟩⟩
 case round =>
  clear H'
  try clear c1
  try clear p2
  try clear c6
  try clear c7
  obtain ⟨x7_1, x17_1, rfl, HA, HK1, HO_7, HO_15, HB⟩ := hrel
  cases gk with
  | zero => exact absurd HA.out (by simp [impl_foodsIn.l0])
  | succ k1 =>
   have H := HA.out
   clear HA
   simp only [impl_foodsIn.l0] at H
   rcases (Classical.em (x17_1 < (t430.length : Int))).symm with c9 | c9
   ·rw [if_neg c9] at H
    have c9b0 : decide (x17_1 < (t430.length : Int)) = false := decide_eq_false c9
    clear c9
    obtain rfl := Option.some.inj H
    go_wp2
    go_ret
    exact ⟨_, pE, pR HO_7, pB⟩

   rw [if_pos c9] at H
   have c9b0 : decide (x17_1 < (t430.length : Int)) = true := decide_eq_true c9
   clear c9
   rcases (Classical.em (0 ≤ x17_1)).symm with c10 | c10
   ·rw [if_neg c10] at H
    exact absurd H (by simp)
   rw [if_pos c10] at H
   have c10b0 : decide (0 ≤ x17_1) = true := decide_eq_true c10
   clear c10
   rcases (Classical.em (x17_1 < (t430.length : Int))).symm with c11 | c11
   ·rw [if_neg c11] at H
    exact absurd H (by simp)
   rw [if_pos c11] at H
   have c11b0 : decide (x17_1 < (t430.length : Int)) = true := decide_eq_true c11
   clear c11
   rcases (Classical.em (x17_1 < (l0.length : Int))).symm with c12 | c12
   ·rw [if_neg c12] at H
    exact absurd H (by simp)
   rw [if_pos c12] at H
   have c12b0 : decide (x17_1 < (l0.length : Int)) = true := decide_eq_true c12
   clear c12
   have H' := Aside0.mk H
   clear H
   have p433 : 0 ≤ (x17_1 : Int) := of_decide_eq_true pA
   have q433 : x17_1 < (t430.length : Int) := of_decide_eq_true pA
   obtain ⟨ad433, e433, hx433_0⟩ := Kd.at_bool (Kd.R_reads' HO_15.out).2.2 x17_1 p433 q433
   cases e433
   replace p433 := eq_true p433
   replace q433 := eq_true q433
   have p434 : 0 ≤ (x17_1 : Int) := of_decide_eq_true pA
   have q434 : x17_1 < (l0.length : Int) := of_decide_eq_true pA
   obtain ⟨ad434, A434_2, c434_2, e434, hx434_0, hx434_1, hx434_2, hl434_2, hi434_2⟩ := at_T29 HR0.out x17_1 p434 q434
   cases e434
   replace hx434_0 := (HB.out.cell (World.block_lt_of_cell? w _ hx434_0)).trans hx434_0
   replace hx434_1 := (HB.out.cell (World.block_lt_of_cell? w _ hx434_1)).trans hx434_1
   replace hx434_2 := (HB.out.cell (World.block_lt_of_cell? w _ hx434_2)).trans hx434_2
   have HR434_2 := Aside0.mk (hi434_2)
   have HC434_2 := Aside0.mk hl434_2
   clear hi434_2 hl434_2
   replace p434 := eq_true p434
   replace q434 := eq_true q434
   go_wp2
   obtain ⟨bw, hbw⟩ : ∃ b_ : Bool, b_ = rdOf false t430 x17_1 := ⟨_, rfl⟩
   rw [← hbw] at H' ⊢
   clear hbw
   go_loopg [7, 28] k1 (fun kq v7 v28 w' => ∃ (x7_2 : List (S63)) (x28_2 : Int), v28 = .int .i64 x28_2 ∧ Aside0 (impl_foodsIn.l1 kq l0 l1 x7_2 bw t430 (t430.length : Int) x17_1 ((rd_T29 l0 x17_1).f2) (((rd_T29 l0 x17_1).f2).length : Int) x28_2 = some r) ∧ Aside0 (kq ≤ k1) ∧ Aside0 (Kd.R k63 63 w' w.heap.size (fun _ => True) v7 x7_2) ∧ Aside0 (Kd.R Kd.bool 4 w' w.heap.size (fun _ => True) (.slice (some ad433) t430.length co8) t430) ∧ Aside0 (Below w.heap.size w w'))
   case atStart => exact ⟨(x7_1), (0), pF, H', ⟨Nat.le_refl _⟩, ⟨pR HO_7⟩, ⟨pR HO_15⟩, ⟨pB⟩⟩
   case round =>
    clear H'
    try clear c1
    try clear p2
    try clear c4
    try clear p4
    try clear q4
    try clear hx4
    try clear c6
    try clear c7
    try clear c9
    try clear c9b0
    try clear c10
    try clear c10b0
    try clear c11
    try clear c11b0
    try clear c12
    try clear c12b0
    try clear hx433_0
    try clear hx434_0
    try clear hx434_1
    try clear hx434_2
    try clear p2
    try clear p433
    try clear p434
    try clear q433
    try clear q434
    obtain ⟨x7_2, x28_2, rfl, HA, HK2, HO_7, HO_15, HB⟩ := hrel
    cases gk with
    | zero => exact absurd HA.out (by simp [impl_foodsIn.l1])
    | succ k2 =>
     have H := HA.out
     clear HA
     simp only [impl_foodsIn.l1] at H
     rcases (Classical.em (x28_2 < (((rd_T29 l0 x17_1).f2).length : Int))).symm with c13 | c13
     ·rw [if_neg c13] at H
      have c13b0 : decide (x28_2 < (((rd_T29 l0 x17_1).f2).length : Int)) = false := decide_eq_false c13
      clear c13
      have H' := Aside0.mk H
      clear H
      go_wp2
      go_roundg k2
      case measure => have := HK1.out; have := HK2.out; omega
      case rel => exact ⟨(x7_2), (wrap64 (x17_1 + 1)), pF, H', ⟨by have := HK1.out; have := HK2.out; omega⟩, ⟨pR HO_7⟩, ⟨pR HO_15⟩, ⟨pB⟩⟩
     rw [if_pos c13] at H
     have c13b0 : decide (x28_2 < (((rd_T29 l0 x17_1).f2).length : Int)) = true := decide_eq_true c13
     clear c13
     rcases (Classical.em (0 ≤ x28_2)).symm with c14 | c14
     ·rw [if_neg c14] at H
      exact absurd H (by simp)
     rw [if_pos c14] at H
     have c14b0 : decide (0 ≤ x28_2) = true := decide_eq_true c14
     clear c14
     rcases (Classical.em (x28_2 < (((rd_T29 l0 x17_1).f2).length : Int))).symm with c15 | c15
     ·rw [if_neg c15] at H
      exact absurd H (by simp)
     rw [if_pos c15] at H
     have c15b0 : decide (x28_2 < (((rd_T29 l0 x17_1).f2).length : Int)) = true := decide_eq_true c15
     clear c15
     rcases (Classical.em (bw = true)).symm with c17 | c17
     ·rw [if_neg c17] at H
      have c17b0 : bw = false := by simpa using c17
      clear c17
      subst c17b0
      have H' := Aside0.mk H
      clear H
      have p435 : 0 ≤ (x28_2 : Int) := of_decide_eq_true pA
      have q435 : x28_2 < (((rd_T29 l0 x17_1).f2).length : Int) := of_decide_eq_true pA
      obtain ⟨ad435, e435, hx435_0, hx435_1, hx435_2⟩ := at_T55 HR434_2.out x28_2 p435 q435
      cases e435
      replace hx435_0 := (HB.out.cell (World.block_lt_of_cell? w _ hx435_0)).trans hx435_0
      replace hx435_1 := (HB.out.cell (World.block_lt_of_cell? w _ hx435_1)).trans hx435_1
      replace hx435_2 := (HB.out.cell (World.block_lt_of_cell? w _ hx435_2)).trans hx435_2
      replace p435 := eq_true p435
      replace q435 := eq_true q435
      go_wp2_with (first | ((with_reducible refine gate_dst (N := 11) rfl ?_); refine box_event ?hg (N := 11) ?hd (cs := #[.int .i64 0, .int .i64 0, .int .i64 0]) (t := 55) ?hr ?_; (case hd => rfl); (case hg => rfl); (case hr => first | (go_simp; done) | (go_simp; rfl)); intro gb436 hg w29 hbox hb; have n0_ := Aside0.mk (Kd.R_below (pR HO_7) hb); have n1_ := Aside0.mk (Kd.R_below (pR HO_15) hb); have n2_ := Aside0.mk (below_step pB hb); have n3_ := Aside0.mk (hbox); have n4_ := Aside0.mk ((by rw [hg]; exact (below_size pB) : w.heap.size ≤ gb436)); have n5_ := Aside0.mk ((by rw [hg]; exact (below_size pB) : w.heap.size ≤ gb436)); clear HO_7; clear HO_15; clear HB; have HO_7 := n0_; have HO_15 := n1_; have HB := n2_; have BK436 := n3_; have GW436 := n4_; have GE436 := n5_; clear n0_ n1_ n2_ n3_ n4_ n5_; clear hb hbox hg; have hcz30_0 : w29.cell? ⟨gb436, 0, none⟩ = some (.int .i64 0) := (blk_cell BK436.out 0).trans rfl; have hcz30_1 : w29.cell? ⟨gb436, 1, none⟩ = some (.int .i64 0) := (blk_cell BK436.out 1).trans rfl; have hcz30_2 : w29.cell? ⟨gb436, 2, none⟩ = some (.int .i64 0) := (blk_cell BK436.out 2).trans rfl; have hfz30_0 := blk_frozen BK436.out 0; have hfz30_1 := blk_frozen BK436.out 1; have hfz30_2 := blk_frozen BK436.out 2))
      go_roundg k2
      case measure => have := HK1.out; have := HK2.out; omega
      case rel => exact ⟨(x7_2), (wrap64 (x28_2 + 1)), pF, H', ⟨by have := HK1.out; have := HK2.out; omega⟩, ⟨by (with_reducible repeat (first | apply Kd.R_alloc | apply Kd.R_drewN | apply Kd.R_drew)); exact Kd.R_mono (Kd.R_far (p := ⟨gb436, 2, none⟩) (Kd.R_far (p := ⟨gb436, 1, none⟩) (Kd.R_far (p := ⟨gb436, 0, none⟩) (Kd.R_types HO_7.out BK436.out (by decide)) (fun _ hk => hk.2) (.int .i64 ((rd_T55 ((rd_T29 l0 x17_1).f2) x28_2).f0))) (fun _ hk => hk.2) (.int .i64 ((rd_T55 ((rd_T29 l0 x17_1).f2) x28_2).f1))) (fun _ hk => hk.2) (.int .i64 ((rd_T55 ((rd_T29 l0 x17_1).f2) x28_2).f2))) (fun _ hk => trivial)⟩, ⟨by (with_reducible repeat (first | apply Kd.R_alloc | apply Kd.R_drewN | apply Kd.R_drew)); exact Kd.R_mono (Kd.R_far (p := ⟨gb436, 2, none⟩) (Kd.R_far (p := ⟨gb436, 1, none⟩) (Kd.R_far (p := ⟨gb436, 0, none⟩) (Kd.R_types HO_15.out BK436.out (by decide)) (fun _ hk => hk.2) (.int .i64 ((rd_T55 ((rd_T29 l0 x17_1).f2) x28_2).f0))) (fun _ hk => hk.2) (.int .i64 ((rd_T55 ((rd_T29 l0 x17_1).f2) x28_2).f1))) (fun _ hk => hk.2) (.int .i64 ((rd_T55 ((rd_T29 l0 x17_1).f2) x28_2).f2))) (fun _ hk => trivial)⟩, ⟨pG GE436⟩⟩
     rw [if_pos c17] at H
     subst c17
     rcases (Classical.em (((rd_T55 ((rd_T29 l0 x17_1).f2) x28_2).f0) > 0)).symm with c18 | c18
     ·rw [if_neg c18] at H
      have c18b0 : decide (0 < ((rd_T55 ((rd_T29 l0 x17_1).f2) x28_2).f0)) = false := decide_eq_false c18
      clear c18
      have H' := Aside0.mk H
      clear H
      have p435 : 0 ≤ (x28_2 : Int) := of_decide_eq_true pA
      have q435 : x28_2 < (((rd_T29 l0 x17_1).f2).length : Int) := of_decide_eq_true pA
      obtain ⟨ad435, e435, hx435_0, hx435_1, hx435_2⟩ := at_T55 HR434_2.out x28_2 p435 q435
      cases e435
      replace hx435_0 := (HB.out.cell (World.block_lt_of_cell? w _ hx435_0)).trans hx435_0
      replace hx435_1 := (HB.out.cell (World.block_lt_of_cell? w _ hx435_1)).trans hx435_1
      replace hx435_2 := (HB.out.cell (World.block_lt_of_cell? w _ hx435_2)).trans hx435_2
      replace p435 := eq_true p435
      replace q435 := eq_true q435
      go_wp2_with (first | ((with_reducible refine gate_dst (N := 11) rfl ?_); refine box_event ?hg (N := 11) ?hd (cs := #[.int .i64 0, .int .i64 0, .int .i64 0]) (t := 55) ?hr ?_; (case hd => rfl); (case hg => rfl); (case hr => first | (go_simp; done) | (go_simp; rfl)); intro gb436 hg w27 hbox hb; have n0_ := Aside0.mk (Kd.R_below (pR HO_7) hb); have n1_ := Aside0.mk (Kd.R_below (pR HO_15) hb); have n2_ := Aside0.mk (below_step pB hb); have n3_ := Aside0.mk (hbox); have n4_ := Aside0.mk ((by rw [hg]; exact (below_size pB) : w.heap.size ≤ gb436)); have n5_ := Aside0.mk ((by rw [hg]; exact (below_size pB) : w.heap.size ≤ gb436)); clear HO_7; clear HO_15; clear HB; have HO_7 := n0_; have HO_15 := n1_; have HB := n2_; have BK436 := n3_; have GW436 := n4_; have GE436 := n5_; clear n0_ n1_ n2_ n3_ n4_ n5_; clear hb hbox hg; have hcz28_0 : w27.cell? ⟨gb436, 0, none⟩ = some (.int .i64 0) := (blk_cell BK436.out 0).trans rfl; have hcz28_1 : w27.cell? ⟨gb436, 1, none⟩ = some (.int .i64 0) := (blk_cell BK436.out 1).trans rfl; have hcz28_2 : w27.cell? ⟨gb436, 2, none⟩ = some (.int .i64 0) := (blk_cell BK436.out 2).trans rfl; have hfz28_0 := blk_frozen BK436.out 0; have hfz28_1 := blk_frozen BK436.out 1; have hfz28_2 := blk_frozen BK436.out 2))
      go_roundg k2
      case measure => have := HK1.out; have := HK2.out; omega
      case rel => exact ⟨(x7_2), (wrap64 (x28_2 + 1)), pF, H', ⟨by have := HK1.out; have := HK2.out; omega⟩, ⟨by (with_reducible repeat (first | apply Kd.R_alloc | apply Kd.R_drewN | apply Kd.R_drew)); exact Kd.R_mono (Kd.R_far (p := ⟨gb436, 2, none⟩) (Kd.R_far (p := ⟨gb436, 1, none⟩) (Kd.R_far (p := ⟨gb436, 0, none⟩) (Kd.R_types HO_7.out BK436.out (by decide)) (fun _ hk => hk.2) (.int .i64 ((rd_T55 ((rd_T29 l0 x17_1).f2) x28_2).f0))) (fun _ hk => hk.2) (.int .i64 ((rd_T55 ((rd_T29 l0 x17_1).f2) x28_2).f1))) (fun _ hk => hk.2) (.int .i64 ((rd_T55 ((rd_T29 l0 x17_1).f2) x28_2).f2))) (fun _ hk => trivial)⟩, ⟨by (with_reducible repeat (first | apply Kd.R_alloc | apply Kd.R_drewN | apply Kd.R_drew)); exact Kd.R_mono (Kd.R_far (p := ⟨gb436, 2, none⟩) (Kd.R_far (p := ⟨gb436, 1, none⟩) (Kd.R_far (p := ⟨gb436, 0, none⟩) (Kd.R_types HO_15.out BK436.out (by decide)) (fun _ hk => hk.2) (.int .i64 ((rd_T55 ((rd_T29 l0 x17_1).f2) x28_2).f0))) (fun _ hk => hk.2) (.int .i64 ((rd_T55 ((rd_T29 l0 x17_1).f2) x28_2).f1))) (fun _ hk => hk.2) (.int .i64 ((rd_T55 ((rd_T29 l0 x17_1).f2) x28_2).f2))) (fun _ hk => trivial)⟩, ⟨pG GE436⟩⟩
     rw [if_pos c18] at H
     have c18b0 : decide (0 < ((rd_T55 ((rd_T29 l0 x17_1).f2) x28_2).f0)) = true := decide_eq_true c18
     clear c18
     replace H := Option.bind_eq_some_iff.mp H
     obtain ⟨t437, A190, H⟩ := H
     replace H : (if 0 ≤ t437 then (if t437 < (l1.length : Int) then (if x7_2.length < 2932031007402 then (impl_foodsIn.l1 k2 l0 l1 (x7_2 ++ [(⟨(rd_T63 l1 t437).f0, (rd_T63 l1 t437).f1, (rd_T63 l1 t437).f2, (rd_T63 l1 t437).f3, (rd_T63 l1 t437).f4, (rd_T63 l1 t437).f5⟩ : S63)]) (true) t430 (t430.length : Int) x17_1 ((rd_T29 l0 x17_1).f2) (((rd_T29 l0 x17_1).f2).length : Int) (wrap64 (x28_2 + 1))) else (none)) else (none)) else (none)) = some r := H
     have A19 := Aside0.mk A190
     clear A190
     rcases (Classical.em (0 ≤ t437)).symm with c20 | c20
     ·rw [if_neg c20] at H
      exact absurd H (by simp)
     rw [if_pos c20] at H
     have c20b0 : decide (0 ≤ t437) = true := decide_eq_true c20
     clear c20
     rcases (Classical.em (t437 < (l1.length : Int))).symm with c21 | c21
     ·rw [if_neg c21] at H
      exact absurd H (by simp)
     rw [if_pos c21] at H
     have c21b0 : decide (t437 < (l1.length : Int)) = true := decide_eq_true c21
     clear c21
     rcases (Classical.em (x7_2.length < 2932031007402)).symm with c22 | c22
     ·rw [if_neg c22] at H
      exact absurd H (by simp)
     rw [if_pos c22] at H
     have LMc22 := Aside0.mk c22
     clear c22
     obtain ⟨y439, hy439⟩ : ∃ y_ : List (S63), y_ = (x7_2 ++ [(⟨(rd_T63 l1 t437).f0, (rd_T63 l1 t437).f1, (rd_T63 l1 t437).f2, (rd_T63 l1 t437).f3, (rd_T63 l1 t437).f4, (rd_T63 l1 t437).f5⟩ : S63)]) := ⟨_, rfl⟩
     replace H : (impl_foodsIn.l1 k2 l0 l1 y439 (true) t430 (t430.length : Int) x17_1 ((rd_T29 l0 x17_1).f2) (((rd_T29 l0 x17_1).f2).length : Int) (wrap64 (x28_2 + 1))) = some r := pJ hy439 H
     have Ny439 := Aside0.mk hy439
     clear hy439
     have H' := Aside0.mk H
     clear H
     have p435 : 0 ≤ (x28_2 : Int) := of_decide_eq_true pA
     have q435 : x28_2 < (((rd_T29 l0 x17_1).f2).length : Int) := of_decide_eq_true pA
     obtain ⟨ad435, e435, hx435_0, hx435_1, hx435_2⟩ := at_T55 HR434_2.out x28_2 p435 q435
     cases e435
     replace hx435_0 := (HB.out.cell (World.block_lt_of_cell? w _ hx435_0)).trans hx435_0
     replace hx435_1 := (HB.out.cell (World.block_lt_of_cell? w _ hx435_1)).trans hx435_1
     replace hx435_2 := (HB.out.cell (World.block_lt_of_cell? w _ hx435_2)).trans hx435_2
     replace p435 := eq_true p435
     replace q435 := eq_true q435
     go_wp2_with (first | ((with_reducible refine gate_dst (N := 11) rfl ?_); refine box_event ?hg (N := 11) ?hd (cs := #[.int .i64 0, .int .i64 0, .int .i64 0]) (t := 55) ?hr ?_; (case hd => rfl); (case hg => rfl); (case hr => first | (go_simp; done) | (go_simp; rfl)); intro gb436 hg w23 hbox hb; have n0_ := Aside0.mk (Kd.R_below (pR HO_7) hb); have n1_ := Aside0.mk (Kd.R_below (pR HO_15) hb); have n2_ := Aside0.mk (below_step pB hb); have n3_ := Aside0.mk (hbox); have n4_ := Aside0.mk ((by rw [hg]; exact (below_size pB) : w.heap.size ≤ gb436)); have n5_ := Aside0.mk ((by rw [hg]; exact (below_size pB) : w.heap.size ≤ gb436)); clear HO_7; clear HO_15; clear HB; have HO_7 := n0_; have HO_15 := n1_; have HB := n2_; have BK436 := n3_; have GW436 := n4_; have GE436 := n5_; clear n0_ n1_ n2_ n3_ n4_ n5_; clear hb hbox hg; have hcz24_0 : w23.cell? ⟨gb436, 0, none⟩ = some (.int .i64 0) := (blk_cell BK436.out 0).trans rfl; have hcz24_1 : w23.cell? ⟨gb436, 1, none⟩ = some (.int .i64 0) := (blk_cell BK436.out 1).trans rfl; have hcz24_2 : w23.cell? ⟨gb436, 2, none⟩ = some (.int .i64 0) := (blk_cell BK436.out 2).trans rfl; have hfz24_0 := blk_frozen BK436.out 0; have hfz24_1 := blk_frozen BK436.out 1; have hfz24_2 := blk_frozen BK436.out 2) | ((with_reducible refine gate_callee (f := 81) rfl ?_); refine goesL_ (some 43) rfl rfl Try.func81 pL rfl #[.slice A1 l1.length c1, .int .i64 ((rd_T55 ((rd_T29 l0 x17_1).f2) x28_2).f0)] rfl pM ?_; (with_reducible refine (impl_foodPlace.calls _ _ l1 ((rd_T55 ((rd_T29 l0 x17_1).f2) x28_2).f0) t437 _ ?side1 ?side2 A19.out).mono ?_); (case side1 => exact Kd.C_below HR1.out (pG GE436)); (case side2 => exact HC1.out); rintro e w25 ⟨rfl, hb⟩; refine ⟨_, rfl, ?_⟩; have n0_ := Aside0.mk (Kd.R_below (by (with_reducible repeat (first | apply Kd.R_alloc | apply Kd.R_drewN | apply Kd.R_drew)); exact (Kd.R_mono (Kd.R_far (p := ⟨gb436, 2, none⟩) (Kd.R_far (p := ⟨gb436, 1, none⟩) (Kd.R_far (p := ⟨gb436, 0, none⟩) (Kd.R_types HO_7.out BK436.out (by decide)) (fun _ hk => hk.2) (.int .i64 ((rd_T55 ((rd_T29 l0 x17_1).f2) x28_2).f0))) (fun _ hk => hk.2) (.int .i64 ((rd_T55 ((rd_T29 l0 x17_1).f2) x28_2).f1))) (fun _ hk => hk.2) (.int .i64 ((rd_T55 ((rd_T29 l0 x17_1).f2) x28_2).f2))) (fun _ h_ => h_.1))) hb); have n1_ := Aside0.mk (Kd.R_below (by (with_reducible repeat (first | apply Kd.R_alloc | apply Kd.R_drewN | apply Kd.R_drew)); exact (Kd.R_mono (Kd.R_far (p := ⟨gb436, 2, none⟩) (Kd.R_far (p := ⟨gb436, 1, none⟩) (Kd.R_far (p := ⟨gb436, 0, none⟩) (Kd.R_types HO_15.out BK436.out (by decide)) (fun _ hk => hk.2) (.int .i64 ((rd_T55 ((rd_T29 l0 x17_1).f2) x28_2).f0))) (fun _ hk => hk.2) (.int .i64 ((rd_T55 ((rd_T29 l0 x17_1).f2) x28_2).f1))) (fun _ hk => hk.2) (.int .i64 ((rd_T55 ((rd_T29 l0 x17_1).f2) x28_2).f2))) (fun _ h_ => h_.1))) hb); have n2_ := Aside0.mk (blk_below (g := gb436) (o := .cells #[.int .i64 ((rd_T55 ((rd_T29 l0 x17_1).f2) x28_2).f0), .int .i64 ((rd_T55 ((rd_T29 l0 x17_1).f2) x28_2).f1), .int .i64 ((rd_T55 ((rd_T29 l0 x17_1).f2) x28_2).f2)] 55 (0, 0)) (by (with_reducible repeat (first | refine blk_drewN ?_ _ | refine blk_drew ?_ | refine blk_alloc ?_ _)); refine blk_put (cs := #[.int .i64 ((rd_T55 ((rd_T29 l0 x17_1).f2) x28_2).f0), .int .i64 ((rd_T55 ((rd_T29 l0 x17_1).f2) x28_2).f1), .int .i64 0]) ?_ 2 _ rfl; (with_reducible repeat (first | refine blk_drewN ?_ _ | refine blk_drew ?_ | refine blk_alloc ?_ _)); refine blk_put (cs := #[.int .i64 ((rd_T55 ((rd_T29 l0 x17_1).f2) x28_2).f0), .int .i64 0, .int .i64 0]) ?_ 1 _ rfl; (with_reducible repeat (first | refine blk_drewN ?_ _ | refine blk_drew ?_ | refine blk_alloc ?_ _)); refine blk_put (cs := #[.int .i64 0, .int .i64 0, .int .i64 0]) ?_ 0 _ rfl; (with_reducible repeat (first | refine blk_drewN ?_ _ | refine blk_drew ?_ | refine blk_alloc ?_ _)); exact BK436.out) hb); have n3_ := Aside0.mk (below_step (pG GE436) hb); clear HO_7; clear HO_15; clear BK436; clear HB; have HO_7 := n0_; have HO_15 := n1_; have BK436 := n2_; have HB := n3_; clear n0_ n1_ n2_ n3_; (try clear hb); (try clear hb2); (try clear hk); (try clear hi); have p438 : 0 ≤ (t437 : Int) := of_decide_eq_true pA; have q438 : t437 < (l1.length : Int) := of_decide_eq_true pA; obtain ⟨ad438, e438, hx438_0, hx438_1, hx438_2, hx438_3, hx438_4, hx438_5⟩ := at_T63 HR1.out t437 p438 q438; cases e438; replace hx438_0 := (HB.out.cell (World.block_lt_of_cell? w _ hx438_0)).trans hx438_0; replace hx438_1 := (HB.out.cell (World.block_lt_of_cell? w _ hx438_1)).trans hx438_1; replace hx438_2 := (HB.out.cell (World.block_lt_of_cell? w _ hx438_2)).trans hx438_2; replace hx438_3 := (HB.out.cell (World.block_lt_of_cell? w _ hx438_3)).trans hx438_3; replace hx438_4 := (HB.out.cell (World.block_lt_of_cell? w _ hx438_4)).trans hx438_4; replace hx438_5 := (HB.out.cell (World.block_lt_of_cell? w _ hx438_5)).trans hx438_5; replace p438 := eq_true p438; replace q438 := eq_true q438) | ((with_reducible refine gate_builtin (b := .append) (xs := #[.tmp 38, .tmp 46]) rfl ?_); at_builtin; refine Kd.R_append k63 (w0 := w) w.heap.size rfl (.tmp 38) (.tmp 46) 39 63 (.agg #[(.int .i64 0), (.int .i64 0), (.int .i64 0), (.int .i64 0), (.int .i64 0), (.int .i64 0)]) 48 rfl Try.underlying39 info63 rfl (by decide) (by omega) u7 x7_2 (⟨(rd_T63 l1 t437).f0, (rd_T63 l1 t437).f1, (rd_T63 l1 t437).f2, (rd_T63 l1 t437).f3, (rd_T63 l1 t437).f4, (rd_T63 l1 t437).f5⟩ : S63) [.int .i64 ((rd_T63 l1 t437).f0), .int .i64 ((rd_T63 l1 t437).f1), .int .i64 ((rd_T63 l1 t437).f2), .int .i64 ((rd_T63 l1 t437).f3), .int .i64 ((rd_T63 l1 t437).f4), .int .i64 ((rd_T63 l1 t437).f5)] (fun _ => True) (fun _ => False) rfl rfl ?aP (fun _ hk => hk.elim) ?aF ?aO ?aB ?aS ?aL ?_; (case aP => exact k63_mkM _ _ _ (⟨(rd_T63 l1 t437).f0, (rd_T63 l1 t437).f1, (rd_T63 l1 t437).f2, (rd_T63 l1 t437).f3, (rd_T63 l1 t437).f4, (rd_T63 l1 t437).f5⟩ : S63)); (case aB => exact (pG GE436)); (case aF => exact (fun _ _ => trivial)); (case aO => exact (pR HO_7)); (case aS => exact (below_size (pG GE436))); (case aL => have := LMc22.out; omega); intro v440 w26 ho hb hg hat; rw [← Ny439.out] at ho; have n0_ := Aside0.mk (Kd.R_over' (pR HO_15) (Kd.R_typed (pR HO_7)) (by decide) hg); have n1_ := Aside0.mk (blk_grown (g := gb436) (o := .cells #[.int .i64 ((rd_T55 ((rd_T29 l0 x17_1).f2) x28_2).f0), .int .i64 ((rd_T55 ((rd_T29 l0 x17_1).f2) x28_2).f1), .int .i64 ((rd_T55 ((rd_T29 l0 x17_1).f2) x28_2).f2)] 55 (0, 0)) (pC BK436) hg (Kd.R_ne HO_7.out BK436.out (by decide))); have n2_ := Aside0.mk (hb); have n3_ := Aside0.mk (ho); clear HO_15; clear BK436; clear HB; clear HO_7; have HO_15 := n0_; have BK436 := n1_; have HB := n2_; have HO441 := n3_; clear n0_ n1_ n2_ n3_; clear ho hb hg hat))
     go_roundg k2
     case measure => have := HK1.out; have := HK2.out; omega
     case rel => exact ⟨(y439), (wrap64 (x28_2 + 1)), pF, H', ⟨by have := HK1.out; have := HK2.out; omega⟩, ⟨pR HO441⟩, ⟨pR HO_15⟩, ⟨pG GE436⟩⟩
end Go.Proofs.Ytclldijjbmnkeaa.Q
