-- Written by the kit's print.py for all laws of the seat at once (one namespace), by a program of this session.
import Derived.Test.YtclldijjbmnkeaaQx0
import Derived.Test.YtclldijjbmnkeaaQx5
namespace Go.Proofs.Ytclldijjbmnkeaa.Q
open Go.RowKit Go.Proofs.YtclldijjbmnkeaaW.PrintWords Go.Proofs.YtclldijjbmnkeaaW.PrintLast Go.Proofs.YtclldijjbmnkeaaW.PrintMore
attribute [local go_sem] max2_int min2_int max_two min_two max_three min_three max_four min_four   -- for this text's walks alone
set_option linter.unusedVariables false
set_option linter.unusedSimpArgs false

/-! ### spec_l11Uses: function 69 -/
mutual
def spec_l11Uses.l0 : Nat → List (S29) → Int → List Bool → Int → Option (List Bool)
 | 0, _, _, _, _ => none
 | k + 1, x0, x1, x2, x7 => if 0 ≤ x1 then (if x1 < (x0.length : Int) then (if x7 < (((rd_T29 x0 x1).f2).length : Int) then (if 0 ≤ x7 then (if ((rd_T55 ((rd_T29 x0 x1).f2) x7).f1) > 0 then ((spec_l11Find.f k x0 ((rd_T55 ((rd_T29 x0 x1).f2) x7).f1)).bind fun t332 => ((spec_l11Uses.f k x0 t332 x2).bind fun t333 => (spec_l11Uses.l0 k x0 x1 t333 (wrap64 (x7 + 1))))) else (spec_l11Uses.l0 k x0 x1 x2 (wrap64 (x7 + 1)))) else (none)) else (some x2)) else (none)) else (none)
def spec_l11Uses.f : Nat → List (S29) → Int → List Bool → Option (List Bool)
 | 0, _, _, _ => none
 | k + 1, l0, a1, l2 => if 0 ≤ a1 then (if a1 < (l2.length : Int) then (spec_l11Uses.l0 k l0 a1 (l2.set (a1 : Int).toNat true) 0) else (none)) else (none)
end
theorem spec_l11Uses.mono_l : ∀ k, (∀ y0 y1 y2, LeO (spec_l11Uses.f k y0 y1 y2) (spec_l11Uses.f (k + 1) y0 y1 y2)) ∧ (∀ y0 y1 y2 y3, LeO (spec_l11Uses.l0 k y0 y1 y2 y3) (spec_l11Uses.l0 (k + 1) y0 y1 y2 y3))
 | 0 => ⟨fun _ _ _ r h => by simp [spec_l11Uses.f] at h, fun _ _ _ _ r h => by simp [spec_l11Uses.l0] at h⟩
 | k + 1 => by
  obtain ⟨ih0, ih1⟩ := spec_l11Uses.mono_l k
  refine ⟨?_, ?_⟩
  ·intro y0 y1 y2
   unfold spec_l11Uses.f
   repeat' first
   | (with_reducible exact ih0 _ _ _)
   | (with_reducible exact ih1 _ _ _ _)
   | (with_reducible exact spec_l11Find.mono _ _ _)
   | (with_reducible exact LeO.refl _)
   | (with_reducible exact LeO.none _)
   | (with_reducible refine LeO.ite ?_ ?_)
   | (with_reducible refine LeO.bind ?_ (fun _ => ?_))
   | exact ih0 _ _ _
   | exact ih1 _ _ _ _
   | exact spec_l11Find.mono _ _ _
   | exact LeO.none _
   | refine LeO.ite ?_ ?_
   | refine LeO.bind ?_ (fun _ => ?_)
  ·intro y0 y1 y2 y3
   unfold spec_l11Uses.l0
   repeat' first
   | (with_reducible exact ih0 _ _ _)
   | (with_reducible exact ih1 _ _ _ _)
   | (with_reducible exact spec_l11Find.mono _ _ _)
   | (with_reducible exact LeO.refl _)
   | (with_reducible exact LeO.none _)
   | (with_reducible refine LeO.ite ?_ ?_)
   | (with_reducible refine LeO.bind ?_ (fun _ => ?_))
   | exact ih0 _ _ _
   | exact ih1 _ _ _ _
   | exact spec_l11Find.mono _ _ _
   | exact LeO.none _
   | refine LeO.ite ?_ ?_
   | refine LeO.bind ?_ (fun _ => ?_)
theorem spec_l11Uses.mono : ∀ a0 a1 a2 k, LeO (spec_l11Uses.f k a0 a1 a2) (spec_l11Uses.f (k + 1) a0 a1 a2) := by
 intro a0 a1 a2 k
 obtain ⟨ih0, ih1⟩ := spec_l11Uses.mono_l k
 exact ih0 a0 a1 a2
set_option maxHeartbeats 8000000 in
set_option maxRecDepth 100000 in
theorem spec_l11Uses.calls (k : Nat) : ∀ (A0 : Option Addr) (c0 : Nat) (l0 : List (S29)) (a1 : Int) (P2_ : Nat → Prop) (u9000_ : Value) (l2 : List Bool) (r : List Bool) (w0 w : World) (hB : Below w0.heap.size w0 w) (hr0 : ∀ W_, Kept w W_ (fun k_ => P2_ k_) → Kd.C k29 W_ A0 l0.length l0) (hc0 : l0.length ≤ c0) (ho2 : Kd.R Kd.bool 4 w w0.heap.size P2_ u9000_ l2) (h : spec_l11Uses.f k l0 a1 l2 = some r),
  Calls Try.prog 69 #[.slice A0 l0.length c0, .int .i64 a1, u9000_] w fun e w' => ∃ v0_ : Value, e = .returned (v0_) ∧ Kd.R Kd.bool 4 w' w0.heap.size (fun k_ => (P2_ k_ ∨ w.heap.size ≤ k_)) v0_ r ∧ Below w0.heap.size w0 w' ∧ Kept w w' (fun k_ => P2_ k_) := by
 induction k using Nat.strongRecOn with
 | _ k ih =>
 intro A0 c0 l0 a1 P2_ u9000_ l2 r w0 w hB hr0 hc0 ho2 h
 cases k with
 | zero => exact absurd h (by simp [spec_l11Uses.f])
 | succ k =>
 simp only [spec_l11Uses.f] at h
 have HR0 := Aside0.mk hr0
 have HC0 := Aside0.mk hc0
 clear hr0 hc0
 have HO2 := Aside0.mk (show Kd.R Kd.bool 4 w w0.heap.size (fun k_ => (P2_ k_ ∨ w.heap.size ≤ k_)) u9000_ l2 from Kd.R_mono ho2 (fun k_ hk => (.inl hk)))
 have HK := Aside0.mk (Kept.refl w (fun k_ => P2_ k_))
 have HW0 := Aside0.mk hB.size
 have HB := Aside0.mk hB
 clear hB
 have H : (if 0 ≤ a1 then (if a1 < (l2.length : Int) then (spec_l11Uses.l0 k l0 a1 (l2.set (a1 : Int).toNat true) 0) else (none)) else (none)) = some r := h
 clear h
 rcases (Classical.em (0 ≤ a1)).symm with c4 | c4
 ·rw [if_neg c4] at H
  exact absurd H (by simp)

 rw [if_pos c4] at H
 have c4b0 : decide (0 ≤ a1) = true := decide_eq_true c4
 clear c4
 rcases (Classical.em (a1 < (l2.length : Int))).symm with c5 | c5
 ·rw [if_neg c5] at H
  exact absurd H (by simp)
 rw [if_pos c5] at H
 have c5b0 : decide (a1 < (l2.length : Int)) = true := decide_eq_true c5
 clear c5
 obtain ⟨y326, hy326⟩ : ∃ y_ : List Bool, y_ = (l2.set (a1 : Int).toNat true) := ⟨_, rfl⟩
 replace H : (spec_l11Uses.l0 k l0 a1 y326 0) = some r := pJ hy326 H
 have Ny326 := Aside0.mk hy326
 clear hy326
 have H' := Aside0.mk H
 clear H
 have p6 : 0 ≤ (a1 : Int) := of_decide_eq_true pA
 have q6 : (a1 : Int) < ((l2.length : Int) : Int) := of_decide_eq_true pA
 obtain ⟨go6, co6, eo6, gb6, gl6, cl6, HG6⟩ := Kd.R_form HO2.out (by omega)
 (first | cases eo6 | (injection eo6 with ea_ en_ ec_; (first | subst ea_ | (injection ea_ with ea_; subst ea_)); subst ec_; clear en_))
 have GB6 := Aside0.mk gb6
 have GG6 := Aside0.mk HG6
 clear gb6 gl6 HG6
 have HMgo6 := Aside0.mk (show (P2_ go6 ∨ w.heap.size ≤ go6) from (HO2.out.1 _ rfl))
 obtain ⟨hx6_0, hf6_0⟩ := Kd.R_celln false HO2.out (a1 : Int) p6 q6
 replace p6 := eq_true p6
 replace q6 := eq_true q6
 have HP7 := Kd.R_putg HO2.out (a1 : Int) true
 go_enter Try.func69, Try.ntmps69
 go_wp2_with (first | ((with_reducible refine gate_store (t := 4) (p := 10) rfl ?_); refine store_event (t := 4) (p := 10) (v := ?vo_w8) (w1 := (w.setCell ⟨go6, (a1 : Int).toNat, none⟩ (.bool true))) ?hg ?ho ?hn ?hr ?_; (case ho => rfl); (case hg => rfl); (case hn => rfl); (case hr => first | (go_simp; done) | (go_simp; rfl)); intro w8 hw; have hg : w.grownBy w8 (some go6) := (by rw [hw]; exact HP7.2); have hp_ : Kd.R Kd.bool 4 w8 w0.heap.size (fun k_ => (P2_ k_ ∨ w.heap.size ≤ k_)) (.slice (some ⟨go6, 0, none⟩) l2.length co6) y326 := (by rw [hw, Ny326.out]; exact HP7.1); clear HP7; have n0_ := Aside0.mk (hp_); have n1_ := Aside0.mk ((by rw [hw]; exact below_set (HB.out) GB6.out : Below w0.heap.size w0 w8)); have n2_ := Aside0.mk (Kept.of_grown (S := (fun k_ => P2_ k_)) hg (by repeat (first | (with_reducible first | exact HK.out | apply Kept.alloc | apply Kept.drewN | apply Kept.drew) | exact HK.out)) (fun k_ e_ => (HO2.out.1 k_ e_))); clear HO2; clear HB; clear HK; have HO2 := n0_; have HB := n1_; have HK := n2_; clear n0_ n1_ n2_; clear hg hw hp_))
 go_loopg [2, 7] k (fun kq v2 v7 w' => ∃ (x2_1 : List Bool) (x7_1 : Int), v7 = .int .i64 x7_1 ∧ Aside0 (spec_l11Uses.l0 kq l0 a1 x2_1 x7_1 = some r) ∧ Aside0 (kq ≤ k) ∧ Aside0 (Kd.R Kd.bool 4 w' w0.heap.size (fun k_ => (P2_ k_ ∨ w.heap.size ≤ k_)) v2 x2_1) ∧ Aside0 (Kept w w' (fun k_ => P2_ k_)) ∧ Aside0 (Below w0.heap.size w0 w'))
 case atStart => exact ⟨(y326), (0), pF, H', ⟨Nat.le_refl _⟩, ⟨pR HO2⟩, ⟨by repeat (first | (with_reducible first | exact HK.out | apply Kept.alloc | apply Kept.drewN | apply Kept.drew) | exact HK.out)⟩, ⟨pB⟩⟩
 case round =>
  clear H'
  try clear p2
  try clear c4
  try clear c4b0
  try clear c5
  try clear c5b0
  try clear c6
  try clear p6
  try clear q6
  try clear hx6
  try clear hf6
  try clear hx6_0
  try clear p6
  try clear q6
  obtain ⟨x2_1, x7_1, rfl, HA, HK1, HO_2, HK, HB⟩ := hrel
  cases gk with
  | zero => exact absurd HA.out (by simp [spec_l11Uses.l0])
  | succ k1 =>
   have H := HA.out
   clear HA
   simp only [spec_l11Uses.l0] at H
   rcases (Classical.em (0 ≤ a1)).symm with c9 | c9
   ·rw [if_neg c9] at H
    exact absurd H (by simp)
   rw [if_pos c9] at H
   have c9b0 : decide (0 ≤ a1) = true := decide_eq_true c9
   clear c9
   rcases (Classical.em (a1 < (l0.length : Int))).symm with c10 | c10
   ·rw [if_neg c10] at H
    exact absurd H (by simp)
   rw [if_pos c10] at H
   have c10b0 : decide (a1 < (l0.length : Int)) = true := decide_eq_true c10
   clear c10
   rcases (Classical.em (x7_1 < (((rd_T29 l0 a1).f2).length : Int))).symm with c11 | c11
   ·rw [if_neg c11] at H
    have c11b0 : decide (x7_1 < (((rd_T29 l0 a1).f2).length : Int)) = false := decide_eq_false c11
    clear c11
    obtain rfl := Option.some.inj H
    have p327 : 0 ≤ (a1 : Int) := of_decide_eq_true pA
    have q327 : a1 < (l0.length : Int) := of_decide_eq_true pA
    obtain ⟨ad327, A327_2, c327_2, e327, hx327_0, hx327_1, hx327_2, hl327_2, hi327_2⟩ := at_T29 (Kd.C_kept_now HR0.out HK.out) a1 p327 q327
    cases e327
    have HR327_2 := Aside0.mk (hi327_2)
    have HC327_2 := Aside0.mk hl327_2
    clear hi327_2 hl327_2
    replace p327 := eq_true p327
    replace q327 := eq_true q327
    go_wp2
    go_ret
    exact ⟨_, pE, pR HO_2, pB, by repeat (first | (with_reducible first | exact HK.out | apply Kept.alloc | apply Kept.drewN | apply Kept.drew) | exact HK.out)⟩
   rw [if_pos c11] at H
   have c11b0 : decide (x7_1 < (((rd_T29 l0 a1).f2).length : Int)) = true := decide_eq_true c11
   clear c11
   rcases (Classical.em (0 ≤ x7_1)).symm with c12 | c12
   ·rw [if_neg c12] at H
    exact absurd H (by simp)
   rw [if_pos c12] at H
   have c12b0 : decide (0 ≤ x7_1) = true := decide_eq_true c12
   clear c12
   rcases (Classical.em (((rd_T55 ((rd_T29 l0 a1).f2) x7_1).f1) > 0)).symm with c13 | c13
   ·rw [if_neg c13] at H
    have c13b0 : decide (0 < ((rd_T55 ((rd_T29 l0 a1).f2) x7_1).f1)) = false := decide_eq_false c13
    clear c13
    have H' := Aside0.mk H
    clear H
    have p327 : 0 ≤ (a1 : Int) := of_decide_eq_true pA
    have q327 : a1 < (l0.length : Int) := of_decide_eq_true pA
    obtain ⟨ad327, A327_2, c327_2, e327, hx327_0, hx327_1, hx327_2, hl327_2, hi327_2⟩ := at_T29 (Kd.C_kept_now HR0.out HK.out) a1 p327 q327
    cases e327
    have HR327_2 := Aside0.mk (hi327_2)
    have HC327_2 := Aside0.mk hl327_2
    clear hi327_2 hl327_2
    replace p327 := eq_true p327
    replace q327 := eq_true q327
    have p328 : 0 ≤ (a1 : Int) := of_decide_eq_true pA
    have q328 : a1 < (l0.length : Int) := of_decide_eq_true pA
    obtain ⟨ad328, A328_2, c328_2, e328, hx328_0, hx328_1, hx328_2, hl328_2, hi328_2⟩ := at_T29 (Kd.C_kept_now HR0.out HK.out) a1 p328 q328
    obtain rfl : ad327 = ad328 := (by injection e328)
    have HR328_2 := Aside0.mk (hi328_2)
    have HC328_2 := Aside0.mk hl328_2
    clear hi328_2 hl328_2
    replace p328 := eq_true p328
    replace q328 := eq_true q328
    have ea_ := Option.some.inj (hx327_2.symm.trans hx328_2)
    injection ea_ with ea_ en_ ec_
    subst ea_
    subst ec_
    clear en_
    have p329 : 0 ≤ (x7_1 : Int) := of_decide_eq_true pA
    have q329 : x7_1 < (((rd_T29 l0 a1).f2).length : Int) := of_decide_eq_true pA
    obtain ⟨ad329, e329, hx329_0, hx329_1, hx329_2⟩ := at_T55 (by repeat (first | (with_reducible exact HR328_2.out) | (with_reducible refine Kd.C_alloc ?_ _) | (with_reducible refine Kd.C_drewN ?_ _) | (with_reducible refine Kd.C_drew ?_) | exact HR328_2.out)) x7_1 p329 q329
    cases e329
    replace p329 := eq_true p329
    replace q329 := eq_true q329
    go_wp2
    go_roundg k1
    case measure => have := HK1.out; omega
    case rel => exact ⟨(x2_1), (wrap64 (x7_1 + 1)), pF, H', ⟨by have := HK1.out; omega⟩, ⟨pR HO_2⟩, ⟨by repeat (first | (with_reducible first | exact HK.out | apply Kept.alloc | apply Kept.drewN | apply Kept.drew) | exact HK.out)⟩, ⟨pB⟩⟩
   rw [if_pos c13] at H
   have c13b0 : decide (0 < ((rd_T55 ((rd_T29 l0 a1).f2) x7_1).f1)) = true := decide_eq_true c13
   clear c13
   replace H := Option.bind_eq_some_iff.mp H
   obtain ⟨t332, A140, H⟩ := H
   replace H : ((spec_l11Uses.f k1 l0 t332 x2_1).bind fun t333 => (spec_l11Uses.l0 k1 l0 a1 t333 (wrap64 (x7_1 + 1)))) = some r := H
   have A14 := Aside0.mk A140
   clear A140
   replace H := Option.bind_eq_some_iff.mp H
   obtain ⟨t333, A150, H⟩ := H
   replace H : (spec_l11Uses.l0 k1 l0 a1 t333 (wrap64 (x7_1 + 1))) = some r := H
   have A15 := Aside0.mk A150
   clear A150
   have H' := Aside0.mk H
   clear H
   have p327 : 0 ≤ (a1 : Int) := of_decide_eq_true pA
   have q327 : a1 < (l0.length : Int) := of_decide_eq_true pA
   obtain ⟨ad327, A327_2, c327_2, e327, hx327_0, hx327_1, hx327_2, hl327_2, hi327_2⟩ := at_T29 (Kd.C_kept_now HR0.out HK.out) a1 p327 q327
   cases e327
   have HR327_2 := Aside0.mk (hi327_2)
   have HC327_2 := Aside0.mk hl327_2
   clear hi327_2 hl327_2
   replace p327 := eq_true p327
   replace q327 := eq_true q327
   have p328 : 0 ≤ (a1 : Int) := of_decide_eq_true pA
   have q328 : a1 < (l0.length : Int) := of_decide_eq_true pA
   obtain ⟨ad328, A328_2, c328_2, e328, hx328_0, hx328_1, hx328_2, hl328_2, hi328_2⟩ := at_T29 (Kd.C_kept_now HR0.out HK.out) a1 p328 q328
   obtain rfl : ad327 = ad328 := (by injection e328)
   have HR328_2 := Aside0.mk (hi328_2)
   have HC328_2 := Aside0.mk hl328_2
   clear hi328_2 hl328_2
   replace p328 := eq_true p328
   replace q328 := eq_true q328
   have ea_ := Option.some.inj (hx327_2.symm.trans hx328_2)
   injection ea_ with ea_ en_ ec_
   subst ea_
   subst ec_
   clear en_
   have p329 : 0 ≤ (x7_1 : Int) := of_decide_eq_true pA
   have q329 : x7_1 < (((rd_T29 l0 a1).f2).length : Int) := of_decide_eq_true pA
   obtain ⟨ad329, e329, hx329_0, hx329_1, hx329_2⟩ := at_T55 (by repeat (first | (with_reducible exact HR328_2.out) | (with_reducible refine Kd.C_alloc ?_ _) | (with_reducible refine Kd.C_drewN ?_ _) | (with_reducible refine Kd.C_drew ?_) | exact HR328_2.out)) x7_1 p329 q329
   cases e329
   replace p329 := eq_true p329
   replace q329 := eq_true q329
   have p330 : 0 ≤ (a1 : Int) := of_decide_eq_true pA
   have q330 : a1 < (l0.length : Int) := of_decide_eq_true pA
   obtain ⟨ad330, A330_2, c330_2, e330, hx330_0, hx330_1, hx330_2, hl330_2, hi330_2⟩ := at_T29 (Kd.C_kept_now HR0.out HK.out) a1 p330 q330
   obtain rfl : ad327 = ad330 := (by injection e330)
   have HR330_2 := Aside0.mk (hi330_2)
   have HC330_2 := Aside0.mk hl330_2
   clear hi330_2 hl330_2
   replace p330 := eq_true p330
   replace q330 := eq_true q330
   have ea_ := Option.some.inj (hx327_2.symm.trans hx330_2)
   injection ea_ with ea_ en_ ec_
   subst ea_
   subst ec_
   clear en_
   have p331 : 0 ≤ (x7_1 : Int) := of_decide_eq_true pA
   have q331 : x7_1 < (((rd_T29 l0 a1).f2).length : Int) := of_decide_eq_true pA
   obtain ⟨ad331, e331, hx331_0, hx331_1, hx331_2⟩ := at_T55 (by repeat (first | (with_reducible exact HR330_2.out) | (with_reducible refine Kd.C_alloc ?_ _) | (with_reducible refine Kd.C_drewN ?_ _) | (with_reducible refine Kd.C_drew ?_) | exact HR330_2.out)) x7_1 p331 q331
   cases e331
   replace p331 := eq_true p331
   replace q331 := eq_true q331
   go_wp2_with (first | ((with_reducible refine gate_callee (f := 58) rfl ?_); refine goesL_ (some 42) rfl rfl Try.func58 pL rfl #[.slice (some ad327) l0.length c0, .int .i64 ((rd_T55 ((rd_T29 l0 a1).f2) x7_1).f1)] rfl pM ?_; (with_reducible refine (spec_l11Find.calls k1 _ _ l0 ((rd_T55 ((rd_T29 l0 a1).f2) x7_1).f1) t332 _ ?side1 ?side2 A14.out).mono ?_); (case side1 => exact Kd.C_kept_now HR0.out (by repeat (first | (with_reducible first | exact HK.out | apply Kept.alloc | apply Kept.drewN | apply Kept.drew) | exact HK.out))); (case side2 => exact HC0.out); rintro e w' ⟨rfl, ⟨nd, rfl⟩⟩; refine ⟨_, rfl, ?_⟩; obtain ⟨Ao16, co16, eo16⟩ := Kd.R_slice HO_2.out; subst eo16) | ((with_reducible refine gate_callee (f := 69) rfl ?_); refine goesL_ (some 44) rfl rfl Try.func69 pL rfl #[.slice (some ad327) l0.length c0, .int .i64 t332, .slice Ao16 x2_1.length co16] rfl pM ?_; (with_reducible refine (ih k1 (by have := HK1.out; omega) _ _ l0 t332 (fun k_ => some k_ = (.slice Ao16 x2_1.length co16 : Value).ownBlock) (.slice Ao16 x2_1.length co16) x2_1 t333 w0 _ ?side1 ?side2 ?side3 ?side4 A15.out).mono ?_); (case side1 => exact pB); (case side2 => exact Kd.C_kept_call HR0.out (by repeat (first | (with_reducible first | exact HK.out | apply Kept.alloc | apply Kept.drewN | apply Kept.drew) | exact HK.out)) (fun k_ hs_ => (fun e_ => (HO_2.out.1 k_ e_.symm)) hs_)); (case side3 => exact HC0.out); (case side4 => exact Kd.R_tight rfl HO_2.out); rintro e w17 ⟨v334, rfl, ho0, hb, hkp⟩; refine ⟨_, rfl, ?_⟩; have n0_ := Aside0.mk (Kd.R_mono (ok' := fun k_ => (P2_ k_ ∨ w.heap.size ≤ k_)) ho0 (fun k_ hk_ => Or.elim hk_ (fun hs_ => (HO_2.out.1 k_ (hs_).symm)) (fun hn_ => (.inr (Nat.le_trans (by first | exact HK.out.1 | exact (show Kept w _ (fun k_ => P2_ k_) from by repeat (first | (with_reducible first | exact HK.out | apply Kept.alloc | apply Kept.drewN | apply Kept.drew) | exact HK.out)).1) hn_))))); have n1_ := Aside0.mk (Kept.then_ (S := (fun k_ => P2_ k_)) (by repeat (first | (with_reducible first | exact HK.out | apply Kept.alloc | apply Kept.drewN | apply Kept.drew) | exact HK.out)) hkp (fun k_ hs_ => (fun e_ => (HO_2.out.1 k_ e_.symm)) hs_)); have n2_ := Aside0.mk (hb); clear HK; clear HB; clear HO_2; have HO335 := n0_; have HK := n1_; have HB := n2_; clear n0_ n1_ n2_; (try clear hb); (try clear hkp); (try clear ho0)))
   go_roundg k1
   case measure => have := HK1.out; omega
   case rel => exact ⟨(t333), (wrap64 (x7_1 + 1)), pF, H', ⟨by have := HK1.out; omega⟩, ⟨pR HO335⟩, ⟨by repeat (first | (with_reducible first | exact HK.out | apply Kept.alloc | apply Kept.drewN | apply Kept.drew) | exact HK.out)⟩, ⟨pB⟩⟩
/-! ### impl_inDish: function 70 -/
mutual
def impl_inDish.l0 : Nat → List (S29) → List Bool → Int → Option (List Bool)
 | 0, _, _, _ => none
 | k + 1, x0, x5, x6 => if x6 ≥ 0 then (if 0 ≤ x6 then (if x6 < (x0.length : Int) then (impl_inDish.l1 k x0 x5 x6 ((rd_T29 x0 x6).f2) (((rd_T29 x0 x6).f2).length : Int) 0) else (none)) else (none)) else (some x5)
def impl_inDish.l1 : Nat → List (S29) → List Bool → Int → List (S55) → Int → Int → Option (List Bool)
 | 0, _, _, _, _, _, _ => none
 | k + 1, x0, x5, x6, x28, x29, x30 => if x30 < x29 then (if 0 ≤ x30 then (if x30 < (x28.length : Int) then (if 0 ≤ x6 then (if x6 < (x5.length : Int) then (if rdOf false x5 x6 = true then (if ((rd_T55 x28 x30).f1) > 0 then ((impl_DishesFind.f x0 ((rd_T55 x28 x30).f1)).bind fun t425 => (if 0 ≤ t425 then (if t425 < (x5.length : Int) then (impl_inDish.l1 k x0 (x5.set (t425 : Int).toNat true) x6 x28 x29 (wrap64 (x30 + 1))) else (none)) else (none))) else (impl_inDish.l1 k x0 x5 x6 x28 x29 (wrap64 (x30 + 1)))) else (impl_inDish.l1 k x0 x5 x6 x28 x29 (wrap64 (x30 + 1)))) else (none)) else (none)) else (none)) else (none)) else (impl_inDish.l0 k x0 x5 (wrap64 (x6 - 1)))
end
def impl_inDish.f (k : Nat) (l0 : List (S29)) (a1 : Int) : Option (List Bool) := if 0 ≤ (l0.length : Int) then (if ((l0.length : Int) : Int).toNat ≤ 281474976710656 then ((some (List.replicate ((l0.length : Int) : Int).toNat false : List Bool)).bind fun y416 => ((impl_DishesFind.f l0 a1).bind fun t419 => (if 0 ≤ t419 then (if t419 < (y416.length : Int) then (impl_inDish.l0 k l0 (y416.set (t419 : Int).toNat true) (wrap64 ((l0.length : Int) - 1))) else (none)) else (none)))) else (none)) else (none)
theorem impl_inDish.mono_l : ∀ k, (∀ y0 y1 y2, LeO (impl_inDish.l0 k y0 y1 y2) (impl_inDish.l0 (k + 1) y0 y1 y2)) ∧ (∀ y0 y1 y2 y3 y4 y5, LeO (impl_inDish.l1 k y0 y1 y2 y3 y4 y5) (impl_inDish.l1 (k + 1) y0 y1 y2 y3 y4 y5))
 | 0 => ⟨fun _ _ _ r h => by simp [impl_inDish.l0] at h, fun _ _ _ _ _ _ r h => by simp [impl_inDish.l1] at h⟩
 | k + 1 => by
  obtain ⟨ih0, ih1⟩ := impl_inDish.mono_l k
  refine ⟨?_, ?_⟩
  ·intro y0 y1 y2
   unfold impl_inDish.l0
   repeat' first
   | (with_reducible exact ih0 _ _ _)
   | (with_reducible exact ih1 _ _ _ _ _ _)
   | (with_reducible exact LeO.refl _)
   | (with_reducible exact LeO.none _)
   | (with_reducible refine LeO.ite ?_ ?_)
   | (with_reducible refine LeO.bind ?_ (fun _ => ?_))
   | exact ih0 _ _ _
   | exact ih1 _ _ _ _ _ _
   | exact LeO.none _
   | refine LeO.ite ?_ ?_
   | refine LeO.bind ?_ (fun _ => ?_)
  ·intro y0 y1 y2 y3 y4 y5
   unfold impl_inDish.l1
   repeat' first
   | (with_reducible exact ih0 _ _ _)
   | (with_reducible exact ih1 _ _ _ _ _ _)
   | (with_reducible exact LeO.refl _)
   | (with_reducible exact LeO.none _)
   | (with_reducible refine LeO.ite ?_ ?_)
   | (with_reducible refine LeO.bind ?_ (fun _ => ?_))
   | exact ih0 _ _ _
   | exact ih1 _ _ _ _ _ _
   | exact LeO.none _
   | refine LeO.ite ?_ ?_
   | refine LeO.bind ?_ (fun _ => ?_)
theorem impl_inDish.mono : ∀ a0 a1 k, LeO (impl_inDish.f k a0 a1) (impl_inDish.f (k + 1) a0 a1) := by
 intro a0 a1 k
 obtain ⟨ih0, ih1⟩ := impl_inDish.mono_l k
 unfold impl_inDish.f
 repeat' first
   | (with_reducible exact ih0 _ _ _)
   | (with_reducible exact ih1 _ _ _ _ _ _)
   | (with_reducible exact LeO.refl _)
   | (with_reducible exact LeO.none _)
   | (with_reducible refine LeO.ite ?_ ?_)
   | (with_reducible refine LeO.bind ?_ (fun _ => ?_))
   | exact ih0 _ _ _
   | exact ih1 _ _ _ _ _ _
   | exact LeO.none _
   | refine LeO.ite ?_ ?_
   | refine LeO.bind ?_ (fun _ => ?_)
set_option maxHeartbeats 8000000 in
set_option maxRecDepth 100000 in
theorem impl_inDish.calls (k : Nat) (A0 : Option Addr) (c0 : Nat) (l0 : List (S29)) (a1 : Int) (r : List Bool) (w : World) (hr0 : Kd.C k29 w A0 l0.length l0) (hc0 : l0.length ≤ c0) (h : impl_inDish.f k l0 a1 = some r) :
  Calls Try.prog 70 #[.slice A0 l0.length c0, .int .i64 a1] w fun e w' => ∃ v0_ : Value, e = .returned (v0_) ∧ Kd.R Kd.bool 4 w' w.heap.size (fun _ => True) v0_ r ∧ Below w.heap.size w w' := by
 have hu55 := Try.underlying55
 have HR0 := Aside0.mk hr0
 have HC0 := Aside0.mk hc0
 clear hr0 hc0
 have HB := Aside0.mk (Below.refl w.heap.size w)
 have H : (if 0 ≤ (l0.length : Int) then (if ((l0.length : Int) : Int).toNat ≤ 281474976710656 then ((some (List.replicate ((l0.length : Int) : Int).toNat false : List Bool)).bind fun y416 => ((impl_DishesFind.f l0 a1).bind fun t419 => (if 0 ≤ t419 then (if t419 < (y416.length : Int) then (impl_inDish.l0 k l0 (y416.set (t419 : Int).toNat true) (wrap64 ((l0.length : Int) - 1))) else (none)) else (none)))) else (none)) else (none)) = some r := h
 clear h
 rcases (Classical.em (0 ≤ (l0.length : Int))).symm with c3 | c3
 ·rw [if_neg c3] at H
  exact absurd H (by simp)

 rw [if_pos c3] at H
 have c3b0 := eq_true c3
 have c3b1 : decide (0 ≤ (l0.length : Int)) = true := decide_eq_true c3
 clear c3
 rcases (Classical.em (((l0.length : Int) : Int).toNat ≤ 281474976710656)).symm with c4 | c4
 ·rw [if_neg c4] at H
  exact absurd H (by simp)
 rw [if_pos c4] at H
 have c4b0 := eq_true c4
 have c4b1 : decide (((l0.length : Int) : Int).toNat ≤ 281474976710656) = true := decide_eq_true c4
 clear c4
 obtain ⟨y416, hy416⟩ : ∃ y_ : List Bool, y_ = (List.replicate ((l0.length : Int) : Int).toNat false) := ⟨_, rfl⟩
 replace H : ((impl_DishesFind.f l0 a1).bind fun t419 => (if 0 ≤ t419 then (if t419 < (y416.length : Int) then (impl_inDish.l0 k l0 (y416.set (t419 : Int).toNat true) (wrap64 ((l0.length : Int) - 1))) else (none)) else (none))) = some r := pJ hy416 H
 have Ny416 := Aside0.mk hy416
 clear hy416
 replace H := Option.bind_eq_some_iff.mp H
 obtain ⟨t419, A50, H⟩ := H
 replace H : (if 0 ≤ t419 then (if t419 < (y416.length : Int) then (impl_inDish.l0 k l0 (y416.set (t419 : Int).toNat true) (wrap64 ((l0.length : Int) - 1))) else (none)) else (none)) = some r := H
 have A5 := Aside0.mk A50
 clear A50
 rcases (Classical.em (0 ≤ t419)).symm with c6 | c6
 ·rw [if_neg c6] at H
  exact absurd H (by simp)
 rw [if_pos c6] at H
 have c6b0 : decide (0 ≤ t419) = true := decide_eq_true c6
 clear c6
 rcases (Classical.em (t419 < (y416.length : Int))).symm with c7 | c7
 ·rw [if_neg c7] at H
  exact absurd H (by simp)
 rw [if_pos c7] at H
 have c7b0 : decide (t419 < (y416.length : Int)) = true := decide_eq_true c7
 clear c7
 obtain ⟨y420, hy420⟩ : ∃ y_ : List Bool, y_ = (y416.set (t419 : Int).toNat true) := ⟨_, rfl⟩
 replace H : (impl_inDish.l0 k l0 y420 (wrap64 ((l0.length : Int) - 1))) = some r := pJ hy420 H
 have Ny420 := Aside0.mk hy420
 clear hy420
 have H' := Aside0.mk H
 clear H
 go_enter Try.func70, Try.ntmps70
 go_wp2_with (first | ((with_reducible refine gate_dst (N := 11) rfl ?_); refine Kd.R_make Kd.bool _ 4 rfl (N := 11) rfl 85 _ _ rfl (l0.length : Int) rfl rfl Try.underlying85 (.bool false) 1 info4 rfl (by decide) (by omega) false (ok := fun _ => True) (okp := fun _ => True) rfl (fun _ hk => hk) trivial (of_decide_eq_true pA) (Nat.le_trans (Nat.mul_le_mul_right _ (of_decide_eq_true pA : (l0.length : Int).toNat ≤ 281474976710656)) (by omega)) (Below.refl _ _) (Nat.le_refl _) ?_; intro v417 w9 ho10 hb hg_ hnew_; clear hg_ hnew_; (first | rw [← Ny416.out] at ho10 | (simp only [Int.reduceToNat] at ho10; rw [← Ny416.out] at ho10)); have n0_ := Aside0.mk (Kd.R_lower ho10 (below_size pB)); have n1_ := Aside0.mk (below_step pB hb); clear HB; have HO418 := n0_; have HB := n1_; clear n0_ n1_; clear hb ho10) | ((with_reducible refine gate_callee (f := 20) rfl ?_); refine goesL_ (some 15) rfl rfl Try.func20 pL rfl #[.slice A0 l0.length c0, .int .i64 a1] rfl pM ?_; (with_reducible refine (impl_DishesFind.calls _ _ l0 a1 t419 _ ?side1 ?side2 A5.out).mono ?_); (case side1 => exact pS ((Kd.C_below HR0.out HB.out))); (case side2 => exact HC0.out); rintro e w11 ⟨rfl, hb⟩; refine ⟨_, rfl, ?_⟩; have n0_ := Aside0.mk (Kd.R_below (pR HO418) hb); have n1_ := Aside0.mk (below_step pB hb); clear HO418; clear HB; have HO418 := n0_; have HB := n1_; clear n0_ n1_; (try clear hb); (try clear hb2); (try clear hk); (try clear hi); have p8 : 0 ≤ (t419 : Int) := of_decide_eq_true pA; have q8 : (t419 : Int) < ((y416.length : Int) : Int) := of_decide_eq_true pA; obtain ⟨go8, co8, eo8, gb8, gl8, cl8, HG8⟩ := Kd.R_form HO418.out (by omega); (first | cases eo8 | (injection eo8 with ea_ en_ ec_; (first | subst ea_ | (injection ea_ with ea_; subst ea_)); subst ec_; clear en_)); have GB8 := Aside0.mk gb8; have GG8 := Aside0.mk HG8; clear gb8 gl8 HG8; obtain ⟨hx8_0, hf8_0⟩ := Kd.R_celln false HO418.out (t419 : Int) p8 q8; replace p8 := eq_true p8; replace q8 := eq_true q8; obtain ⟨hy12_, hz12_⟩ := Kd.R_celln false HO418.out (t419 : Int) (of_decide_eq_true pA) (of_decide_eq_true pA); have HP12 := Kd.R_putg HO418.out (t419 : Int) true) | ((with_reducible refine gate_store (t := 4) (p := 16) rfl ?_); refine store_event (t := 4) (p := 16) (v := ?vo_w13) (w1 := (w11.setCell ⟨go8, (t419 : Int).toNat, none⟩ (.bool true))) ?hg ?ho ?hn ?hr ?_; (case ho => rfl); (case hg => rfl); (case hn => rfl); (case hr => first | (go_simp; done) | (go_simp; rfl)); intro w13 hw; have hg : w11.grownBy w13 (some go8) := (by rw [hw]; exact HP12.2); have hp_ : Kd.R Kd.bool 4 w13 w.heap.size (fun _ => True) (.slice (some ⟨go8, 0, none⟩) y416.length co8) y420 := (by rw [hw, Ny420.out]; exact HP12.1); clear HP12; have n0_ := Aside0.mk (hp_); have n1_ := Aside0.mk ((by rw [hw]; exact below_set (HB.out) GB8.out : Below w.heap.size w w13)); clear HO418; clear HB; have HO418 := n0_; have HB := n1_; clear n0_ n1_; clear hg hw hp_))
 go_loopg [6] k (fun kq v6 w' => ∃ (x5_1 : List Bool) (x6_1 : Int), v6 = .int .i64 x6_1 ∧ Aside0 (impl_inDish.l0 kq l0 x5_1 x6_1 = some r) ∧ Aside0 (kq ≤ k) ∧ Aside0 (Kd.R Kd.bool 4 w' w.heap.size (fun _ => True) (.slice (some ⟨go8, 0, none⟩) y416.length co8) x5_1) ∧ Aside0 (Below w.heap.size w w'))
 case atStart => exact ⟨(y420), (wrap64 ((l0.length : Int) - 1)), pF, H', ⟨Nat.le_refl _⟩, ⟨pR HO418⟩, ⟨pB⟩⟩
 case round =>
  clear H'
  try clear c2
  try clear p2
  try clear c3
  try clear c3b0
  try clear c3b1
  try clear c4
  try clear c4b0
  try clear c4b1
  try clear c6
  try clear c6b0
  try clear p6
  try clear c7
  try clear c7b0
  try clear p8
  try clear q8
  try clear hx8
  try clear hf8
  try clear hx8_0
  try clear p8
  try clear q8
  obtain ⟨x5_1, x6_1, rfl, HA, HK1, HO_5, HB⟩ := hrel
  have hl5_1 := (Kd.R_reads' HO_5.out).1
  rw [hl5_1] at HO_5
  (try simp only [hl5_1])
  cases gk with
  | zero => exact absurd HA.out (by simp [impl_inDish.l0])
  | succ k1 =>
   have H := HA.out
   clear HA
   simp only [impl_inDish.l0] at H
   rcases (Classical.em (x6_1 ≥ 0)).symm with c14 | c14
   ·rw [if_neg c14] at H
    have c14b0 : decide (0 ≤ x6_1) = false := decide_eq_false c14
    clear c14
    obtain rfl := Option.some.inj H
    go_wp2
    go_ret
    exact ⟨_, pE, pR HO_5, pB⟩
   rw [if_pos c14] at H
   have c14b0 : decide (0 ≤ x6_1) = true := decide_eq_true c14
   clear c14
   rcases (Classical.em (0 ≤ x6_1)).symm with c15 | c15
   ·rw [if_neg c15] at H
    exact absurd H (by simp)
   rw [if_pos c15] at H
   have c15b0 : decide (0 ≤ x6_1) = true := decide_eq_true c15
   clear c15
   rcases (Classical.em (x6_1 < (l0.length : Int))).symm with c16 | c16
   ·rw [if_neg c16] at H
    exact absurd H (by simp)
   rw [if_pos c16] at H
   have c16b0 : decide (x6_1 < (l0.length : Int)) = true := decide_eq_true c16
   clear c16
   have H' := Aside0.mk H
   clear H
   have p421 : 0 ≤ (x6_1 : Int) := of_decide_eq_true pA
   have q421 : x6_1 < (l0.length : Int) := of_decide_eq_true pA
   obtain ⟨ad421, A421_2, c421_2, e421, hx421_0, hx421_1, hx421_2, hl421_2, hi421_2⟩ := at_T29 HR0.out x6_1 p421 q421
   cases e421
   replace hx421_0 := (HB.out.cell (World.block_lt_of_cell? w _ hx421_0)).trans hx421_0
   replace hx421_1 := (HB.out.cell (World.block_lt_of_cell? w _ hx421_1)).trans hx421_1
   replace hx421_2 := (HB.out.cell (World.block_lt_of_cell? w _ hx421_2)).trans hx421_2
   have HR421_2 := Aside0.mk (hi421_2)
   have HC421_2 := Aside0.mk hl421_2
   clear hi421_2 hl421_2
   replace p421 := eq_true p421
   replace q421 := eq_true q421
   go_wp2
   go_loopg [30] k1 (fun kq v30 w' => ∃ (x5_2 : List Bool) (x30_2 : Int), v30 = .int .i64 x30_2 ∧ Aside0 (impl_inDish.l1 kq l0 x5_2 x6_1 ((rd_T29 l0 x6_1).f2) (((rd_T29 l0 x6_1).f2).length : Int) x30_2 = some r) ∧ Aside0 (kq ≤ k1) ∧ Aside0 (Kd.R Kd.bool 4 w' w.heap.size (fun _ => True) (.slice (some ⟨go8, 0, none⟩) x5_1.length co8) x5_2) ∧ Aside0 (Below w.heap.size w w'))
   case atStart => exact ⟨(x5_1), (0), pF, H', ⟨Nat.le_refl _⟩, ⟨by (try simp only [hl5_1]); (with_reducible repeat (first | apply Kd.R_alloc | apply Kd.R_drewN | apply Kd.R_drew)); exact HO_5.out⟩, ⟨pB⟩⟩
   case round =>
    clear H'
    try clear c1
    try clear c2
    try clear p2
    try clear c3
    try clear c3b0
    try clear c3b1
    try clear c4
    try clear c4b0
    try clear c4b1
    try clear p4
    try clear q4
    try clear hx4
    try clear c6
    try clear c6b0
    try clear p6
    try clear c7
    try clear c7b0
    try clear p8
    try clear q8
    try clear hx8
    try clear hf8
    try clear c14
    try clear c14b0
    try clear c15
    try clear c15b0
    try clear c16
    try clear c16b0
    try clear hx421_0
    try clear hx421_1
    try clear hx421_2
    try clear hx8_0
    try clear p2
    try clear p421
    try clear p6
    try clear p8
    try clear q421
    try clear q8
    obtain ⟨x5_2, x30_2, rfl, HA, HK2, HO_5, HB⟩ := hrel
    have hl5_2 := (Kd.R_reads' HO_5.out).1
    rw [hl5_2] at HO_5
    (try simp only [hl5_2])
    cases gk with
    | zero => exact absurd HA.out (by simp [impl_inDish.l1])
    | succ k2 =>
     have H := HA.out
     clear HA
     simp only [impl_inDish.l1] at H
     rcases (Classical.em (x30_2 < (((rd_T29 l0 x6_1).f2).length : Int))).symm with c17 | c17
     ·rw [if_neg c17] at H
      have c17b0 : decide (x30_2 < (((rd_T29 l0 x6_1).f2).length : Int)) = false := decide_eq_false c17
      clear c17
      have H' := Aside0.mk H
      clear H
      go_wp2
      (try simp only [← hl5_1, ← hl5_2])
      go_roundg k2
      case measure => have := HK1.out; have := HK2.out; omega
      case rel => exact ⟨(x5_2), (wrap64 (x6_1 - 1)), pF, H', ⟨by have := HK1.out; have := HK2.out; omega⟩, ⟨by (try simp only [hl5_1]); (try simp only [hl5_2]); (with_reducible repeat (first | apply Kd.R_alloc | apply Kd.R_drewN | apply Kd.R_drew)); exact HO_5.out⟩, ⟨pB⟩⟩
     rw [if_pos c17] at H
     have c17b0 : decide (x30_2 < (((rd_T29 l0 x6_1).f2).length : Int)) = true := decide_eq_true c17
     clear c17
     rcases (Classical.em (0 ≤ x30_2)).symm with c18 | c18
     ·rw [if_neg c18] at H
      exact absurd H (by simp)
     rw [if_pos c18] at H
     have c18b0 : decide (0 ≤ x30_2) = true := decide_eq_true c18
     clear c18
     rcases (Classical.em (x30_2 < (((rd_T29 l0 x6_1).f2).length : Int))).symm with c19 | c19
     ·rw [if_neg c19] at H
      exact absurd H (by simp)
     rw [if_pos c19] at H
     have c19b0 : decide (x30_2 < (((rd_T29 l0 x6_1).f2).length : Int)) = true := decide_eq_true c19
     clear c19
     rcases (Classical.em (0 ≤ x6_1)).symm with c20 | c20
     ·rw [if_neg c20] at H
      exact absurd H (by simp)
     rw [if_pos c20] at H
     have c20b0 : decide (0 ≤ x6_1) = true := decide_eq_true c20
     clear c20
     rcases (Classical.em (x6_1 < (x5_2.length : Int))).symm with c21 | c21
     ·rw [if_neg c21] at H
      exact absurd H (by simp)
     rw [if_pos c21] at H
     have c21b0 : decide (x6_1 < (x5_2.length : Int)) = true := decide_eq_true c21
     clear c21
     obtain ⟨bq22, hbq22⟩ : ∃ b_ : Bool, b_ = (rdOf false x5_2 x6_1) := ⟨_, rfl⟩
     replace H : (if bq22 = true then (if ((rd_T55 ((rd_T29 l0 x6_1).f2) x30_2).f1) > 0 then ((impl_DishesFind.f l0 ((rd_T55 ((rd_T29 l0 x6_1).f2) x30_2).f1)).bind fun t425 => (if 0 ≤ t425 then (if t425 < (x5_2.length : Int) then (impl_inDish.l1 k2 l0 (x5_2.set (t425 : Int).toNat true) x6_1 ((rd_T29 l0 x6_1).f2) (((rd_T29 l0 x6_1).f2).length : Int) (wrap64 (x30_2 + 1))) else (none)) else (none))) else (impl_inDish.l1 k2 l0 x5_2 x6_1 ((rd_T29 l0 x6_1).f2) (((rd_T29 l0 x6_1).f2).length : Int) (wrap64 (x30_2 + 1)))) else (impl_inDish.l1 k2 l0 x5_2 x6_1 ((rd_T29 l0 x6_1).f2) (((rd_T29 l0 x6_1).f2).length : Int) (wrap64 (x30_2 + 1)))) = some r := by rw [← hbq22] at H; exact H
     have Nbq22 := Aside0.mk hbq22
     clear hbq22
     rcases (Classical.em (bq22 = true)).symm with c23 | c23
     ·replace c23 := Bool.eq_false_iff.mpr c23
      subst c23
      have H1 : (impl_inDish.l1 k2 l0 x5_2 x6_1 ((rd_T29 l0 x6_1).f2) (((rd_T29 l0 x6_1).f2).length : Int) (wrap64 (x30_2 + 1))) = some r := by rw [if_neg (show ¬ (false = true) by decide)] at H; exact H
      clear H
      have H := H1
      clear H1
      have H' := Aside0.mk H
      clear H
      have p422 : 0 ≤ (x30_2 : Int) := of_decide_eq_true pA
      have q422 : x30_2 < (((rd_T29 l0 x6_1).f2).length : Int) := of_decide_eq_true pA
      obtain ⟨ad422, e422, hx422_0, hx422_1, hx422_2⟩ := at_T55 HR421_2.out x30_2 p422 q422
      cases e422
      replace hx422_0 := (HB.out.cell (World.block_lt_of_cell? w _ hx422_0)).trans hx422_0
      replace hx422_1 := (HB.out.cell (World.block_lt_of_cell? w _ hx422_1)).trans hx422_1
      replace hx422_2 := (HB.out.cell (World.block_lt_of_cell? w _ hx422_2)).trans hx422_2
      replace p422 := eq_true p422
      replace q422 := eq_true q422
      go_wp2_with (first | ((with_reducible refine gate_dst (N := 8) rfl ?_); refine box_event ?hg (N := 8) ?hd (cs := #[.int .i64 0, .int .i64 0, .int .i64 0]) (t := 55) ?hr ?_; (case hd => rfl); (case hg => rfl); (case hr => first | (go_simp; done) | (go_simp; rfl)); intro gb423 hg w36 hbox hb; have n0_ := Aside0.mk (Kd.R_below (pR HO_5) hb); have n1_ := Aside0.mk (below_step pB hb); have n2_ := Aside0.mk (hbox); have n3_ := Aside0.mk ((by rw [hg]; exact (below_size pB) : w.heap.size ≤ gb423)); have n4_ := Aside0.mk ((by rw [hg]; exact (below_size pB) : w.heap.size ≤ gb423)); clear HO_5; clear HB; have HO_5 := n0_; have HB := n1_; have BK423 := n2_; have GW423 := n3_; have GE423 := n4_; clear n0_ n1_ n2_ n3_ n4_; clear hb hbox hg; have hcz37_0 : w36.cell? ⟨gb423, 0, none⟩ = some (.int .i64 0) := (blk_cell BK423.out 0).trans rfl; have hcz37_1 : w36.cell? ⟨gb423, 1, none⟩ = some (.int .i64 0) := (blk_cell BK423.out 1).trans rfl; have hcz37_2 : w36.cell? ⟨gb423, 2, none⟩ = some (.int .i64 0) := (blk_cell BK423.out 2).trans rfl; have hfz37_0 := blk_frozen BK423.out 0; have hfz37_1 := blk_frozen BK423.out 1; have hfz37_2 := blk_frozen BK423.out 2; have p424 : 0 ≤ (x6_1 : Int) := of_decide_eq_true pA; have q424 : x6_1 < (x5_2.length : Int) := of_decide_eq_true pA; obtain ⟨ad424, e424, hx424_0⟩ := Kd.at_bool (Kd.R_reads' HO_5.out).2.2 x6_1 p424 q424; (try rw [← Nbq22.out] at hx424_0); obtain rfl : (⟨go8, 0, none⟩ : Addr) = ad424 := (by injection e424); (first | simp only [add_plain] at hx424_0 | simp only [add_at] at hx424_0 | simp only [Addr.add, Nat.zero_add] at hx424_0 | skip); have hn424_0 : (⟨go8, 0, none⟩ : Addr).block ≠ gb423 := Kd.own_blk (Kd.R_ne HO_5.out BK423.out (by decide)); have hn424_1 : (⟨go8, 0, none⟩ : Addr).block ≠ gb423 := Kd.own_blk (Kd.R_ne HO_5.out BK423.out (by decide)); have hn424_2 : (⟨go8, 0, none⟩ : Addr).block ≠ gb423 := Kd.own_blk (Kd.R_ne HO_5.out BK423.out (by decide)); replace hx424_0 := (cell_far (p := ⟨gb423, 0, none⟩) (by first | (rw [add_block]; exact hn424_0) | (show (Addr.add _ _).block ≠ _; rw [add_block]; exact hn424_0) | exact hn424_0) (.int .i64 ((rd_T55 ((rd_T29 l0 x6_1).f2) x30_2).f0))).trans hx424_0; replace hx424_0 := (cell_far (p := ⟨gb423, 1, none⟩) (by first | (rw [add_block]; exact hn424_1) | (show (Addr.add _ _).block ≠ _; rw [add_block]; exact hn424_1) | exact hn424_1) (.int .i64 ((rd_T55 ((rd_T29 l0 x6_1).f2) x30_2).f1))).trans hx424_0; replace hx424_0 := (cell_far (p := ⟨gb423, 2, none⟩) (by first | (rw [add_block]; exact hn424_2) | (show (Addr.add _ _).block ≠ _; rw [add_block]; exact hn424_2) | exact hn424_2) (.int .i64 ((rd_T55 ((rd_T29 l0 x6_1).f2) x30_2).f2))).trans hx424_0; clear hn424_0; clear hn424_1; clear hn424_2; replace p424 := eq_true p424; replace q424 := eq_true q424))
      (try simp only [← hl5_2])
      go_roundg k2
      case measure => have := HK1.out; have := HK2.out; omega
      case rel => exact ⟨(x5_2), (wrap64 (x30_2 + 1)), pF, H', ⟨by have := HK1.out; have := HK2.out; omega⟩, ⟨by (try simp only [hl5_1]); (try simp only [hl5_2]); (with_reducible repeat (first | apply Kd.R_alloc | apply Kd.R_drewN | apply Kd.R_drew)); exact Kd.R_mono (Kd.R_far (p := ⟨gb423, 2, none⟩) (Kd.R_far (p := ⟨gb423, 1, none⟩) (Kd.R_far (p := ⟨gb423, 0, none⟩) (Kd.R_types HO_5.out BK423.out (by decide)) (fun _ hk => hk.2) (.int .i64 ((rd_T55 ((rd_T29 l0 x6_1).f2) x30_2).f0))) (fun _ hk => hk.2) (.int .i64 ((rd_T55 ((rd_T29 l0 x6_1).f2) x30_2).f1))) (fun _ hk => hk.2) (.int .i64 ((rd_T55 ((rd_T29 l0 x6_1).f2) x30_2).f2))) (fun _ hk => trivial)⟩, ⟨pG GE423⟩⟩
     subst c23
     have H1 : (if ((rd_T55 ((rd_T29 l0 x6_1).f2) x30_2).f1) > 0 then ((impl_DishesFind.f l0 ((rd_T55 ((rd_T29 l0 x6_1).f2) x30_2).f1)).bind fun t425 => (if 0 ≤ t425 then (if t425 < (x5_2.length : Int) then (impl_inDish.l1 k2 l0 (x5_2.set (t425 : Int).toNat true) x6_1 ((rd_T29 l0 x6_1).f2) (((rd_T29 l0 x6_1).f2).length : Int) (wrap64 (x30_2 + 1))) else (none)) else (none))) else (impl_inDish.l1 k2 l0 x5_2 x6_1 ((rd_T29 l0 x6_1).f2) (((rd_T29 l0 x6_1).f2).length : Int) (wrap64 (x30_2 + 1)))) = some r := by rw [if_pos rfl] at H; exact H
     clear H
     have H := H1
     clear H1
     rcases (Classical.em (((rd_T55 ((rd_T29 l0 x6_1).f2) x30_2).f1) > 0)).symm with c24 | c24
     ·rw [if_neg c24] at H
      have c24b0 : decide (0 < ((rd_T55 ((rd_T29 l0 x6_1).f2) x30_2).f1)) = false := decide_eq_false c24
      clear c24
      have H' := Aside0.mk H
      clear H
      have p422 : 0 ≤ (x30_2 : Int) := of_decide_eq_true pA
      have q422 : x30_2 < (((rd_T29 l0 x6_1).f2).length : Int) := of_decide_eq_true pA
      obtain ⟨ad422, e422, hx422_0, hx422_1, hx422_2⟩ := at_T55 HR421_2.out x30_2 p422 q422
      cases e422
      replace hx422_0 := (HB.out.cell (World.block_lt_of_cell? w _ hx422_0)).trans hx422_0
      replace hx422_1 := (HB.out.cell (World.block_lt_of_cell? w _ hx422_1)).trans hx422_1
      replace hx422_2 := (HB.out.cell (World.block_lt_of_cell? w _ hx422_2)).trans hx422_2
      replace p422 := eq_true p422
      replace q422 := eq_true q422
      go_wp2_with (first | ((with_reducible refine gate_dst (N := 8) rfl ?_); refine box_event ?hg (N := 8) ?hd (cs := #[.int .i64 0, .int .i64 0, .int .i64 0]) (t := 55) ?hr ?_; (case hd => rfl); (case hg => rfl); (case hr => first | (go_simp; done) | (go_simp; rfl)); intro gb423 hg w34 hbox hb; have n0_ := Aside0.mk (Kd.R_below (pR HO_5) hb); have n1_ := Aside0.mk (below_step pB hb); have n2_ := Aside0.mk (hbox); have n3_ := Aside0.mk ((by rw [hg]; exact (below_size pB) : w.heap.size ≤ gb423)); have n4_ := Aside0.mk ((by rw [hg]; exact (below_size pB) : w.heap.size ≤ gb423)); clear HO_5; clear HB; have HO_5 := n0_; have HB := n1_; have BK423 := n2_; have GW423 := n3_; have GE423 := n4_; clear n0_ n1_ n2_ n3_ n4_; clear hb hbox hg; have hcz35_0 : w34.cell? ⟨gb423, 0, none⟩ = some (.int .i64 0) := (blk_cell BK423.out 0).trans rfl; have hcz35_1 : w34.cell? ⟨gb423, 1, none⟩ = some (.int .i64 0) := (blk_cell BK423.out 1).trans rfl; have hcz35_2 : w34.cell? ⟨gb423, 2, none⟩ = some (.int .i64 0) := (blk_cell BK423.out 2).trans rfl; have hfz35_0 := blk_frozen BK423.out 0; have hfz35_1 := blk_frozen BK423.out 1; have hfz35_2 := blk_frozen BK423.out 2; have p424 : 0 ≤ (x6_1 : Int) := of_decide_eq_true pA; have q424 : x6_1 < (x5_2.length : Int) := of_decide_eq_true pA; obtain ⟨ad424, e424, hx424_0⟩ := Kd.at_bool (Kd.R_reads' HO_5.out).2.2 x6_1 p424 q424; (try rw [← Nbq22.out] at hx424_0); obtain rfl : (⟨go8, 0, none⟩ : Addr) = ad424 := (by injection e424); (first | simp only [add_plain] at hx424_0 | simp only [add_at] at hx424_0 | simp only [Addr.add, Nat.zero_add] at hx424_0 | skip); have hn424_0 : (⟨go8, 0, none⟩ : Addr).block ≠ gb423 := Kd.own_blk (Kd.R_ne HO_5.out BK423.out (by decide)); have hn424_1 : (⟨go8, 0, none⟩ : Addr).block ≠ gb423 := Kd.own_blk (Kd.R_ne HO_5.out BK423.out (by decide)); have hn424_2 : (⟨go8, 0, none⟩ : Addr).block ≠ gb423 := Kd.own_blk (Kd.R_ne HO_5.out BK423.out (by decide)); replace hx424_0 := (cell_far (p := ⟨gb423, 0, none⟩) (by first | (rw [add_block]; exact hn424_0) | (show (Addr.add _ _).block ≠ _; rw [add_block]; exact hn424_0) | exact hn424_0) (.int .i64 ((rd_T55 ((rd_T29 l0 x6_1).f2) x30_2).f0))).trans hx424_0; replace hx424_0 := (cell_far (p := ⟨gb423, 1, none⟩) (by first | (rw [add_block]; exact hn424_1) | (show (Addr.add _ _).block ≠ _; rw [add_block]; exact hn424_1) | exact hn424_1) (.int .i64 ((rd_T55 ((rd_T29 l0 x6_1).f2) x30_2).f1))).trans hx424_0; replace hx424_0 := (cell_far (p := ⟨gb423, 2, none⟩) (by first | (rw [add_block]; exact hn424_2) | (show (Addr.add _ _).block ≠ _; rw [add_block]; exact hn424_2) | exact hn424_2) (.int .i64 ((rd_T55 ((rd_T29 l0 x6_1).f2) x30_2).f2))).trans hx424_0; clear hn424_0; clear hn424_1; clear hn424_2; replace p424 := eq_true p424; replace q424 := eq_true q424))
      (try simp only [← hl5_2])
      go_roundg k2
      case measure => have := HK1.out; have := HK2.out; omega
      case rel => exact ⟨(x5_2), (wrap64 (x30_2 + 1)), pF, H', ⟨by have := HK1.out; have := HK2.out; omega⟩, ⟨by (try simp only [hl5_1]); (try simp only [hl5_2]); (with_reducible repeat (first | apply Kd.R_alloc | apply Kd.R_drewN | apply Kd.R_drew)); exact Kd.R_mono (Kd.R_far (p := ⟨gb423, 2, none⟩) (Kd.R_far (p := ⟨gb423, 1, none⟩) (Kd.R_far (p := ⟨gb423, 0, none⟩) (Kd.R_types HO_5.out BK423.out (by decide)) (fun _ hk => hk.2) (.int .i64 ((rd_T55 ((rd_T29 l0 x6_1).f2) x30_2).f0))) (fun _ hk => hk.2) (.int .i64 ((rd_T55 ((rd_T29 l0 x6_1).f2) x30_2).f1))) (fun _ hk => hk.2) (.int .i64 ((rd_T55 ((rd_T29 l0 x6_1).f2) x30_2).f2))) (fun _ hk => trivial)⟩, ⟨pG GE423⟩⟩
     rw [if_pos c24] at H
     have c24b0 : decide (0 < ((rd_T55 ((rd_T29 l0 x6_1).f2) x30_2).f1)) = true := decide_eq_true c24
     clear c24
     replace H := Option.bind_eq_some_iff.mp H
     obtain ⟨t425, A250, H⟩ := H
     replace H : (if 0 ≤ t425 then (if t425 < (x5_2.length : Int) then (impl_inDish.l1 k2 l0 (x5_2.set (t425 : Int).toNat true) x6_1 ((rd_T29 l0 x6_1).f2) (((rd_T29 l0 x6_1).f2).length : Int) (wrap64 (x30_2 + 1))) else (none)) else (none)) = some r := H
     have A25 := Aside0.mk A250
     clear A250
     rcases (Classical.em (0 ≤ t425)).symm with c26 | c26
     ·rw [if_neg c26] at H
      exact absurd H (by simp)
     rw [if_pos c26] at H
     have c26b0 : decide (0 ≤ t425) = true := decide_eq_true c26
     clear c26
     rcases (Classical.em (t425 < (x5_2.length : Int))).symm with c27 | c27
     ·rw [if_neg c27] at H
      exact absurd H (by simp)
     rw [if_pos c27] at H
     have c27b0 : decide (t425 < (x5_2.length : Int)) = true := decide_eq_true c27
     clear c27
     obtain ⟨y426, hy426⟩ : ∃ y_ : List Bool, y_ = (x5_2.set (t425 : Int).toNat true) := ⟨_, rfl⟩
     replace H : (impl_inDish.l1 k2 l0 y426 x6_1 ((rd_T29 l0 x6_1).f2) (((rd_T29 l0 x6_1).f2).length : Int) (wrap64 (x30_2 + 1))) = some r := pJ hy426 H
     have Ny426 := Aside0.mk hy426
     clear hy426
     have H' := Aside0.mk H
     clear H
     have p422 : 0 ≤ (x30_2 : Int) := of_decide_eq_true pA
     have q422 : x30_2 < (((rd_T29 l0 x6_1).f2).length : Int) := of_decide_eq_true pA
     obtain ⟨ad422, e422, hx422_0, hx422_1, hx422_2⟩ := at_T55 HR421_2.out x30_2 p422 q422
     cases e422
     replace hx422_0 := (HB.out.cell (World.block_lt_of_cell? w _ hx422_0)).trans hx422_0
     replace hx422_1 := (HB.out.cell (World.block_lt_of_cell? w _ hx422_1)).trans hx422_1
     replace hx422_2 := (HB.out.cell (World.block_lt_of_cell? w _ hx422_2)).trans hx422_2
     replace p422 := eq_true p422
     replace q422 := eq_true q422
     go_wp2_with (first | ((with_reducible refine gate_dst (N := 8) rfl ?_); refine box_event ?hg (N := 8) ?hd (cs := #[.int .i64 0, .int .i64 0, .int .i64 0]) (t := 55) ?hr ?_; (case hd => rfl); (case hg => rfl); (case hr => first | (go_simp; done) | (go_simp; rfl)); intro gb423 hg w29 hbox hb; have n0_ := Aside0.mk (Kd.R_below (pR HO_5) hb); have n1_ := Aside0.mk (below_step pB hb); have n2_ := Aside0.mk (hbox); have n3_ := Aside0.mk ((by rw [hg]; exact (below_size pB) : w.heap.size ≤ gb423)); have n4_ := Aside0.mk ((by rw [hg]; exact (below_size pB) : w.heap.size ≤ gb423)); clear HO_5; clear HB; have HO_5 := n0_; have HB := n1_; have BK423 := n2_; have GW423 := n3_; have GE423 := n4_; clear n0_ n1_ n2_ n3_ n4_; clear hb hbox hg; have hcz30_0 : w29.cell? ⟨gb423, 0, none⟩ = some (.int .i64 0) := (blk_cell BK423.out 0).trans rfl; have hcz30_1 : w29.cell? ⟨gb423, 1, none⟩ = some (.int .i64 0) := (blk_cell BK423.out 1).trans rfl; have hcz30_2 : w29.cell? ⟨gb423, 2, none⟩ = some (.int .i64 0) := (blk_cell BK423.out 2).trans rfl; have hfz30_0 := blk_frozen BK423.out 0; have hfz30_1 := blk_frozen BK423.out 1; have hfz30_2 := blk_frozen BK423.out 2; have p424 : 0 ≤ (x6_1 : Int) := of_decide_eq_true pA; have q424 : x6_1 < (x5_2.length : Int) := of_decide_eq_true pA; obtain ⟨ad424, e424, hx424_0⟩ := Kd.at_bool (Kd.R_reads' HO_5.out).2.2 x6_1 p424 q424; (try rw [← Nbq22.out] at hx424_0); obtain rfl : (⟨go8, 0, none⟩ : Addr) = ad424 := (by injection e424); (first | simp only [add_plain] at hx424_0 | simp only [add_at] at hx424_0 | simp only [Addr.add, Nat.zero_add] at hx424_0 | skip); have hn424_0 : (⟨go8, 0, none⟩ : Addr).block ≠ gb423 := Kd.own_blk (Kd.R_ne HO_5.out BK423.out (by decide)); have hn424_1 : (⟨go8, 0, none⟩ : Addr).block ≠ gb423 := Kd.own_blk (Kd.R_ne HO_5.out BK423.out (by decide)); have hn424_2 : (⟨go8, 0, none⟩ : Addr).block ≠ gb423 := Kd.own_blk (Kd.R_ne HO_5.out BK423.out (by decide)); replace hx424_0 := (cell_far (p := ⟨gb423, 0, none⟩) (by first | (rw [add_block]; exact hn424_0) | (show (Addr.add _ _).block ≠ _; rw [add_block]; exact hn424_0) | exact hn424_0) (.int .i64 ((rd_T55 ((rd_T29 l0 x6_1).f2) x30_2).f0))).trans hx424_0; replace hx424_0 := (cell_far (p := ⟨gb423, 1, none⟩) (by first | (rw [add_block]; exact hn424_1) | (show (Addr.add _ _).block ≠ _; rw [add_block]; exact hn424_1) | exact hn424_1) (.int .i64 ((rd_T55 ((rd_T29 l0 x6_1).f2) x30_2).f1))).trans hx424_0; replace hx424_0 := (cell_far (p := ⟨gb423, 2, none⟩) (by first | (rw [add_block]; exact hn424_2) | (show (Addr.add _ _).block ≠ _; rw [add_block]; exact hn424_2) | exact hn424_2) (.int .i64 ((rd_T55 ((rd_T29 l0 x6_1).f2) x30_2).f2))).trans hx424_0; clear hn424_0; clear hn424_1; clear hn424_2; replace p424 := eq_true p424; replace q424 := eq_true q424) | ((with_reducible refine gate_callee (f := 20) rfl ?_); refine goesL_ (some 47) rfl rfl Try.func20 pL rfl #[.slice (some ad421) l0.length c0, .int .i64 ((rd_T55 ((rd_T29 l0 x6_1).f2) x30_2).f1)] rfl pM ?_; (with_reducible refine (impl_DishesFind.calls _ _ l0 ((rd_T55 ((rd_T29 l0 x6_1).f2) x30_2).f1) t425 _ ?side1 ?side2 A25.out).mono ?_); (case side1 => exact Kd.C_below HR0.out (pG GE423)); (case side2 => exact HC0.out); rintro e w31 ⟨rfl, hb⟩; refine ⟨_, rfl, ?_⟩; have n0_ := Aside0.mk (Kd.R_below (by (with_reducible repeat (first | apply Kd.R_alloc | apply Kd.R_drewN | apply Kd.R_drew)); exact (Kd.R_mono (Kd.R_far (p := ⟨gb423, 2, none⟩) (Kd.R_far (p := ⟨gb423, 1, none⟩) (Kd.R_far (p := ⟨gb423, 0, none⟩) (Kd.R_types HO_5.out BK423.out (by decide)) (fun _ hk => hk.2) (.int .i64 ((rd_T55 ((rd_T29 l0 x6_1).f2) x30_2).f0))) (fun _ hk => hk.2) (.int .i64 ((rd_T55 ((rd_T29 l0 x6_1).f2) x30_2).f1))) (fun _ hk => hk.2) (.int .i64 ((rd_T55 ((rd_T29 l0 x6_1).f2) x30_2).f2))) (fun _ h_ => h_.1))) hb); have n1_ := Aside0.mk (blk_below (g := gb423) (o := .cells #[.int .i64 ((rd_T55 ((rd_T29 l0 x6_1).f2) x30_2).f0), .int .i64 ((rd_T55 ((rd_T29 l0 x6_1).f2) x30_2).f1), .int .i64 ((rd_T55 ((rd_T29 l0 x6_1).f2) x30_2).f2)] 55 (0, 0)) (by (with_reducible repeat (first | refine blk_drewN ?_ _ | refine blk_drew ?_ | refine blk_alloc ?_ _)); refine blk_put (cs := #[.int .i64 ((rd_T55 ((rd_T29 l0 x6_1).f2) x30_2).f0), .int .i64 ((rd_T55 ((rd_T29 l0 x6_1).f2) x30_2).f1), .int .i64 0]) ?_ 2 _ rfl; (with_reducible repeat (first | refine blk_drewN ?_ _ | refine blk_drew ?_ | refine blk_alloc ?_ _)); refine blk_put (cs := #[.int .i64 ((rd_T55 ((rd_T29 l0 x6_1).f2) x30_2).f0), .int .i64 0, .int .i64 0]) ?_ 1 _ rfl; (with_reducible repeat (first | refine blk_drewN ?_ _ | refine blk_drew ?_ | refine blk_alloc ?_ _)); refine blk_put (cs := #[.int .i64 0, .int .i64 0, .int .i64 0]) ?_ 0 _ rfl; (with_reducible repeat (first | refine blk_drewN ?_ _ | refine blk_drew ?_ | refine blk_alloc ?_ _)); exact BK423.out) hb); have n2_ := Aside0.mk (below_step (pG GE423) hb); clear HO_5; clear BK423; clear HB; have HO_5 := n0_; have BK423 := n1_; have HB := n2_; clear n0_ n1_ n2_; (try clear hb); (try clear hb2); (try clear hk); (try clear hi); have p28 : 0 ≤ (t425 : Int) := of_decide_eq_true pA; have q28 : (t425 : Int) < ((x5_2.length : Int) : Int) := of_decide_eq_true pA; obtain ⟨hx28_0, hf28_0⟩ := Kd.R_celln false HO_5.out (t425 : Int) p28 q28; replace p28 := eq_true p28; replace q28 := eq_true q28; obtain ⟨hy32_, hz32_⟩ := Kd.R_celln false HO_5.out (t425 : Int) (of_decide_eq_true pA) (of_decide_eq_true pA); have HP32 := Kd.R_putg HO_5.out (t425 : Int) true) | ((with_reducible refine gate_store (t := 4) (p := 48) rfl ?_); refine store_event (t := 4) (p := 48) (v := ?vo_w33) (w1 := (w31.setCell ⟨go8, (t425 : Int).toNat, none⟩ (.bool true))) ?hg ?ho ?hn ?hr ?_; (case ho => rfl); (case hg => rfl); (case hn => rfl); (case hr => first | (go_simp; done) | (go_simp; rfl)); intro w33 hw; have hg : w31.grownBy w33 (some go8) := (by rw [hw]; exact HP32.2); have hp_ : Kd.R Kd.bool 4 w33 w.heap.size (fun _ => True) (.slice (some ⟨go8, 0, none⟩) x5_2.length co8) y426 := (by rw [hw, Ny426.out]; exact HP32.1); clear HP32; have n0_ := Aside0.mk (hp_); have n1_ := Aside0.mk (blk_grown (g := gb423) (o := .cells #[.int .i64 ((rd_T55 ((rd_T29 l0 x6_1).f2) x30_2).f0), .int .i64 ((rd_T55 ((rd_T29 l0 x6_1).f2) x30_2).f1), .int .i64 ((rd_T55 ((rd_T29 l0 x6_1).f2) x30_2).f2)] 55 (0, 0)) (pC BK423) hg (Kd.R_ne HO_5.out BK423.out (by decide))); have n2_ := Aside0.mk ((by rw [hw]; exact below_set (HB.out) GB8.out : Below w.heap.size w w33)); clear HO_5; clear BK423; clear HB; have HO_5 := n0_; have BK423 := n1_; have HB := n2_; clear n0_ n1_ n2_; clear hg hw hp_))
     (try simp only [← hl5_2])
     go_roundg k2
     case measure => have := HK1.out; have := HK2.out; omega
     case rel => exact ⟨(y426), (wrap64 (x30_2 + 1)), pF, H', ⟨by have := HK1.out; have := HK2.out; omega⟩, ⟨by (try simp only [hl5_1]); (try simp only [hl5_2]); (with_reducible repeat (first | apply Kd.R_alloc | apply Kd.R_drewN | apply Kd.R_drew)); exact HO_5.out⟩, ⟨pG GE423⟩⟩
end Go.Proofs.Ytclldijjbmnkeaa.Q
