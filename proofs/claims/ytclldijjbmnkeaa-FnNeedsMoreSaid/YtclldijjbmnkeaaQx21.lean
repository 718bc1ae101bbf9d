-- Written by the kit's print.py for all laws of the seat at once (one namespace), by a program of this session.
import Derived.Test.YtclldijjbmnkeaaQx0
import Derived.Test.YtclldijjbmnkeaaQx5
import Derived.Test.YtclldijjbmnkeaaQx10
import Derived.Test.YtclldijjbmnkeaaQx11
namespace Go.Proofs.Ytclldijjbmnkeaa.Q
open Go.RowKit Go.Proofs.YtclldijjbmnkeaaW.PrintWords Go.Proofs.YtclldijjbmnkeaaW.PrintLast Go.Proofs.YtclldijjbmnkeaaW.PrintMore
attribute [local go_sem] max2_int min2_int max_two min_two max_three min_three max_four min_four   -- for this text's walks alone
set_option linter.unusedVariables false
set_option linter.unusedSimpArgs false

/-! ### spec_l11Whole: function 73 -/
def spec_l11Whole.l0 : Nat → List (S29) → Int → Int → Option (Int)
 | 0, _, _, _ => none
 | k + 1, x0, x3, x4 => if x4 < (x0.length : Int) then (if 0 ≤ x4 then (spec_l11Whole.l0 k x0 (wrap64 (x3 * ((rd_T29 x0 x4).f1))) (wrap64 (x4 + 1))) else (none)) else (some x3)
def spec_l11Whole.f (k : Nat) (l0 : List (S29)) : Option (Int) := spec_l11Whole.l0 k l0 1 0
theorem spec_l11Whole.mono_l : ∀ k, (∀ y0 y1 y2, LeO (spec_l11Whole.l0 k y0 y1 y2) (spec_l11Whole.l0 (k + 1) y0 y1 y2))
 | 0 => fun _ _ _ r h => by simp [spec_l11Whole.l0] at h
 | k + 1 => by
  have ih0 := spec_l11Whole.mono_l k
  ·intro y0 y1 y2
   unfold spec_l11Whole.l0
   repeat' first
   | (with_reducible exact ih0 _ _ _)
   | (with_reducible exact LeO.refl _)
   | (with_reducible exact LeO.none _)
   | (with_reducible refine LeO.ite ?_ ?_)
   | (with_reducible refine LeO.bind ?_ (fun _ => ?_))
   | exact ih0 _ _ _
   | exact LeO.none _
   | refine LeO.ite ?_ ?_
   | refine LeO.bind ?_ (fun _ => ?_)
theorem spec_l11Whole.mono : ∀ a0 k, LeO (spec_l11Whole.f k a0) (spec_l11Whole.f (k + 1) a0) := by
 intro a0 k
 have ih0 := spec_l11Whole.mono_l k
 unfold spec_l11Whole.f
 repeat' first
   | (with_reducible exact ih0 _ _ _)
   | (with_reducible exact LeO.refl _)
   | (with_reducible exact LeO.none _)
   | (with_reducible refine LeO.ite ?_ ?_)
   | (with_reducible refine LeO.bind ?_ (fun _ => ?_))
   | exact ih0 _ _ _
   | exact LeO.none _
   | refine LeO.ite ?_ ?_
   | refine LeO.bind ?_ (fun _ => ?_)
set_option maxHeartbeats 8000000 in
set_option maxRecDepth 100000 in
theorem spec_l11Whole.calls (k : Nat) (A0 : Option Addr) (c0 : Nat) (l0 : List (S29)) (r : Int) (w : World) (hr0 : Kd.C k29 w A0 l0.length l0) (hc0 : l0.length ≤ c0) (h : spec_l11Whole.f k l0 = some r) :
  Calls Try.prog 73 #[.slice A0 l0.length c0] w fun e w' => e = .returned (.int .i64 r) ∧ Drawn0 w w' := by
 have HR0 := Aside0.mk hr0
 have HC0 := Aside0.mk hc0
 clear hr0 hc0
 have H : (spec_l11Whole.l0 k l0 1 0) = some r := h
 clear h
 have H' := Aside0.mk H
 clear H
 go_enter Try.func73, Try.ntmps73
 go_wp2
 go_loopg [3, 4] k (fun kq v3 v4 w' => ∃ (x3_1 : Int) (x4_1 : Int), v3 = .int .i64 x3_1 ∧ v4 = .int .i64 x4_1 ∧ Aside0 (spec_l11Whole.l0 kq l0 x3_1 x4_1 = some r) ∧ Aside0 (kq ≤ k) ∧ Drawn0 w w')
 case atStart => exact ⟨(1), (0), pF, pF, H', ⟨Nat.le_refl _⟩, by repeat (first | exact Drawn0.refl _ | apply Drawn0.step)⟩
 case round =>
  clear H'
  obtain ⟨x3_1, x4_1, rfl, rfl, HA, HK1, ⟨m1, rfl⟩⟩ := hrel
  cases gk with
  | zero => exact absurd HA.out (by simp [spec_l11Whole.l0])
  | succ k1 =>
   have H := HA.out
   clear HA
   simp only [spec_l11Whole.l0] at H
   rcases (Classical.em (x4_1 < (l0.length : Int))).symm with c2 | c2
   ·rw [if_neg c2] at H
    have c2b0 : decide (x4_1 < (l0.length : Int)) = false := decide_eq_false c2
    clear c2
    obtain rfl := Option.some.inj H
    go_wp2
    go_ret
    exact ⟨pF, by repeat (first | exact Drawn0.refl _ | apply Drawn0.step)⟩

   rw [if_pos c2] at H
   have c2b0 : decide (x4_1 < (l0.length : Int)) = true := decide_eq_true c2
   clear c2
   rcases (Classical.em (0 ≤ x4_1)).symm with c3 | c3
   ·rw [if_neg c3] at H
    exact absurd H (by simp)
   rw [if_pos c3] at H
   have c3b0 : decide (0 ≤ x4_1) = true := decide_eq_true c3
   clear c3
   have H' := Aside0.mk H
   clear H
   have p566 : 0 ≤ (x4_1 : Int) := of_decide_eq_true pA
   have q566 : x4_1 < (l0.length : Int) := of_decide_eq_true pA
   obtain ⟨ad566, A566_2, c566_2, e566, hx566_0, hx566_1, hx566_2, hl566_2, hi566_2⟩ := at_T29 HR0.out x4_1 p566 q566
   cases e566
   have HR566_2 := Aside0.mk (hi566_2)
   have HC566_2 := Aside0.mk hl566_2
   clear hi566_2 hl566_2
   replace p566 := eq_true p566
   replace q566 := eq_true q566
   go_wp2
   go_roundg k1
   case measure => have := HK1.out; omega
   case rel => exact ⟨(wrap64 (x3_1 * ((rd_T29 l0 x4_1).f1))), (wrap64 (x4_1 + 1)), pF, pF, H', ⟨by have := HK1.out; omega⟩, by repeat (first | exact Drawn0.refl _ | apply Drawn0.step)⟩
/-! ### spec_l11Add: function 74 -/
mutual
def spec_l11Add.l0 : Nat → List (S29) → List (S63) → Int → List Int → Int → Int → Int → List (S55) → Option (List Int)
 | 0, _, _, _, _, _, _, _, _ => none
 | k + 1, x0, x1, x3, x4, x12, x569000, x569001, x569002 => if x12 < (x569002.length : Int) then (if 0 ≤ x12 then (if x569001 = 0 then (none) else (if ((rd_T55 x569002 x12).f1) > 0 then ((spec_l11Find.f k x0 ((rd_T55 x569002 x12).f1)).bind fun t571 => ((spec_l11Add.f k x0 x1 t571 (wrap64 (Int.tdiv (wrap64 (x3 * ((rd_T55 x569002 x12).f2))) x569001)) x4).bind fun t572 => (spec_l11Add.l0 k x0 x1 x3 t572 (wrap64 (x12 + 1)) x569000 x569001 x569002))) else ((spec_l5Find.f k x1 ((rd_T55 x569002 x12).f0)).bind fun t575 => (if 0 ≤ t575 then (if t575 < (x4.length : Int) then (spec_l11Add.l0 k x0 x1 x3 (x4.set (t575 : Int).toNat (wrap64 ((rd x4 t575) + (wrap64 (Int.tdiv (wrap64 (x3 * ((rd_T55 x569002 x12).f2))) x569001))))) (wrap64 (x12 + 1)) x569000 x569001 x569002) else (none)) else (none))))) else (none)) else (some x4)
def spec_l11Add.f : Nat → List (S29) → List (S63) → Int → Int → List Int → Option (List Int)
 | 0, _, _, _, _, _ => none
 | k + 1, l0, l1, a2, a3, l4 => if 0 ≤ a2 then (if a2 < (l0.length : Int) then (spec_l11Add.l0 k l0 l1 a3 l4 0 ((rd_T29 l0 a2).f0) ((rd_T29 l0 a2).f1) ((rd_T29 l0 a2).f2)) else (none)) else (none)
end
theorem spec_l11Add.mono_l : ∀ k, (∀ y0 y1 y2 y3 y4, LeO (spec_l11Add.f k y0 y1 y2 y3 y4) (spec_l11Add.f (k + 1) y0 y1 y2 y3 y4)) ∧ (∀ y0 y1 y2 y3 y4 y5 y6 y7, LeO (spec_l11Add.l0 k y0 y1 y2 y3 y4 y5 y6 y7) (spec_l11Add.l0 (k + 1) y0 y1 y2 y3 y4 y5 y6 y7))
 | 0 => ⟨fun _ _ _ _ _ r h => by simp [spec_l11Add.f] at h, fun _ _ _ _ _ _ _ _ r h => by simp [spec_l11Add.l0] at h⟩
 | k + 1 => by
  obtain ⟨ih0, ih1⟩ := spec_l11Add.mono_l k
  refine ⟨?_, ?_⟩
  ·intro y0 y1 y2 y3 y4
   unfold spec_l11Add.f
   repeat' first
   | (with_reducible exact ih0 _ _ _ _ _)
   | (with_reducible exact ih1 _ _ _ _ _ _ _ _)
   | (with_reducible exact spec_l11Find.mono _ _ _)
   | (with_reducible exact spec_l5Find.mono _ _ _)
   | (with_reducible exact LeO.refl _)
   | (with_reducible exact LeO.none _)
   | (with_reducible refine LeO.ite ?_ ?_)
   | (with_reducible refine LeO.bind ?_ (fun _ => ?_))
   | exact ih0 _ _ _ _ _
   | exact ih1 _ _ _ _ _ _ _ _
   | exact spec_l11Find.mono _ _ _
   | exact spec_l5Find.mono _ _ _
   | exact LeO.none _
   | refine LeO.ite ?_ ?_
   | refine LeO.bind ?_ (fun _ => ?_)
  ·intro y0 y1 y2 y3 y4 y5 y6 y7
   unfold spec_l11Add.l0
   repeat' first
   | (with_reducible exact ih0 _ _ _ _ _)
   | (with_reducible exact ih1 _ _ _ _ _ _ _ _)
   | (with_reducible exact spec_l11Find.mono _ _ _)
   | (with_reducible exact spec_l5Find.mono _ _ _)
   | (with_reducible exact LeO.refl _)
   | (with_reducible exact LeO.none _)
   | (with_reducible refine LeO.ite ?_ ?_)
   | (with_reducible refine LeO.bind ?_ (fun _ => ?_))
   | exact ih0 _ _ _ _ _
   | exact ih1 _ _ _ _ _ _ _ _
   | exact spec_l11Find.mono _ _ _
   | exact spec_l5Find.mono _ _ _
   | exact LeO.none _
   | refine LeO.ite ?_ ?_
   | refine LeO.bind ?_ (fun _ => ?_)
theorem spec_l11Add.mono : ∀ a0 a1 a2 a3 a4 k, LeO (spec_l11Add.f k a0 a1 a2 a3 a4) (spec_l11Add.f (k + 1) a0 a1 a2 a3 a4) := by
 intro a0 a1 a2 a3 a4 k
 obtain ⟨ih0, ih1⟩ := spec_l11Add.mono_l k
 exact ih0 a0 a1 a2 a3 a4
theorem spec_l11Add.cLt_ {α : Type} {d : Kd α} {W : World} {A : Option Addr} {n : Nat} {xs : List α} (h : d.C W A n xs) {ad : Addr} (he : A = some ad) (hp : 0 < n) (hs : 0 < d.sz) : ad.block < W.heap.size := by
 subst he
 cases xs with
 | nil => exact absurd h.1 (by simp; omega)
 | cons x xs' =>
  obtain ⟨ad', c, e, hcl, _, hcc⟩ := Kd.C_get h x 0 (Int.le_refl 0) (by omega)
  injection e with e
  subst e
  have h4 := hcc 0 _ (List.getElem?_eq_getElem (by omega))
  have h5 := World.block_lt_of_cell? W _ h4
  rwa [add_block] at h5
theorem spec_l11Add.keptCell_ {α : Type} {d : Kd α} {w W W_ : World} {S : Nat → Prop} {ad : Addr} {n : Nat} {xs : List α} (h : ∀ W', Kept w W' S → d.C W' (some ad) n xs) (hs : 0 < d.sz) (hn : 0 < n) (hW : Kept w W S) (hW_ : Kept w W_ S) (a : Addr) (ha : a.block = ad.block) : W_.cell? a = W.cell? a := by
 have hlt : ad.block < w.heap.size := spec_l11Add.cLt_ (h w (Kept.refl w S)) rfl hn hs
 have hS : ¬ S ad.block := by
  intro hS
  have hk : Kept w { w with heap := w.heap.setIfInBounds ad.block (.cells #[] 0) } S := ⟨by simp, fun k _ hk => by
   have : ad.block ≠ k := fun e => hk (e ▸ hS)
   simp [this]⟩
  have hC := h _ hk
  cases xs with
  | nil => exact absurd hC.1 (by simp; omega)
  | cons x xs' =>
   obtain ⟨ad', c, e, hcl, _, hcc⟩ := Kd.C_get hC x 0 (Int.le_refl 0) (by omega)
   injection e with e
   subst e
   have h4 := hcc 0 _ (List.getElem?_eq_getElem (by omega))
   simp [World.cell?, add_block, hlt] at h4
 have e1 := hW.2 _ hlt hS
 have e2 := hW_.2 _ hlt hS
 rw [← ha] at e1 e2
 simp only [World.cell?, e1, e2]
theorem spec_l11Add.footIn_ {w W : World} {S : Nat → Prop} {ad : Addr} {n : Nat} {xs : List S29} (h : ∀ W', Kept w W' S → Kd.C k29 W' (some ad) n xs) (hW : Kept w W S) (i : Int) (h0 : 0 ≤ i) (h1 : i < n) {A2 : Option Addr} {c2 : Nat} (hx : W.cell? ⟨(ad.add (i.toNat * 3)).block, (ad.add (i.toNat * 3)).off + 2, none⟩ = some (.slice A2 (rd_T29 xs i).f2.length c2)) : ∀ W', Kept w W' S → Kd.C k55 W' A2 (rd_T29 xs i).f2.length (rd_T29 xs i).f2 := by
 intro W_ hK
 obtain ⟨ad_, A_, c_, e_, _, _, hx_, _, hi_⟩ := at_T29 (h W_ hK) i h0 h1
 injection e_ with e_
 subst e_
 rw [spec_l11Add.keptCell_ h (by decide) (by omega) hW hK _ (by rw [add_block])] at hx_
 rw [hx_] at hx
 injection hx with hx
 injection hx with hx
 subst hx
 exact hi_
theorem F74.q0 {P : Prop} (h : P := by repeat (first | (with_reducible first | exact HK.out | apply Kept.alloc | apply Kept.drewN | apply Kept.drew | refine Kept.setCell ?_ (.inr GW568.out) _ | refine Kept.setCell ?_ (.inr GW570.out) _) | exact HK.out)) : P := h
theorem F74.q1 {P : Prop} (h : P := by (with_reducible repeat (first | refine blk_drewN ?_ _ | refine blk_drew ?_ | refine blk_alloc ?_ _)); refine blk_put (cs := #[.int .i64 ((rd_T55 ((rd_T29 l0 a2).f2) x12_1).f0), .int .i64 ((rd_T55 ((rd_T29 l0 a2).f2) x12_1).f1), .int .i64 0]) ?_ 2 _ rfl; (with_reducible repeat (first | refine blk_drewN ?_ _ | refine blk_drew ?_ | refine blk_alloc ?_ _)); refine blk_put (cs := #[.int .i64 ((rd_T55 ((rd_T29 l0 a2).f2) x12_1).f0), .int .i64 0, .int .i64 0]) ?_ 1 _ rfl; (with_reducible repeat (first | refine blk_drewN ?_ _ | refine blk_drew ?_ | refine blk_alloc ?_ _)); refine blk_put (cs := #[.int .i64 0, .int .i64 0, .int .i64 0]) ?_ 0 _ rfl; (with_reducible repeat (first | refine blk_drewN ?_ _ | refine blk_drew ?_ | refine blk_alloc ?_ _)); exact BK570.out) : P := h
theorem F74.q2 {P : Prop} (h : P := by repeat (first | (with_reducible first | exact HB.out | apply below_alloc | apply pw_below_drewN | apply below_drew1 | refine below_set ?_ GE568.out | refine below_set ?_ GE570.out) | exact HB.out)) : P := h
theorem F74.q3 {P : Prop} (h : P := by (with_reducible repeat (first | refine blk_drewN ?_ _ | refine blk_drew ?_ | refine blk_alloc ?_ _)); refine blk_far ?_ NB568_570.out _; (with_reducible repeat (first | refine blk_drewN ?_ _ | refine blk_drew ?_ | refine blk_alloc ?_ _)); refine blk_far ?_ NB568_570.out _; (with_reducible repeat (first | refine blk_drewN ?_ _ | refine blk_drew ?_ | refine blk_alloc ?_ _)); refine blk_far ?_ NB568_570.out _; (with_reducible repeat (first | refine blk_drewN ?_ _ | refine blk_drew ?_ | refine blk_alloc ?_ _)); exact BK568.out) : P := h
theorem F74.q4 {P : Prop} (h : P := by (with_reducible repeat (first | apply Kd.R_alloc | apply Kd.R_drewN | apply Kd.R_drew)); exact Kd.R_mono (Kd.R_far (p := ⟨gb570, 2, none⟩) (Kd.R_far (p := ⟨gb570, 1, none⟩) (Kd.R_far (p := ⟨gb570, 0, none⟩) (Kd.R_types HO_4.out BK570.out (by decide)) (fun _ hk => hk.2) (.int .i64 ((rd_T55 ((rd_T29 l0 a2).f2) x12_1).f0))) (fun _ hk => hk.2) (.int .i64 ((rd_T55 ((rd_T29 l0 a2).f2) x12_1).f1))) (fun _ hk => hk.2) (.int .i64 ((rd_T55 ((rd_T29 l0 a2).f2) x12_1).f2))) (fun _ hk => hk.1)) : P := h
set_option maxHeartbeats 8000000 in
set_option maxRecDepth 100000 in
theorem spec_l11Add.calls (k : Nat) : ∀ (A0 : Option Addr) (c0 : Nat) (l0 : List (S29)) (A1 : Option Addr) (c1 : Nat) (l1 : List (S63)) (a2 : Int) (a3 : Int) (P4_ : Nat → Prop) (u9000_ : Value) (l4 : List Int) (r : List Int) (w0 w : World) (hB : Below w0.heap.size w0 w) (hr0 : ∀ W_, Kept w W_ (fun k_ => P4_ k_) → Kd.C k29 W_ A0 l0.length l0) (hc0 : l0.length ≤ c0) (hr1 : ∀ W_, Kept w W_ (fun k_ => P4_ k_) → Kd.C k63 W_ A1 l1.length l1) (hc1 : l1.length ≤ c1) (ho4 : Kd.R (Kd.int .i64) 3 w w0.heap.size P4_ u9000_ l4) (h : spec_l11Add.f k l0 l1 a2 a3 l4 = some r),
  Calls Try.prog 74 #[.slice A0 l0.length c0, .slice A1 l1.length c1, .int .i64 a2, .int .i64 a3, u9000_] w fun e w' => ∃ v0_ : Value, e = .returned (v0_) ∧ Kd.R (Kd.int .i64) 3 w' w0.heap.size (fun k_ => (P4_ k_ ∨ w.heap.size ≤ k_)) v0_ r ∧ Below w0.heap.size w0 w' ∧ Kept w w' (fun k_ => P4_ k_) := by
 induction k using Nat.strongRecOn with
 | _ k ih =>
 intro A0 c0 l0 A1 c1 l1 a2 a3 P4_ u9000_ l4 r w0 w hB hr0 hc0 hr1 hc1 ho4 h
 cases k with
 | zero => exact absurd h (by simp [spec_l11Add.f])
 | succ k =>
 simp only [spec_l11Add.f] at h
 have hu29 := Try.underlying29
 have hu55 := Try.underlying55
 have HR0 := Aside0.mk hr0
 have HC0 := Aside0.mk hc0
 clear hr0 hc0
 have HR1 := Aside0.mk hr1
 have HC1 := Aside0.mk hc1
 clear hr1 hc1
 have HO4 := Aside0.mk (show Kd.R (Kd.int .i64) 3 w w0.heap.size (fun k_ => (P4_ k_ ∨ w.heap.size ≤ k_)) u9000_ l4 from Kd.R_mono ho4 (fun k_ hk => (.inl hk)))
 have HK := Aside0.mk (Kept.refl w (fun k_ => P4_ k_))
 have HW0 := Aside0.mk hB.size
 have HB := Aside0.mk hB
 clear hB
 have H : (if 0 ≤ a2 then (if a2 < (l0.length : Int) then (spec_l11Add.l0 k l0 l1 a3 l4 0 ((rd_T29 l0 a2).f0) ((rd_T29 l0 a2).f1) ((rd_T29 l0 a2).f2)) else (none)) else (none)) = some r := h
 clear h
 rcases (Classical.em (0 ≤ a2)).symm with c6 | c6
 ·rw [if_neg c6] at H
  exact absurd H (by simp)

 rw [if_pos c6] at H
 have c6b0 : decide (0 ≤ a2) = true := decide_eq_true c6
 clear c6
 rcases (Classical.em (a2 < (l0.length : Int))).symm with c7 | c7
 ·rw [if_neg c7] at H
  exact absurd H (by simp)
 rw [if_pos c7] at H
 have c7b0 : decide (a2 < (l0.length : Int)) = true := decide_eq_true c7
 clear c7
 have H' := Aside0.mk H
 clear H
 have p567 : 0 ≤ (a2 : Int) := of_decide_eq_true pA
 have q567 : a2 < (l0.length : Int) := of_decide_eq_true pA
 obtain ⟨ad567, A567_2, c567_2, e567, hx567_0, hx567_1, hx567_2, hl567_2, hi567_2⟩ := at_T29 (Kd.C_kept_now HR0.out HK.out) a2 p567 q567
 cases e567
 have HR567_2 := Aside0.mk (spec_l11Add.footIn_ HR0.out (HK.out) a2 p567 q567 hx567_2)
 have HC567_2 := Aside0.mk hl567_2
 clear hi567_2 hl567_2
 replace p567 := eq_true p567
 replace q567 := eq_true q567
 go_enter Try.func74, Try.ntmps74
 go_wp2_with (first | ((with_reducible refine gate_dst (N := 11) rfl ?_); refine box_event ?hg (N := 11) ?hd (cs := #[.int .i64 0, .int .i64 0, .slice none 0 0]) (t := 29) ?hr ?_; (case hd => rfl); (case hg => rfl); (case hr => first | (go_simp; done) | (go_simp; rfl)); intro gb568 hg w8 hbox hb; have n0_ := Aside0.mk (Kd.R_below (pR HO4) hb); have n1_ := Aside0.mk (Kept.below (S := (fun k_ => P4_ k_)) (by repeat (first | (with_reducible first | exact HK.out | apply Kept.alloc | apply Kept.drewN | apply Kept.drew) | exact HK.out)) hb); have n2_ := Aside0.mk (below_step pB hb); have n3_ := Aside0.mk (hbox); have n4_ := Aside0.mk ((by rw [hg]; exact (by first | exact HK.out.1 | exact (show Kept w _ (fun k_ => P4_ k_) from by repeat (first | (with_reducible first | exact HK.out | apply Kept.alloc | apply Kept.drewN | apply Kept.drew) | exact HK.out)).1) : w.heap.size ≤ gb568)); have n5_ := Aside0.mk ((by rw [hg]; exact (below_size pB) : w0.heap.size ≤ gb568)); clear HO4; clear HK; clear HB; have HO4 := n0_; have HK := n1_; have HB := n2_; have BK568 := n3_; have GW568 := n4_; have GE568 := n5_; clear n0_ n1_ n2_ n3_ n4_ n5_; clear hb hbox hg; have hcz9_0 : w8.cell? ⟨gb568, 0, none⟩ = some (.int .i64 0) := (blk_cell BK568.out 0).trans rfl; have hcz9_1 : w8.cell? ⟨gb568, 1, none⟩ = some (.int .i64 0) := (blk_cell BK568.out 1).trans rfl; have hcz9_2 : w8.cell? ⟨gb568, 2, none⟩ = some (.slice none 0 0) := (blk_cell BK568.out 2).trans rfl; have hfz9_0 := blk_frozen BK568.out 0; have hfz9_1 := blk_frozen BK568.out 1; have hfz9_2 := blk_frozen BK568.out 2))
 go_loopg [4, 12] k (fun kq v4 v12 w' => ∃ (x4_1 : List Int) (x12_1 : Int), v12 = .int .i64 x12_1 ∧ Aside0 (spec_l11Add.l0 kq l0 l1 a3 x4_1 x12_1 ((rd_T29 l0 a2).f0) ((rd_T29 l0 a2).f1) ((rd_T29 l0 a2).f2) = some r) ∧ Aside0 (kq ≤ k) ∧ Aside0 (Kd.R (Kd.int .i64) 3 w' w0.heap.size (fun k_ => (P4_ k_ ∨ w.heap.size ≤ k_)) v4 x4_1) ∧ Aside0 (w'.heap[gb568]? = some (.cells #[.int .i64 ((rd_T29 l0 a2).f0), .int .i64 ((rd_T29 l0 a2).f1), (.slice A567_2 ((rd_T29 l0 a2).f2).length c567_2)] 29 (0, 0))) ∧ Aside0 (Kept w w' (fun k_ => P4_ k_)) ∧ Aside0 (Below w0.heap.size w0 w'))
 case atStart => exact ⟨(l4), (0), pF, H', ⟨Nat.le_refl _⟩, ⟨by (with_reducible repeat (first | apply Kd.R_alloc | apply Kd.R_drewN | apply Kd.R_drew)); exact Kd.R_mono (Kd.R_far (p := ⟨gb568, 2, none⟩) (Kd.R_far (p := ⟨gb568, 1, none⟩) (Kd.R_far (p := ⟨gb568, 0, none⟩) (Kd.R_types HO4.out BK568.out (by decide)) (fun _ hk => hk.2) (.int .i64 ((rd_T29 l0 a2).f0))) (fun _ hk => hk.2) (.int .i64 ((rd_T29 l0 a2).f1))) (fun _ hk => hk.2) (.slice A567_2 ((rd_T29 l0 a2).f2).length c567_2)) (fun _ hk => hk.1)⟩, ⟨by (with_reducible repeat (first | refine blk_drewN ?_ _ | refine blk_drew ?_ | refine blk_alloc ?_ _)); refine blk_put (cs := #[.int .i64 ((rd_T29 l0 a2).f0), .int .i64 ((rd_T29 l0 a2).f1), .slice none 0 0]) ?_ 2 _ rfl; (with_reducible repeat (first | refine blk_drewN ?_ _ | refine blk_drew ?_ | refine blk_alloc ?_ _)); refine blk_put (cs := #[.int .i64 ((rd_T29 l0 a2).f0), .int .i64 0, .slice none 0 0]) ?_ 1 _ rfl; (with_reducible repeat (first | refine blk_drewN ?_ _ | refine blk_drew ?_ | refine blk_alloc ?_ _)); refine blk_put (cs := #[.int .i64 0, .int .i64 0, .slice none 0 0]) ?_ 0 _ rfl; (with_reducible repeat (first | refine blk_drewN ?_ _ | refine blk_drew ?_ | refine blk_alloc ?_ _)); exact BK568.out⟩, ⟨pH GW568⟩, ⟨pG GE568⟩⟩
 case round =>
  clear H'
  try clear c1
  try clear p2
  try clear c5
  try clear p5
  try clear q5
  try clear hx5
  try clear c6
  try clear c6b0
  try clear c7
  try clear c7b0
  try clear hcz9_0
  try clear hcz9_1
  try clear hcz9_2
  try clear hfz9_0
  try clear hfz9_1
  try clear hfz9_2
  try clear hx567_0
  try clear hx567_1
  try clear hx567_2
  try clear p567
  try clear q567
  obtain ⟨x4_1, x12_1, rfl, HA, HK1, HO_4, BK568, HK, HB⟩ := hrel
  cases gk with
  | zero => exact absurd HA.out (by simp [spec_l11Add.l0])
  | succ k1 =>
   have H := HA.out
   clear HA
   simp only [spec_l11Add.l0] at H
   rcases (Classical.em (x12_1 < (((rd_T29 l0 a2).f2).length : Int))).symm with c10 | c10
   ·rw [if_neg c10] at H
    have c10b0 : decide (x12_1 < (((rd_T29 l0 a2).f2).length : Int)) = false := decide_eq_false c10
    clear c10
    obtain rfl := Option.some.inj H
    have hcz39_0 : wr.cell? ⟨gb568, 0, none⟩ = some (.int .i64 ((rd_T29 l0 a2).f0)) := (blk_cell BK568.out 0).trans rfl
    have hcz39_1 : wr.cell? ⟨gb568, 1, none⟩ = some (.int .i64 ((rd_T29 l0 a2).f1)) := (blk_cell BK568.out 1).trans rfl
    have hcz39_2 : wr.cell? ⟨gb568, 2, none⟩ = some (.slice A567_2 ((rd_T29 l0 a2).f2).length c567_2) := (blk_cell BK568.out 2).trans rfl
    have hfz39_0 := blk_frozen BK568.out 0
    have hfz39_1 := blk_frozen BK568.out 1
    have hfz39_2 := blk_frozen BK568.out 2
    go_wp2
    go_ret
    exact ⟨_, pE, pR HO_4, pG GE568, pH GW568⟩
   rw [if_pos c10] at H
   have c10b0 : decide (x12_1 < (((rd_T29 l0 a2).f2).length : Int)) = true := decide_eq_true c10
   clear c10
   rcases (Classical.em (0 ≤ x12_1)).symm with c11 | c11
   ·rw [if_neg c11] at H
    exact absurd H (by simp)
   rw [if_pos c11] at H
   have c11b0 : decide (0 ≤ x12_1) = true := decide_eq_true c11
   clear c11
   by_cases c12 : ((rd_T29 l0 a2).f1) = 0
   ·rw [if_pos c12] at H
    exact absurd H (by simp)
   rw [if_neg c12] at H
   have c12b0 : (((rd_T29 l0 a2).f1) == 0) = false := beq_eq_false_iff_ne.mpr c12
   have c12b1 : (((rd_T29 l0 a2).f1) != 0) = true := bne_iff_ne.mpr c12
   by_cases c13 : ((rd_T55 ((rd_T29 l0 a2).f2) x12_1).f1) > 0
   ·rw [if_pos c13] at H
    have c13b0 : decide (0 < ((rd_T55 ((rd_T29 l0 a2).f2) x12_1).f1)) = true := decide_eq_true c13
    clear c13
    replace H := Option.bind_eq_some_iff.mp H
    obtain ⟨t571, A140, H⟩ := H
    replace H : ((spec_l11Add.f k1 l0 l1 t571 (wrap64 (Int.tdiv (wrap64 (a3 * ((rd_T55 ((rd_T29 l0 a2).f2) x12_1).f2))) ((rd_T29 l0 a2).f1))) x4_1).bind fun t572 => (spec_l11Add.l0 k1 l0 l1 a3 t572 (wrap64 (x12_1 + 1)) ((rd_T29 l0 a2).f0) ((rd_T29 l0 a2).f1) ((rd_T29 l0 a2).f2))) = some r := H
    have A14 := Aside0.mk A140
    clear A140
    replace H := Option.bind_eq_some_iff.mp H
    obtain ⟨t572, A150, H⟩ := H
    replace H : (spec_l11Add.l0 k1 l0 l1 a3 t572 (wrap64 (x12_1 + 1)) ((rd_T29 l0 a2).f0) ((rd_T29 l0 a2).f1) ((rd_T29 l0 a2).f2)) = some r := H
    have A15 := Aside0.mk A150
    clear A150
    have H' := Aside0.mk H
    clear H
    have hcz16_0 : wr.cell? ⟨gb568, 0, none⟩ = some (.int .i64 ((rd_T29 l0 a2).f0)) := (blk_cell BK568.out 0).trans rfl
    have hcz16_1 : wr.cell? ⟨gb568, 1, none⟩ = some (.int .i64 ((rd_T29 l0 a2).f1)) := (blk_cell BK568.out 1).trans rfl
    have hcz16_2 : wr.cell? ⟨gb568, 2, none⟩ = some (.slice A567_2 ((rd_T29 l0 a2).f2).length c567_2) := (blk_cell BK568.out 2).trans rfl
    have hfz16_0 := blk_frozen BK568.out 0
    have hfz16_1 := blk_frozen BK568.out 1
    have hfz16_2 := blk_frozen BK568.out 2
    have p569 : 0 ≤ (x12_1 : Int) := of_decide_eq_true pA
    have q569 : x12_1 < (((rd_T29 l0 a2).f2).length : Int) := of_decide_eq_true pA
    obtain ⟨ad569, e569, hx569_0, hx569_1, hx569_2⟩ := at_T55 (Kd.C_kept_now HR567_2.out HK.out) x12_1 p569 q569
    cases e569
    replace p569 := eq_true p569
    replace q569 := eq_true q569
    go_wp2_with (first | ((with_reducible refine gate_dst (N := 13) rfl ?_); refine box_event ?hg (N := 13) ?hd (cs := #[.int .i64 0, .int .i64 0, .int .i64 0]) (t := 55) ?hr ?_; (case hd => rfl); (case hg => rfl); (case hr => first | (go_simp; done) | (go_simp; rfl)); intro gb570 hg w17 hbox hb; have n0_ := Aside0.mk (Kd.R_below (pR HO_4) hb); have n1_ := Aside0.mk (blk_below (g := gb568) (o := .cells #[.int .i64 ((rd_T29 l0 a2).f0), .int .i64 ((rd_T29 l0 a2).f1), .slice (some ad569) ((rd_T29 l0 a2).f2).length c567_2] 29 (0, 0)) (pC BK568) hb); have n2_ := Aside0.mk (Kept.below (S := (fun k_ => P4_ k_)) (pH GW568) hb); have n3_ := Aside0.mk (below_step (pG GE568) hb); have n4_ := Aside0.mk (hbox); have n5_ := Aside0.mk ((by rw [hg]; exact (by first | exact HK.out.1 | exact (show Kept w _ (fun k_ => P4_ k_) from by repeat (first | (with_reducible first | exact HK.out | apply Kept.alloc | apply Kept.drewN | apply Kept.drew | refine Kept.setCell ?_ (.inr GW568.out) _) | exact HK.out)).1) : w.heap.size ≤ gb570)); have n6_ := Aside0.mk ((by rw [hg]; exact (below_size (pG GE568)) : w0.heap.size ≤ gb570)); have n7_ := Aside0.mk ((by rw [hg]; exact Nat.ne_of_lt (blk_lt (g := gb568) (o := .cells #[.int .i64 ((rd_T29 l0 a2).f0), .int .i64 ((rd_T29 l0 a2).f1), .slice (some ad569) ((rd_T29 l0 a2).f2).length c567_2] 29 (0, 0)) (pC BK568)) : gb568 ≠ gb570)); have n8_ := Aside0.mk ((by rw [hg]; exact Nat.ne_of_gt (blk_lt (g := gb568) (o := .cells #[.int .i64 ((rd_T29 l0 a2).f0), .int .i64 ((rd_T29 l0 a2).f1), .slice (some ad569) ((rd_T29 l0 a2).f2).length c567_2] 29 (0, 0)) (pC BK568)) : gb570 ≠ gb568)); clear HO_4; clear BK568; clear HK; clear HB; have HO_4 := n0_; have BK568 := n1_; have HK := n2_; have HB := n3_; have BK570 := n4_; have GW570 := n5_; have GE570 := n6_; have NB568_570 := n7_; have NB570_568 := n8_; clear n0_ n1_ n2_ n3_ n4_ n5_ n6_ n7_ n8_; clear hb hbox hg; have hnb18 := NB570_568.out; have hnc18 := NB568_570.out; have hcz19_0 : w17.cell? ⟨gb570, 0, none⟩ = some (.int .i64 0) := (blk_cell BK570.out 0).trans rfl; have hcz19_1 : w17.cell? ⟨gb570, 1, none⟩ = some (.int .i64 0) := (blk_cell BK570.out 1).trans rfl; have hcz19_2 : w17.cell? ⟨gb570, 2, none⟩ = some (.int .i64 0) := (blk_cell BK570.out 2).trans rfl; have hfz19_0 := blk_frozen BK570.out 0; have hfz19_1 := blk_frozen BK570.out 1; have hfz19_2 := blk_frozen BK570.out 2) | ((with_reducible refine gate_store (t := 55) (p := 13) rfl ?_); refine store_event (t := 55) (p := 13) (v := ?vo_w20) (w1 := (((w17.setCell ⟨gb570, 0, none⟩ (.int .i64 ((rd_T55 ((rd_T29 l0 a2).f2) x12_1).f0))).setCell ⟨gb570, 1, none⟩ (.int .i64 ((rd_T55 ((rd_T29 l0 a2).f2) x12_1).f1))).setCell ⟨gb570, 2, none⟩ (.int .i64 ((rd_T55 ((rd_T29 l0 a2).f2) x12_1).f2)))) ?hg ?ho ?hn ?hr ?_; (case ho => rfl); (case hg => rfl); (case hn => rfl); (case hr => first | (go_simp; done) | (go_simp; rfl)); intro w20 hw; have n0_ : Aside0 (Kd.R (Kd.int .i64) 3 w20 w0.heap.size (fun k_ => (P4_ k_ ∨ w.heap.size ≤ k_)) u4 x4_1) := ⟨(by rw [hw]; exact F74.q4)⟩; have n1_ : Aside0 (w20.heap[gb568]? = some (.cells #[.int .i64 ((rd_T29 l0 a2).f0), .int .i64 ((rd_T29 l0 a2).f1), .slice (some ad569) ((rd_T29 l0 a2).f2).length c567_2] 29 (0, 0))) := ⟨(by rw [hw]; exact F74.q3)⟩; have n2_ : Aside0 (w20.heap[gb570]? = some (.cells #[.int .i64 ((rd_T55 ((rd_T29 l0 a2).f2) x12_1).f0), .int .i64 ((rd_T55 ((rd_T29 l0 a2).f2) x12_1).f1), .int .i64 ((rd_T55 ((rd_T29 l0 a2).f2) x12_1).f2)] 55 (0, 0))) := ⟨(by rw [hw]; exact F74.q1)⟩; have n3_ : Aside0 (Kept w w20 (fun k_ => P4_ k_)) := ⟨(by rw [hw]; exact F74.q0)⟩; have n4_ : Aside0 (Below w0.heap.size w0 w20) := ⟨(by rw [hw]; exact F74.q2)⟩; clear hw; clear HO_4; clear BK568; clear BK570; clear HK; clear HB; have HO_4 := n0_; have BK568 := n1_; have BK570 := n2_; have HK := n3_; have HB := n4_; clear n0_ n1_ n2_ n3_ n4_; have hcz21_0 : w20.cell? ⟨gb570, 0, none⟩ = some (.int .i64 ((rd_T55 ((rd_T29 l0 a2).f2) x12_1).f0)) := (blk_cell BK570.out 0).trans rfl; have hcz21_1 : w20.cell? ⟨gb570, 1, none⟩ = some (.int .i64 ((rd_T55 ((rd_T29 l0 a2).f2) x12_1).f1)) := (blk_cell BK570.out 1).trans rfl; have hcz21_2 : w20.cell? ⟨gb570, 2, none⟩ = some (.int .i64 ((rd_T55 ((rd_T29 l0 a2).f2) x12_1).f2)) := (blk_cell BK570.out 2).trans rfl; have hfz21_0 := blk_frozen BK570.out 0; have hfz21_1 := blk_frozen BK570.out 1; have hfz21_2 := blk_frozen BK570.out 2; have hcz22_0 : w20.cell? ⟨gb568, 0, none⟩ = some (.int .i64 ((rd_T29 l0 a2).f0)) := (blk_cell BK568.out 0).trans rfl; have hcz22_1 : w20.cell? ⟨gb568, 1, none⟩ = some (.int .i64 ((rd_T29 l0 a2).f1)) := (blk_cell BK568.out 1).trans rfl; have hcz22_2 : w20.cell? ⟨gb568, 2, none⟩ = some (.slice (some ad569) ((rd_T29 l0 a2).f2).length c567_2) := (blk_cell BK568.out 2).trans rfl; have hfz22_0 := blk_frozen BK568.out 0; have hfz22_1 := blk_frozen BK568.out 1; have hfz22_2 := blk_frozen BK568.out 2) | ((with_reducible refine gate_callee (f := 58) rfl ?_); refine goesL_ (some 47) rfl rfl Try.func58 pL rfl #[.slice (some ad567) l0.length c0, .int .i64 ((rd_T55 ((rd_T29 l0 a2).f2) x12_1).f1)] rfl pM ?_; (with_reducible refine (spec_l11Find.calls k1 _ _ l0 ((rd_T55 ((rd_T29 l0 a2).f2) x12_1).f1) t571 _ ?side1 ?side2 A14.out).mono ?_); (case side1 => exact Kd.C_kept_now HR0.out F74.q0); (case side2 => exact HC0.out); rintro e w' ⟨rfl, ⟨nd, rfl⟩⟩; refine ⟨_, rfl, ?_⟩; obtain ⟨Ao23, co23, eo23⟩ := Kd.R_slice HO_4.out; subst eo23) | ((with_reducible refine gate_callee (f := 74) rfl ?_); refine goesL_ (some 50) rfl rfl Try.func74 pL rfl #[.slice (some ad567) l0.length c0, .slice A1 l1.length c1, .int .i64 t571, .int .i64 (wrap64 (Int.tdiv (wrap64 (a3 * ((rd_T55 ((rd_T29 l0 a2).f2) x12_1).f2))) ((rd_T29 l0 a2).f1))), .slice Ao23 x4_1.length co23] rfl pM ?_; (with_reducible refine (ih k1 (by have := HK1.out; omega) _ _ l0 _ _ l1 t571 (wrap64 (Int.tdiv (wrap64 (a3 * ((rd_T55 ((rd_T29 l0 a2).f2) x12_1).f2))) ((rd_T29 l0 a2).f1))) (fun k_ => some k_ = (.slice Ao23 x4_1.length co23 : Value).ownBlock) (.slice Ao23 x4_1.length co23) x4_1 t572 w0 _ ?side1 ?side2 ?side3 ?side4 ?side5 ?side6 A15.out).mono ?_); (case side1 => exact F74.q2); (case side2 => exact Kd.C_kept_call HR0.out F74.q0 (fun k_ hs_ => (fun e_ => (HO_4.out.1 k_ e_.symm)) hs_)); (case side3 => exact HC0.out); (case side4 => exact Kd.C_kept_call HR1.out F74.q0 (fun k_ hs_ => (fun e_ => (HO_4.out.1 k_ e_.symm)) hs_)); (case side5 => exact HC1.out); (case side6 => exact Kd.R_tight rfl HO_4.out); rintro e w24 ⟨v573, rfl, ho0, hb, hkp⟩; refine ⟨_, rfl, ?_⟩; have n0_ := Aside0.mk (blk_kept (pC BK568) hkp (fun hs_ => (fun e_ => (Kd.R_ne HO_4.out BK568.out (by decide)) e_) hs_)); have n1_ := Aside0.mk (blk_kept (pC BK570) hkp (fun hs_ => (fun e_ => (Kd.R_ne HO_4.out BK570.out (by decide)) e_) hs_)); have n2_ := Aside0.mk (Kd.R_mono (ok' := fun k_ => (P4_ k_ ∨ w.heap.size ≤ k_)) ho0 (fun k_ hk_ => Or.elim hk_ (fun hs_ => (HO_4.out.1 k_ (hs_).symm)) (fun hn_ => (.inr (Nat.le_trans (by first | exact HK.out.1 | exact (show Kept w _ (fun k_ => P4_ k_) from F74.q0).1) hn_))))); have n3_ := Aside0.mk (Kept.then_ (S := (fun k_ => P4_ k_)) F74.q0 hkp (fun k_ hs_ => (fun e_ => (HO_4.out.1 k_ e_.symm)) hs_)); have n4_ := Aside0.mk (hb); clear BK568; clear BK570; clear HK; clear HB; clear HO_4; have BK568 := n0_; have BK570 := n1_; have HO574 := n2_; have HK := n3_; have HB := n4_; clear n0_ n1_ n2_ n3_ n4_; (try clear hb); (try clear hkp); (try clear ho0)))
    go_roundg k1
    case measure => have := HK1.out; omega
    case rel => exact ⟨(t572), (wrap64 (x12_1 + 1)), pF, H', ⟨by have := HK1.out; omega⟩, ⟨pR HO574⟩, ⟨pC BK568⟩, ⟨by repeat (first | (with_reducible first | exact HK.out | apply Kept.alloc | apply Kept.drewN | apply Kept.drew | refine Kept.setCell ?_ (.inr GW568.out) _ | refine Kept.setCell ?_ (.inr GW570.out) _) | exact HK.out)⟩, ⟨by repeat (first | (with_reducible first | exact HB.out | apply below_alloc | apply pw_below_drewN | apply below_drew1 | refine below_set ?_ GE568.out | refine below_set ?_ GE570.out) | exact HB.out)⟩⟩
   rw [if_neg c13] at H
   have c13b0 : decide (0 < ((rd_T55 ((rd_T29 l0 a2).f2) x12_1).f1)) = false := decide_eq_false c13
   clear c13
   replace H := Option.bind_eq_some_iff.mp H
   obtain ⟨t575, A250, H⟩ := H
   replace H : (if 0 ≤ t575 then (if t575 < (x4_1.length : Int) then (spec_l11Add.l0 k1 l0 l1 a3 (x4_1.set (t575 : Int).toNat (wrap64 ((rd x4_1 t575) + (wrap64 (Int.tdiv (wrap64 (a3 * ((rd_T55 ((rd_T29 l0 a2).f2) x12_1).f2))) ((rd_T29 l0 a2).f1)))))) (wrap64 (x12_1 + 1)) ((rd_T29 l0 a2).f0) ((rd_T29 l0 a2).f1) ((rd_T29 l0 a2).f2)) else (none)) else (none)) = some r := H
   have A25 := Aside0.mk A250
   clear A250
   rcases (Classical.em (0 ≤ t575)).symm with c26 | c26
   ·rw [if_neg c26] at H
    exact absurd H (by simp)
   rw [if_pos c26] at H
   have c26b0 : decide (0 ≤ t575) = true := decide_eq_true c26
   clear c26
   rcases (Classical.em (t575 < (x4_1.length : Int))).symm with c27 | c27
   ·rw [if_neg c27] at H
    exact absurd H (by simp)
   rw [if_pos c27] at H
   have c27b0 : decide (t575 < (x4_1.length : Int)) = true := decide_eq_true c27
   clear c27
   obtain ⟨y577, hy577⟩ : ∃ y_ : List Int, y_ = (x4_1.set (t575 : Int).toNat (wrap64 ((rd x4_1 t575) + (wrap64 (Int.tdiv (wrap64 (a3 * ((rd_T55 ((rd_T29 l0 a2).f2) x12_1).f2))) ((rd_T29 l0 a2).f1)))))) := ⟨_, rfl⟩
   replace H : (spec_l11Add.l0 k1 l0 l1 a3 y577 (wrap64 (x12_1 + 1)) ((rd_T29 l0 a2).f0) ((rd_T29 l0 a2).f1) ((rd_T29 l0 a2).f2)) = some r := pJ hy577 H
   have Ny577 := Aside0.mk hy577
   clear hy577
   have H' := Aside0.mk H
   clear H
   have hcz29_0 : wr.cell? ⟨gb568, 0, none⟩ = some (.int .i64 ((rd_T29 l0 a2).f0)) := (blk_cell BK568.out 0).trans rfl
   have hcz29_1 : wr.cell? ⟨gb568, 1, none⟩ = some (.int .i64 ((rd_T29 l0 a2).f1)) := (blk_cell BK568.out 1).trans rfl
   have hcz29_2 : wr.cell? ⟨gb568, 2, none⟩ = some (.slice A567_2 ((rd_T29 l0 a2).f2).length c567_2) := (blk_cell BK568.out 2).trans rfl
   have hfz29_0 := blk_frozen BK568.out 0
   have hfz29_1 := blk_frozen BK568.out 1
   have hfz29_2 := blk_frozen BK568.out 2
   have p569 : 0 ≤ (x12_1 : Int) := of_decide_eq_true pA
   have q569 : x12_1 < (((rd_T29 l0 a2).f2).length : Int) := of_decide_eq_true pA
   obtain ⟨ad569, e569, hx569_0, hx569_1, hx569_2⟩ := at_T55 (Kd.C_kept_now HR567_2.out HK.out) x12_1 p569 q569
   cases e569
   replace p569 := eq_true p569
   replace q569 := eq_true q569
   go_wp2_with (first | ((with_reducible refine gate_dst (N := 13) rfl ?_); refine box_event ?hg (N := 13) ?hd (cs := #[.int .i64 0, .int .i64 0, .int .i64 0]) (t := 55) ?hr ?_; (case hd => rfl); (case hg => rfl); (case hr => first | (go_simp; done) | (go_simp; rfl)); intro gb570 hg w30 hbox hb; have n0_ := Aside0.mk (Kd.R_below (pR HO_4) hb); have n1_ := Aside0.mk (blk_below (g := gb568) (o := .cells #[.int .i64 ((rd_T29 l0 a2).f0), .int .i64 ((rd_T29 l0 a2).f1), .slice (some ad569) ((rd_T29 l0 a2).f2).length c567_2] 29 (0, 0)) (pC BK568) hb); have n2_ := Aside0.mk (Kept.below (S := (fun k_ => P4_ k_)) (pH GW568) hb); have n3_ := Aside0.mk (below_step (pG GE568) hb); have n4_ := Aside0.mk (hbox); have n5_ := Aside0.mk ((by rw [hg]; exact (by first | exact HK.out.1 | exact (show Kept w _ (fun k_ => P4_ k_) from by repeat (first | (with_reducible first | exact HK.out | apply Kept.alloc | apply Kept.drewN | apply Kept.drew | refine Kept.setCell ?_ (.inr GW568.out) _) | exact HK.out)).1) : w.heap.size ≤ gb570)); have n6_ := Aside0.mk ((by rw [hg]; exact (below_size (pG GE568)) : w0.heap.size ≤ gb570)); have n7_ := Aside0.mk ((by rw [hg]; exact Nat.ne_of_lt (blk_lt (g := gb568) (o := .cells #[.int .i64 ((rd_T29 l0 a2).f0), .int .i64 ((rd_T29 l0 a2).f1), .slice (some ad569) ((rd_T29 l0 a2).f2).length c567_2] 29 (0, 0)) (pC BK568)) : gb568 ≠ gb570)); have n8_ := Aside0.mk ((by rw [hg]; exact Nat.ne_of_gt (blk_lt (g := gb568) (o := .cells #[.int .i64 ((rd_T29 l0 a2).f0), .int .i64 ((rd_T29 l0 a2).f1), .slice (some ad569) ((rd_T29 l0 a2).f2).length c567_2] 29 (0, 0)) (pC BK568)) : gb570 ≠ gb568)); clear HO_4; clear BK568; clear HK; clear HB; have HO_4 := n0_; have BK568 := n1_; have HK := n2_; have HB := n3_; have BK570 := n4_; have GW570 := n5_; have GE570 := n6_; have NB568_570 := n7_; have NB570_568 := n8_; clear n0_ n1_ n2_ n3_ n4_ n5_ n6_ n7_ n8_; clear hb hbox hg; have hnb31 := NB570_568.out; have hnc31 := NB568_570.out; have hcz32_0 : w30.cell? ⟨gb570, 0, none⟩ = some (.int .i64 0) := (blk_cell BK570.out 0).trans rfl; have hcz32_1 : w30.cell? ⟨gb570, 1, none⟩ = some (.int .i64 0) := (blk_cell BK570.out 1).trans rfl; have hcz32_2 : w30.cell? ⟨gb570, 2, none⟩ = some (.int .i64 0) := (blk_cell BK570.out 2).trans rfl; have hfz32_0 := blk_frozen BK570.out 0; have hfz32_1 := blk_frozen BK570.out 1; have hfz32_2 := blk_frozen BK570.out 2) | ((with_reducible refine gate_store (t := 55) (p := 13) rfl ?_); refine store_event (t := 55) (p := 13) (v := ?vo_w33) (w1 := (((w30.setCell ⟨gb570, 0, none⟩ (.int .i64 ((rd_T55 ((rd_T29 l0 a2).f2) x12_1).f0))).setCell ⟨gb570, 1, none⟩ (.int .i64 ((rd_T55 ((rd_T29 l0 a2).f2) x12_1).f1))).setCell ⟨gb570, 2, none⟩ (.int .i64 ((rd_T55 ((rd_T29 l0 a2).f2) x12_1).f2)))) ?hg ?ho ?hn ?hr ?_; (case ho => rfl); (case hg => rfl); (case hn => rfl); (case hr => first | (go_simp; done) | (go_simp; rfl)); intro w33 hw; have n0_ : Aside0 (Kd.R (Kd.int .i64) 3 w33 w0.heap.size (fun k_ => (P4_ k_ ∨ w.heap.size ≤ k_)) u4 x4_1) := ⟨(by rw [hw]; exact F74.q4)⟩; have n1_ : Aside0 (w33.heap[gb568]? = some (.cells #[.int .i64 ((rd_T29 l0 a2).f0), .int .i64 ((rd_T29 l0 a2).f1), .slice (some ad569) ((rd_T29 l0 a2).f2).length c567_2] 29 (0, 0))) := ⟨(by rw [hw]; exact F74.q3)⟩; have n2_ : Aside0 (w33.heap[gb570]? = some (.cells #[.int .i64 ((rd_T55 ((rd_T29 l0 a2).f2) x12_1).f0), .int .i64 ((rd_T55 ((rd_T29 l0 a2).f2) x12_1).f1), .int .i64 ((rd_T55 ((rd_T29 l0 a2).f2) x12_1).f2)] 55 (0, 0))) := ⟨(by rw [hw]; exact F74.q1)⟩; have n3_ : Aside0 (Kept w w33 (fun k_ => P4_ k_)) := ⟨(by rw [hw]; exact F74.q0)⟩; have n4_ : Aside0 (Below w0.heap.size w0 w33) := ⟨(by rw [hw]; exact F74.q2)⟩; clear hw; clear HO_4; clear BK568; clear BK570; clear HK; clear HB; have HO_4 := n0_; have BK568 := n1_; have BK570 := n2_; have HK := n3_; have HB := n4_; clear n0_ n1_ n2_ n3_ n4_; have hcz34_0 : w33.cell? ⟨gb570, 0, none⟩ = some (.int .i64 ((rd_T55 ((rd_T29 l0 a2).f2) x12_1).f0)) := (blk_cell BK570.out 0).trans rfl; have hcz34_1 : w33.cell? ⟨gb570, 1, none⟩ = some (.int .i64 ((rd_T55 ((rd_T29 l0 a2).f2) x12_1).f1)) := (blk_cell BK570.out 1).trans rfl; have hcz34_2 : w33.cell? ⟨gb570, 2, none⟩ = some (.int .i64 ((rd_T55 ((rd_T29 l0 a2).f2) x12_1).f2)) := (blk_cell BK570.out 2).trans rfl; have hfz34_0 := blk_frozen BK570.out 0; have hfz34_1 := blk_frozen BK570.out 1; have hfz34_2 := blk_frozen BK570.out 2; have hcz35_0 : w33.cell? ⟨gb568, 0, none⟩ = some (.int .i64 ((rd_T29 l0 a2).f0)) := (blk_cell BK568.out 0).trans rfl; have hcz35_1 : w33.cell? ⟨gb568, 1, none⟩ = some (.int .i64 ((rd_T29 l0 a2).f1)) := (blk_cell BK568.out 1).trans rfl; have hcz35_2 : w33.cell? ⟨gb568, 2, none⟩ = some (.slice (some ad569) ((rd_T29 l0 a2).f2).length c567_2) := (blk_cell BK568.out 2).trans rfl; have hfz35_0 := blk_frozen BK568.out 0; have hfz35_1 := blk_frozen BK568.out 1; have hfz35_2 := blk_frozen BK568.out 2) | ((with_reducible refine gate_callee (f := 64) rfl ?_); refine goesL_ (some 54) rfl rfl Try.func64 pL rfl #[.slice A1 l1.length c1, .int .i64 ((rd_T55 ((rd_T29 l0 a2).f2) x12_1).f0)] rfl pM ?_; (with_reducible refine (spec_l5Find.calls k1 _ _ l1 ((rd_T55 ((rd_T29 l0 a2).f2) x12_1).f0) t575 _ ?side1 ?side2 A25.out).mono ?_); (case side1 => exact Kd.C_kept_now HR1.out F74.q0); (case side2 => exact HC1.out); rintro e w' ⟨rfl, ⟨nd, rfl⟩⟩; refine ⟨_, rfl, ?_⟩; (try (rw [drewN_self w33]; generalize hq_ : World.drewN w33 _ = w33; have n0_ : Aside0 (Kd.R (Kd.int .i64) 3 w33 w0.heap.size (fun k_ => (P4_ k_ ∨ w.heap.size ≤ k_)) u4 x4_1) := ⟨by rw [← hq_]; exact (pR HO_4)⟩; have n1_ : Aside0 (w33.heap[gb568]? = some (.cells #[.int .i64 ((rd_T29 l0 a2).f0), .int .i64 ((rd_T29 l0 a2).f1), .slice (some ad569) ((rd_T29 l0 a2).f2).length c567_2] 29 (0, 0))) := ⟨by rw [← hq_]; exact (pC BK568)⟩; have n2_ : Aside0 (w33.heap[gb570]? = some (.cells #[.int .i64 ((rd_T55 ((rd_T29 l0 a2).f2) x12_1).f0), .int .i64 ((rd_T55 ((rd_T29 l0 a2).f2) x12_1).f1), .int .i64 ((rd_T55 ((rd_T29 l0 a2).f2) x12_1).f2)] 55 (0, 0))) := ⟨by rw [← hq_]; exact (pC BK570)⟩; have n3_ : Aside0 (Kept w w33 (fun k_ => P4_ k_)) := ⟨by rw [← hq_]; exact F74.q0⟩; have n4_ : Aside0 (Below w0.heap.size w0 w33) := ⟨by rw [← hq_]; exact F74.q2⟩; clear HO_4 BK568 BK570 HK HB hq_; have HO_4 := n0_; have BK568 := n1_; have BK570 := n2_; have HK := n3_; have HB := n4_; clear n0_ n1_ n2_ n3_ n4_)); obtain ⟨Ao36, co36, eo36⟩ := Kd.R_slice HO_4.out; subst eo36; have p576 : 0 ≤ (t575 : Int) := of_decide_eq_true pA; have q576 : t575 < (x4_1.length : Int) := of_decide_eq_true pA; obtain ⟨ad576, e576, hx576_0⟩ := Kd.at_int (Kd.R_reads' HO_4.out).2.2 t575 p576 q576; cases e576; replace p576 := eq_true p576; replace q576 := eq_true q576; have p28 : 0 ≤ (t575 : Int) := of_decide_eq_true pA; have q28 : (t575 : Int) < ((x4_1.length : Int) : Int) := of_decide_eq_true pA; obtain ⟨go28, co28, eo28, gb28, gl28, cl28, HG28⟩ := Kd.R_form HO_4.out (by omega); (first | cases eo28 | (injection eo28 with ea_ en_ ec_; (first | subst ea_ | (injection ea_ with ea_; subst ea_)); subst ec_; clear en_)); have GB28 := Aside0.mk gb28; have GG28 := Aside0.mk HG28; clear gb28 gl28 HG28; have HMgo28 := Aside0.mk (show (P4_ go28 ∨ w.heap.size ≤ go28) from (HO_4.out.1 _ rfl)); (first | simp only [add_plain] at hx576_0 | skip); obtain ⟨hx28_0, hf28_0⟩ := Kd.R_celln 0 HO_4.out (t575 : Int) p28 q28; replace p28 := eq_true p28; replace q28 := eq_true q28; obtain ⟨hy37_, hz37_⟩ := Kd.R_celln 0 HO_4.out (t575 : Int) (of_decide_eq_true pA) (of_decide_eq_true pA); have HP37 := Kd.R_putg HO_4.out (t575 : Int) (wrap64 ((rd x4_1 t575) + (wrap64 (Int.tdiv (wrap64 (a3 * ((rd_T55 ((rd_T29 l0 a2).f2) x12_1).f2))) ((rd_T29 l0 a2).f1)))))) | ((with_reducible refine gate_store (t := 3) (p := 63) rfl ?_); refine store_event (t := 3) (p := 63) (v := ?vo_w38) (w1 := (w33.setCell ⟨go28, (t575 : Int).toNat, none⟩ (.int .i64 (wrap64 ((rd x4_1 t575) + (wrap64 (Int.tdiv (wrap64 (a3 * ((rd_T55 ((rd_T29 l0 a2).f2) x12_1).f2))) ((rd_T29 l0 a2).f1)))))))) ?hg ?ho ?hn ?hr ?_; (case ho => rfl); (case hg => rfl); (case hn => rfl); (case hr => first | (go_simp; done) | (go_simp; rfl)); intro w38 hw; have hg : w33.grownBy w38 (some go28) := (by rw [hw]; exact HP37.2); have hp_ : Kd.R (Kd.int .i64) 3 w38 w0.heap.size (fun k_ => (P4_ k_ ∨ w.heap.size ≤ k_)) (.slice (some ⟨go28, 0, none⟩) x4_1.length co36) y577 := (by rw [hw, Ny577.out]; exact HP37.1); clear HP37; have n0_ := Aside0.mk (hp_); have n1_ := Aside0.mk (blk_grown (g := gb568) (o := .cells #[.int .i64 ((rd_T29 l0 a2).f0), .int .i64 ((rd_T29 l0 a2).f1), .slice (some ad569) ((rd_T29 l0 a2).f2).length c567_2] 29 (0, 0)) (pC BK568) hg (Kd.R_ne HO_4.out BK568.out (by decide))); have n2_ := Aside0.mk (blk_grown (g := gb570) (o := .cells #[.int .i64 ((rd_T55 ((rd_T29 l0 a2).f2) x12_1).f0), .int .i64 ((rd_T55 ((rd_T29 l0 a2).f2) x12_1).f1), .int .i64 ((rd_T55 ((rd_T29 l0 a2).f2) x12_1).f2)] 55 (0, 0)) (pC BK570) hg (Kd.R_ne HO_4.out BK570.out (by decide))); have n3_ := Aside0.mk ((by rw [hw]; exact below_set (HB.out) GB28.out : Below w0.heap.size w0 w38)); have n4_ := Aside0.mk (Kept.of_grown (S := (fun k_ => P4_ k_)) hg F74.q0 (fun k_ e_ => (HO_4.out.1 k_ e_))); clear HO_4; clear BK568; clear BK570; clear HB; clear HK; have HO_4 := n0_; have BK568 := n1_; have BK570 := n2_; have HB := n3_; have HK := n4_; clear n0_ n1_ n2_ n3_ n4_; clear hg hw hp_))
   go_roundg k1
   case measure => have := HK1.out; omega
   case rel => exact ⟨(y577), (wrap64 (x12_1 + 1)), pF, H', ⟨by have := HK1.out; omega⟩, ⟨pR HO_4⟩, ⟨pC BK568⟩, ⟨by repeat (first | (with_reducible first | exact HK.out | apply Kept.alloc | apply Kept.drewN | apply Kept.drew | refine Kept.setCell ?_ (.inr GW568.out) _ | refine Kept.setCell ?_ (.inr GW570.out) _) | exact HK.out)⟩, ⟨by repeat (first | (with_reducible first | exact HB.out | apply below_alloc | apply pw_below_drewN | apply below_drew1 | refine below_set ?_ GE568.out | refine below_set ?_ GE570.out) | exact HB.out)⟩⟩
/-! ### spec_l1Up: function 75 -/
def spec_l1Up.f (a0 : Int) (a1 : Int) : Option (Int) := if a1 = 0 then (none) else (some (wrap64 (Int.tdiv (wrap64 ((wrap64 (a0 + a1)) - 1)) a1)))
set_option maxHeartbeats 8000000 in
set_option maxRecDepth 100000 in
theorem spec_l1Up.calls (a0 : Int) (a1 : Int) (r : Int) (w : World) (h : spec_l1Up.f a0 a1 = some r) :
  Calls Try.prog 75 #[.int .i64 a0, .int .i64 a1] w fun e w' => e = .returned (.int .i64 r) ∧ Drawn0 w w' := by
 have H : (if a1 = 0 then (none) else (some (wrap64 (Int.tdiv (wrap64 ((wrap64 (a0 + a1)) - 1)) a1)))) = some r := h
 clear h
 by_cases c3 : a1 = 0
 ·rw [if_pos c3] at H
  exact absurd H (by simp)
 rw [if_neg c3] at H
 have c3b0 : (a1 == 0) = false := beq_eq_false_iff_ne.mpr c3
 have c3b1 : (a1 != 0) = true := bne_iff_ne.mpr c3
 obtain rfl := Option.some.inj H
 go_enter Try.func75, Try.ntmps75
 go_wp2
 go_ret
 exact ⟨pF, by repeat (first | exact Drawn0.refl _ | apply Drawn0.step)⟩

/-! ### spec_DishNeeds: function 37 -/
mutual
def spec_DishNeeds.j0 : Nat → List (S29) → List (S63) → Int → Int → Bool → Option (List Int × Bool)
 | 0, _, _, _, _, _ => none
 | k + 1, x0, x1, x2, x3, x27 => if x27 = true then (some ((([] : List Int)), false)) else ((spec_l11Whole.f k x0).bind fun t584 => ((spec_l11Find.f k x0 x2).bind fun t585 => (if 0 ≤ (x1.length : Int) then (if ((x1.length : Int) : Int).toNat ≤ 35184372088832 then ((spec_l11Add.f k x0 x1 t585 (wrap64 (x3 * t584)) (List.replicate ((x1.length : Int) : Int).toNat 0)).bind fun t589 => (spec_DishNeeds.l0 k t584 t589 0)) else (none)) else (none))))
def spec_DishNeeds.l0 : Nat → Int → List Int → Int → Option (List Int × Bool)
 | 0, _, _, _ => none
 | k + 1, x10, x11, x12 => if x12 < (x11.length : Int) then (if 0 ≤ x12 then ((spec_l1Up.f (rd x11 x12) x10).bind fun t593 => ((some (x11.set (x12 : Int).toNat t593 : List Int)).bind fun y594 => (if (rd y594 x12) > 999999 then (some ((([] : List Int)), false)) else (spec_DishNeeds.l0 k x10 y594 (wrap64 (x12 + 1)))))) else (none)) else (some (x11, true))
end
def spec_DishNeeds.f (k : Nat) (l0 : List (S29)) (l1 : List (S63)) (a2 : Int) (a3 : Int) : Option (List Int × Bool) := (spec_DishesValid.f k l0 l1).bind fun t578 => (if t578 = true then ((spec_l11Find.f k l0 a2).bind fun t579 => (if t579 < 0 then (spec_DishNeeds.j0 k l0 l1 a2 a3 true) else ((spec_l6In.f a3 0 300).bind fun t580 => (spec_DishNeeds.j0 k l0 l1 a2 a3 (!t580))))) else (spec_DishNeeds.j0 k l0 l1 a2 a3 true))
theorem spec_DishNeeds.mono_l : ∀ k, (∀ y0 y1 y2 y3 y4, LeO (spec_DishNeeds.j0 k y0 y1 y2 y3 y4) (spec_DishNeeds.j0 (k + 1) y0 y1 y2 y3 y4)) ∧ (∀ y0 y1 y2, LeO (spec_DishNeeds.l0 k y0 y1 y2) (spec_DishNeeds.l0 (k + 1) y0 y1 y2))
 | 0 => ⟨fun _ _ _ _ _ r h => by simp [spec_DishNeeds.j0] at h, fun _ _ _ r h => by simp [spec_DishNeeds.l0] at h⟩
 | k + 1 => by
  obtain ⟨ih0, ih1⟩ := spec_DishNeeds.mono_l k
  refine ⟨?_, ?_⟩
  ·intro y0 y1 y2 y3 y4
   unfold spec_DishNeeds.j0
   repeat' first
   | (with_reducible exact ih0 _ _ _ _ _)
   | (with_reducible exact ih1 _ _ _)
   | (with_reducible exact spec_DishesValid.mono _ _ _)
   | (with_reducible exact spec_l11Add.mono _ _ _ _ _ _)
   | (with_reducible exact spec_l11Find.mono _ _ _)
   | (with_reducible exact spec_l11Whole.mono _ _)
   | (with_reducible exact LeO.refl _)
   | (with_reducible exact LeO.none _)
   | (with_reducible refine LeO.ite ?_ ?_)
   | (with_reducible refine LeO.bind ?_ (fun _ => ?_))
   | exact ih0 _ _ _ _ _
   | exact ih1 _ _ _
   | exact spec_DishesValid.mono _ _ _
   | exact spec_l11Add.mono _ _ _ _ _ _
   | exact spec_l11Find.mono _ _ _
   | exact spec_l11Whole.mono _ _
   | exact LeO.none _
   | refine LeO.ite ?_ ?_
   | refine LeO.bind ?_ (fun _ => ?_)
  ·intro y0 y1 y2
   unfold spec_DishNeeds.l0
   repeat' first
   | (with_reducible exact ih0 _ _ _ _ _)
   | (with_reducible exact ih1 _ _ _)
   | (with_reducible exact spec_DishesValid.mono _ _ _)
   | (with_reducible exact spec_l11Add.mono _ _ _ _ _ _)
   | (with_reducible exact spec_l11Find.mono _ _ _)
   | (with_reducible exact spec_l11Whole.mono _ _)
   | (with_reducible exact LeO.refl _)
   | (with_reducible exact LeO.none _)
   | (with_reducible refine LeO.ite ?_ ?_)
   | (with_reducible refine LeO.bind ?_ (fun _ => ?_))
   | exact ih0 _ _ _ _ _
   | exact ih1 _ _ _
   | exact spec_DishesValid.mono _ _ _
   | exact spec_l11Add.mono _ _ _ _ _ _
   | exact spec_l11Find.mono _ _ _
   | exact spec_l11Whole.mono _ _
   | exact LeO.none _
   | refine LeO.ite ?_ ?_
   | refine LeO.bind ?_ (fun _ => ?_)
theorem spec_DishNeeds.mono : ∀ a0 a1 a2 a3 k, LeO (spec_DishNeeds.f k a0 a1 a2 a3) (spec_DishNeeds.f (k + 1) a0 a1 a2 a3) := by
 intro a0 a1 a2 a3 k
 obtain ⟨ih0, ih1⟩ := spec_DishNeeds.mono_l k
 unfold spec_DishNeeds.f
 repeat' first
   | (with_reducible exact ih0 _ _ _ _ _)
   | (with_reducible exact ih1 _ _ _)
   | (with_reducible exact spec_DishesValid.mono _ _ _)
   | (with_reducible exact spec_l11Add.mono _ _ _ _ _ _)
   | (with_reducible exact spec_l11Find.mono _ _ _)
   | (with_reducible exact spec_l11Whole.mono _ _)
   | (with_reducible exact LeO.refl _)
   | (with_reducible exact LeO.none _)
   | (with_reducible refine LeO.ite ?_ ?_)
   | (with_reducible refine LeO.bind ?_ (fun _ => ?_))
   | exact ih0 _ _ _ _ _
   | exact ih1 _ _ _
   | exact spec_DishesValid.mono _ _ _
   | exact spec_l11Add.mono _ _ _ _ _ _
   | exact spec_l11Find.mono _ _ _
   | exact spec_l11Whole.mono _ _
   | exact LeO.none _
   | refine LeO.ite ?_ ?_
   | refine LeO.bind ?_ (fun _ => ?_)
def spec_DishNeeds.T4 : Bool × List (List Nat × List Nat) := (true, [([], []), ([], []), ([], []), ([], []), ([2, 3], [2, 3]), ([], []), ([], []), ([5, 6], [5, 6]), ([], []), ([8], [8]), ([9, 9], [9]), ([0, 1, 4, 7, 10, 4], [0, 1, 4, 7, 10]), ([11, 11, 0, 1, 2, 3, 4, 5, 6, 7, 8, 9, 10, 11], [11])])
def spec_DishNeeds.B4 : List Nat := [0, 0, 0, 0, 12, 0, 0, 96, 0, 256, 768, 2047, 4095]
theorem spec_DishNeeds.tab4 : rtab .any (opsOf Try.f37 4) = spec_DishNeeds.T4 := by kernel_rfl
theorem spec_DishNeeds.bits4 : waitsOk spec_DishNeeds.T4.2 spec_DishNeeds.B4 = true := by kernel_rfl
@[reducible] def F37.b0 : Array Bool := #[true, true, true, true, true, true, true, true, true, true, true, false, false]
set_option maxHeartbeats 8000000 in
set_option maxRecDepth 100000 in
theorem spec_DishNeeds.calls (k : Nat) (A0 : Option Addr) (c0 : Nat) (l0 : List (S29)) (A1 : Option Addr) (c1 : Nat) (l1 : List (S63)) (a2 : Int) (a3 : Int) (r1 : List Int) (r2 : Bool) (w : World) (hr0 : Kd.C k29 w A0 l0.length l0) (hc0 : l0.length ≤ c0) (hr1 : Kd.C k63 w A1 l1.length l1) (hc1 : l1.length ≤ c1) (h : spec_DishNeeds.f k l0 l1 a2 a3 = some (r1, r2)) :
  Calls Try.prog 37 #[.slice A0 l0.length c0, .slice A1 l1.length c1, .int .i64 a2, .int .i64 a3] w fun e w' => ∃ v0_ : Value, e = .returned (.tuple #[v0_, .bool r2]) ∧ Kd.R (Kd.int .i64) 3 w' w.heap.size (fun _ => True) v0_ r1 ∧ Below w.heap.size w w' := by
 have HR0 := Aside0.mk hr0
 have HC0 := Aside0.mk hc0
 clear hr0 hc0
 have HR1 := Aside0.mk hr1
 have HC1 := Aside0.mk hc1
 clear hr1 hc1
 have HB := Aside0.mk (Below.refl w.heap.size w)
 have H : ((spec_DishesValid.f k l0 l1).bind fun t578 => (if t578 = true then ((spec_l11Find.f k l0 a2).bind fun t579 => (if t579 < 0 then (spec_DishNeeds.j0 k l0 l1 a2 a3 true) else ((spec_l6In.f a3 0 300).bind fun t580 => (spec_DishNeeds.j0 k l0 l1 a2 a3 (!t580))))) else (spec_DishNeeds.j0 k l0 l1 a2 a3 true))) = some (r1, r2) := h
 clear h
 have HC5 := Aside0.mk H
 clear H
 go_enter Try.func37, Try.ntmps37
 go_upto_region 1 with (fail)
 go_cut [27] (fun v27 wc => ∃ (kq : Nat) (x27_4 : Bool), v27 = .bool x27_4 ∧ Aside0 (spec_DishNeeds.j0 kq l0 l1 a2 a3 x27_4 = some (r1, r2)) ∧ Aside0 (kq ≤ k) ∧ Aside0 (Below w.heap.size w wc))
 case first =>
  have H := HC5.out
  clear HC5
  replace H := Option.bind_eq_some_iff.mp H
  obtain ⟨t578, A60, H⟩ := H
  replace H : (if t578 = true then ((spec_l11Find.f k l0 a2).bind fun t579 => (if t579 < 0 then (spec_DishNeeds.j0 k l0 l1 a2 a3 true) else ((spec_l6In.f a3 0 300).bind fun t580 => (spec_DishNeeds.j0 k l0 l1 a2 a3 (!t580))))) else (spec_DishNeeds.j0 k l0 l1 a2 a3 true)) = some (r1, r2) := H
  have A6 := Aside0.mk A60
  clear A60
  rcases (Classical.em (t578 = true)).symm with c7 | c7
  ·replace c7 := Bool.eq_false_iff.mpr c7
   subst c7
   have H1 : (spec_DishNeeds.j0 k l0 l1 a2 a3 true) = some (r1, r2) := by rw [if_neg (show ¬ (false = true) by decide)] at H; exact H
   clear H
   have H := H1
   clear H1
   have H' := Aside0.mk H
   clear H
   go_wp2_with (first | ((with_reducible refine gate_callee (f := 41) rfl ?_); refine goesL_ (some 15) rfl rfl Try.func41 pL rfl #[.slice A0 l0.length c0, .slice A1 l1.length c1] rfl pM ?_; (with_reducible refine (spec_DishesValid.calls k _ _ l0 _ _ l1 false _ ?side1 ?side2 ?side3 ?side4 A6.out).mono ?_); (case side1 => exact pS ((Kd.C_below HR0.out HB.out))); (case side2 => exact HC0.out); (case side3 => exact pS ((Kd.C_below HR1.out HB.out))); (case side4 => exact HC1.out); rintro e w13 ⟨rfl, hb⟩; refine ⟨_, rfl, ?_⟩; have n0_ := Aside0.mk (below_step pB hb); clear HB; have HB := n0_; clear n0_; (try clear hb); (try clear hb2); (try clear hk); (try clear hi)))
   go_meet
   case rel => exact ⟨_, (true), pF, H', ⟨by first | omega | exact Nat.le_refl _⟩, ⟨pB⟩⟩
  subst c7
  have H1 : ((spec_l11Find.f k l0 a2).bind fun t579 => (if t579 < 0 then (spec_DishNeeds.j0 k l0 l1 a2 a3 true) else ((spec_l6In.f a3 0 300).bind fun t580 => (spec_DishNeeds.j0 k l0 l1 a2 a3 (!t580))))) = some (r1, r2) := by rw [if_pos rfl] at H; exact H
  clear H
  have H := H1
  clear H1
  replace H := Option.bind_eq_some_iff.mp H
  obtain ⟨t579, A80, H⟩ := H
  replace H : (if t579 < 0 then (spec_DishNeeds.j0 k l0 l1 a2 a3 true) else ((spec_l6In.f a3 0 300).bind fun t580 => (spec_DishNeeds.j0 k l0 l1 a2 a3 (!t580)))) = some (r1, r2) := H
  have A8 := Aside0.mk A80
  clear A80
  by_cases c9 : t579 < 0
  ·rw [if_pos c9] at H
   have c9b0 : decide (t579 < 0) = true := decide_eq_true c9
   clear c9
   (first | rw [c9b0] | (simp only [i64_w, i32_w]; rw [c9b0]) | skip)
   have H' := Aside0.mk H
   clear H
   go_wp2_with (first | ((with_reducible refine gate_callee (f := 41) rfl ?_); refine goesL_ (some 15) rfl rfl Try.func41 pL rfl #[.slice A0 l0.length c0, .slice A1 l1.length c1] rfl pM ?_; (with_reducible refine (spec_DishesValid.calls k _ _ l0 _ _ l1 true _ ?side1 ?side2 ?side3 ?side4 A6.out).mono ?_); (case side1 => exact pS ((Kd.C_below HR0.out HB.out))); (case side2 => exact HC0.out); (case side3 => exact pS ((Kd.C_below HR1.out HB.out))); (case side4 => exact HC1.out); rintro e w10 ⟨rfl, hb⟩; refine ⟨_, rfl, ?_⟩; have n0_ := Aside0.mk (below_step pB hb); clear HB; have HB := n0_; clear n0_; (try clear hb); (try clear hb2); (try clear hk); (try clear hi)) | (go_at_call 58; (with_reducible refine (spec_l11Find.calls k _ _ l0 a2 t579 _ ?side1 ?side2 A8.out).mono ?_); (case side1 => exact pS ((Kd.C_below HR0.out HB.out))); (case side2 => exact HC0.out); rintro e w' ⟨rfl, ⟨nd, rfl⟩⟩))
   go_meet
   case rel => exact ⟨_, (true), pF, H', ⟨by first | omega | exact Nat.le_refl _⟩, ⟨pB⟩⟩
  rw [if_neg c9] at H
  have c9b0 : decide (t579 < 0) = false := decide_eq_false c9
  clear c9
  (first | rw [c9b0] | (simp only [i64_w, i32_w]; rw [c9b0]) | skip)
  replace H := Option.bind_eq_some_iff.mp H
  obtain ⟨t580, A110, H⟩ := H
  replace H : (spec_DishNeeds.j0 k l0 l1 a2 a3 (!t580)) = some (r1, r2) := H
  have A11 := Aside0.mk A110
  clear A110
  have H' := Aside0.mk H
  clear H
  go_wp2_with (first | ((with_reducible refine gate_callee (f := 41) rfl ?_); refine goesL_ (some 15) rfl rfl Try.func41 pL rfl #[.slice A0 l0.length c0, .slice A1 l1.length c1] rfl pM ?_; (with_reducible refine (spec_DishesValid.calls k _ _ l0 _ _ l1 true _ ?side1 ?side2 ?side3 ?side4 A6.out).mono ?_); (case side1 => exact pS ((Kd.C_below HR0.out HB.out))); (case side2 => exact HC0.out); (case side3 => exact pS ((Kd.C_below HR1.out HB.out))); (case side4 => exact HC1.out); rintro e w12 ⟨rfl, hb⟩; refine ⟨_, rfl, ?_⟩; have n0_ := Aside0.mk (below_step pB hb); clear HB; have HB := n0_; clear n0_; (try clear hb); (try clear hb2); (try clear hk); (try clear hi)) | (go_at_call 58; (with_reducible refine (spec_l11Find.calls k _ _ l0 a2 t579 _ ?side1 ?side2 A8.out).mono ?_); (case side1 => exact pS ((Kd.C_below HR0.out HB.out))); (case side2 => exact HC0.out); rintro e w' ⟨rfl, ⟨nd, rfl⟩⟩) | (go_at_call 72; (with_reducible refine (spec_l6In.calls a3 0 300 t580 _ A11.out).mono ?_); rintro e w' ⟨rfl, ⟨nd, rfl⟩⟩))
  go_meet
  case rel => exact ⟨_, (!t580), pF, H', ⟨by first | omega | exact Nat.le_refl _⟩, ⟨pB⟩⟩
 case rest =>
  clear HC5
  try clear c1
  try clear p2
  try clear c3
  try clear c4
  try clear c7
  try clear c9
  try clear c9b0
  obtain ⟨kq, x27_4, rfl, HA, HJ4, HB⟩ := hcut
  cases kq with
  | zero => exact absurd HA.out (by simp [spec_DishNeeds.j0])
  | succ kj4 =>
   have H := HA.out
   clear HA
   simp only [spec_DishNeeds.j0] at H
   by_cases c14 : x27_4 = true
   ·subst c14
    have H1 : (some ((([] : List Int)), false)) = some (r1, r2) := by rw [if_pos rfl] at H; exact H
    clear H
    have H := H1
    clear H1
    obtain ⟨y581, hy581⟩ : ∃ y_ : List Int, y_ = (([] : List Int)) := ⟨_, rfl⟩
    replace H : (some (y581, false)) = some (r1, r2) := pJ hy581 H
    have Ny581 := Aside0.mk hy581
    clear hy581
    simp only [Option.some.injEq, Prod.mk.injEq] at H
    obtain ⟨rfl, rfl⟩ := H
    go_wp2_with (first | ((with_reducible refine gate_dst (N := 28) rfl ?_); refine Kd.R_lit (Kd.int .i64) _ 3 ?hg (N := 28) ?hd (xs := ([] : List Int)) (inner := []) (ok := fun _ => True) (okp := fun _ => True) ?hr ?hp (fun _ hk => hk) trivial (Below.refl _ _) (Nat.le_refl _) (by simp) ?_; (case hd => rfl); (case hg => rfl); (case hr => first | (go_simp; done) | (go_simp; rfl)); (case hp => exact (Reps.none _ _)); intro v582 w15 ho16 hb hg_ hnew_; clear hg_ hnew_; (first | rw [← Ny581.out] at ho16 | (simp only [Int.reduceToNat] at ho16; rw [← Ny581.out] at ho16)); have n0_ := Aside0.mk (Kd.R_lower ho16 (below_size pB)); have n1_ := Aside0.mk (below_step pB hb); clear HB; have HO583 := n0_; have HB := n1_; clear n0_ n1_; clear hb ho16))
    go_ret2
    exact ⟨_, pE, pR HO583, pB⟩
   replace c14 := Bool.eq_false_iff.mpr c14
   subst c14
   have H1 : ((spec_l11Whole.f kj4 l0).bind fun t584 => ((spec_l11Find.f kj4 l0 a2).bind fun t585 => (if 0 ≤ (l1.length : Int) then (if ((l1.length : Int) : Int).toNat ≤ 35184372088832 then ((spec_l11Add.f kj4 l0 l1 t585 (wrap64 (a3 * t584)) (List.replicate ((l1.length : Int) : Int).toNat 0)).bind fun t589 => (spec_DishNeeds.l0 kj4 t584 t589 0)) else (none)) else (none)))) = some (r1, r2) := by rw [if_neg (show ¬ (false = true) by decide)] at H; exact H
   clear H
   have H := H1
   clear H1
   replace H := Option.bind_eq_some_iff.mp H
   obtain ⟨t584, A170, H⟩ := H
   replace H : ((spec_l11Find.f kj4 l0 a2).bind fun t585 => (if 0 ≤ (l1.length : Int) then (if ((l1.length : Int) : Int).toNat ≤ 35184372088832 then ((spec_l11Add.f kj4 l0 l1 t585 (wrap64 (a3 * t584)) (List.replicate ((l1.length : Int) : Int).toNat 0)).bind fun t589 => (spec_DishNeeds.l0 kj4 t584 t589 0)) else (none)) else (none))) = some (r1, r2) := H
   have A17 := Aside0.mk A170
   clear A170
   replace H := Option.bind_eq_some_iff.mp H
   obtain ⟨t585, A180, H⟩ := H
   replace H : (if 0 ≤ (l1.length : Int) then (if ((l1.length : Int) : Int).toNat ≤ 35184372088832 then ((spec_l11Add.f kj4 l0 l1 t585 (wrap64 (a3 * t584)) (List.replicate ((l1.length : Int) : Int).toNat 0)).bind fun t589 => (spec_DishNeeds.l0 kj4 t584 t589 0)) else (none)) else (none)) = some (r1, r2) := H
   have A18 := Aside0.mk A180
   clear A180
   rcases (Classical.em (0 ≤ (l1.length : Int))).symm with c19 | c19
   ·rw [if_neg c19] at H
    exact absurd H (by simp)

   rw [if_pos c19] at H
   have c19b0 := eq_true c19
   have c19b1 : decide (0 ≤ (l1.length : Int)) = true := decide_eq_true c19
   clear c19
   rcases (Classical.em (((l1.length : Int) : Int).toNat ≤ 35184372088832)).symm with c20 | c20
   ·rw [if_neg c20] at H
    exact absurd H (by simp)
   rw [if_pos c20] at H
   have c20b0 := eq_true c20
   have c20b1 : decide (((l1.length : Int) : Int).toNat ≤ 35184372088832) = true := decide_eq_true c20
   clear c20
   obtain ⟨y586, hy586⟩ : ∃ y_ : List Int, y_ = (List.replicate ((l1.length : Int) : Int).toNat 0) := ⟨_, rfl⟩
   replace H : ((spec_l11Add.f kj4 l0 l1 t585 (wrap64 (a3 * t584)) y586).bind fun t589 => (spec_DishNeeds.l0 kj4 t584 t589 0)) = some (r1, r2) := pJ hy586 H
   have Ny586 := Aside0.mk hy586
   clear hy586
   replace H := Option.bind_eq_some_iff.mp H
   obtain ⟨t589, A210, H⟩ := H
   replace H : (spec_DishNeeds.l0 kj4 t584 t589 0) = some (r1, r2) := H
   have A21 := Aside0.mk A210
   clear A210
   have H' := Aside0.mk H
   clear H
   try go_wp2_with (first | ((with_reducible refine gate_callee (f := 73) rfl ?_); refine goesL_ (some 30) rfl rfl Try.func73 pL rfl #[.slice A0 l0.length c0] rfl pM ?_; (with_reducible refine (spec_l11Whole.calls kj4 _ _ l0 t584 _ ?side1 ?side2 A17.out).mono ?_); (case side1 => exact pS ((Kd.C_below HR0.out HB.out))); (case side2 => exact HC0.out); rintro e w' ⟨rfl, ⟨nd, rfl⟩⟩; refine ⟨_, rfl, ?_⟩))
   (try (rw [drewN_self wc]; generalize hq_ : World.drewN wc _ = wc; have n0_ : Aside0 (Below w.heap.size w wc) := ⟨by rw [← hq_]; exact pB⟩; clear HB hq_; have HB := n0_; clear n0_))
   have n0_ := Aside0.mk (below_drew1 HB.out)
   clear HB
   have HB := n0_
   clear n0_
   refine start_ (n := 13) (S := fun w' => True) (ds := []) #[false, false, false, false, false, false, false, false, false, false, false, false, false] pL rfl rfl trivial (fun hHeld => ?_); refine with_tabW spec_DishNeeds.tab4 spec_DishNeeds.bits4 (fun HT_ HW_ => ?_)
   generalize wc.drew = w22 at HB hHeld ⊢
   refine pv 0 (some 31) HT_ rfl rfl pL ?_
   refine pv 1 (some 32) HT_ rfl rfl pL ?_
   refine pv 2 (some 33) HT_ rfl rfl pL ?_
   refine pv 3 (some 34) HT_ rfl rfl pL ?_
   refine pv 5 (some 36) HT_ rfl rfl pL ?_
   refine pv 6 (some 37) HT_ rfl rfl pL ?_
   refine pv 7 (some 38) HT_ rfl rfl pL ?_
   refine pv 8 (some 39) HT_ rfl rfl pL ?_
   refine pu 9 (some 40) #[true, true, true, true, false, true, true, true, true, true, false, false, false] HT_ rfl rfl pL (fun _ _ _ h => h) (by rfl) pY pP ?_
   refine join_ (σ := Value) 2 #[true, true, true, true, true, true, true, true, true, true, true, false, false] (fun s_ => [(35, .int .i64 t585), (41, s_)]) (fun s_ w' => (Kd.R (Kd.int .i64) 3 w' w.heap.size (fun _ => True) s_ y586) ∧ (Below w.heap.size w w')) ?_ ?_
   rotate_left
   ·intro hCont
    refine two_ (i := 4) (j := 10) (Ni := some 35) (Nj := some 41) #[true, true, true, true, true, true, true, true, true, true, false, false, false] #[true, true, true, true, false, true, true, true, true, true, true, false, false] rfl rfl rfl rfl (two_of HT_.out pL) (by decide) (by decide) (fun K hK => ?_) (fun K hK => ?_)
    ·skip
     refine goes_ Try.func58 pL rfl #[.slice A0 l0.length c0, .int .i64 a2] (by rfl) rfl rfl pM ?_
     with_reducible refine (spec_l11Find.calls kj4 _ _ l0 a2 t585 _ ?side1 ?side2 A18.out).mono ?_
     (case side1 => exact pS ((Kd.C_below HR0.out HB.out)))
     (case side2 => exact HC0.out)
     rintro e w' ⟨rfl, ⟨nd, rfl⟩⟩
     refine ⟨_, rfl, ?_⟩
     refine hK.out _ _ trivial (fun hHeld => ?_)
     clear hK K
     refine norm_ (a' := ?_) ?_ ?_
     rotate_left
     ·show Act.put _ (some 35) _ = _
      exact pP
     refine one_ (i := 10) (N := some 41) F37.b0 rfl rfl (one_of HT_.out pL) (by decide) (fun K hK => ?_)
     refine Kd.R_make_step (Kd.int .i64) _ 3 (by rfl) (N := 41) rfl 43 _ _ rfl (l1.length : Int) rfl rfl Try.underlying43 (.int .i64 0) 8 info3 rfl (by decide) (by omega) 0 (ok := fun _ => True) (okp := fun _ => True) rfl (fun _ hk => hk) trivial (of_decide_eq_true pA) (Nat.le_trans (Nat.mul_le_mul_right _ (of_decide_eq_true pA : (l1.length : Int).toNat ≤ 35184372088832)) (by omega)) (Below.refl _ _) (Nat.le_refl _) ?_
     intro v587 w23 ho24 hb hg_ hnew_
     clear hg_ hnew_
     (first | rw [← Ny586.out] at ho24 | (simp only [Int.reduceToNat] at ho24; rw [← Ny586.out] at ho24))
     have n0_ := Aside0.mk (Kd.R_lower ho24 (below_size pB))
     have n1_ := Aside0.mk (below_step pB hb)
     clear HB
     have HO588 := n0_
     have HB := n1_
     clear n0_ n1_
     clear hb ho24
     refine hK.out _ _ trivial (fun hHeld => ?_)
     clear hK K
     refine norm_ (a' := ?_) ?_ ?_
     rotate_left
     ·show Act.put _ (some 41) _ = _
      exact pP
     exact norm_ (by simp only [putAll, Act.put, List.setIfInBounds_toArray, List.set_cons_zero, List.set_cons_succ]) (hCont (v587) _ ⟨(pR HO588), pB⟩)
    ·skip
     refine Kd.R_make_step (Kd.int .i64) _ 3 (by rfl) (N := 41) rfl 43 _ _ rfl (l1.length : Int) rfl rfl Try.underlying43 (.int .i64 0) 8 info3 rfl (by decide) (by omega) 0 (ok := fun _ => True) (okp := fun _ => True) rfl (fun _ hk => hk) trivial (of_decide_eq_true pA) (Nat.le_trans (Nat.mul_le_mul_right _ (of_decide_eq_true pA : (l1.length : Int).toNat ≤ 35184372088832)) (by omega)) (Below.refl _ _) (Nat.le_refl _) ?_
     intro v587 w23 ho24 hb hg_ hnew_
     clear hg_ hnew_
     (first | rw [← Ny586.out] at ho24 | (simp only [Int.reduceToNat] at ho24; rw [← Ny586.out] at ho24))
     have n0_ := Aside0.mk (Kd.R_lower ho24 (below_size pB))
     have n1_ := Aside0.mk (below_step pB hb)
     clear HB
     have HO588 := n0_
     have HB := n1_
     clear n0_ n1_
     clear hb ho24
     refine hK.out _ _ trivial (fun hHeld => ?_)
     clear hK K
     refine norm_ (a' := ?_) ?_ ?_
     rotate_left
     ·show Act.put _ (some 41) _ = _
      exact pP
     refine one_ (i := 4) (N := some 35) F37.b0 rfl rfl (one_of HT_.out pL) (by decide) (fun K hK => ?_)
     refine goes_ Try.func58 pL rfl #[.slice A0 l0.length c0, .int .i64 a2] (by rfl) rfl rfl pM ?_
     with_reducible refine (spec_l11Find.calls kj4 _ _ l0 a2 t585 _ ?side1 ?side2 A18.out).mono ?_
     (case side1 => exact pS ((Kd.C_below HR0.out HB.out)))
     (case side2 => exact HC0.out)
     rintro e w' ⟨rfl, ⟨nd, rfl⟩⟩
     refine ⟨_, rfl, ?_⟩
     refine hK.out _ _ trivial (fun hHeld => ?_)
     clear hK K
     refine norm_ (a' := ?_) ?_ ?_
     rotate_left
     ·show Act.put _ (some 35) _ = _
      exact pP
     exact norm_ (by simp only [putAll, Act.put, List.setIfInBounds_toArray, List.set_cons_zero, List.set_cons_succ]) (hCont (v587) _ ⟨(pR HO588), pB⟩)
   rintro v587 w25 ⟨h0_, h1_⟩
   have n0_ : Aside0 (Kd.R (Kd.int .i64) 3 w25 w.heap.size (fun _ => True) v587 y586) := ⟨h0_⟩
   have n1_ : Aside0 (Below w.heap.size w w25) := ⟨h1_⟩
   clear HB
   clear h0_ h1_
   have HO588 := n0_
   have HB := n1_
   clear n0_ n1_
   have hHeld := trivial
   obtain ⟨Ao26, co26, eo26⟩ := Kd.R_slice HO588.out
   (first | subst eo26 | (injection eo26 with f1_ f2_ f3_; have f4_ := f1_.symm; have f5_ := f3_.symm; clear f1_ f2_ f3_; subst f4_; subst f5_))
   refine norm_ (a' := ?_) ?_ ?_
   rotate_left
   ·simp only [putAll, Act.put, List.setIfInBounds_toArray, List.set_cons_zero, List.set_cons_succ]
    rfl
   refine one_ (i := 11) (N := some 42) #[true, true, true, true, true, true, true, true, true, true, true, true, false] rfl rfl (one_of HT_.out pL) (by decide) (fun K hK => ?_)
   refine goes_ Try.func74 pL rfl #[.slice A0 l0.length c0, .slice A1 l1.length c1, .int .i64 t585, .int .i64 (wrap64 (a3 * t584)), .slice Ao26 y586.length co26] (by rfl) rfl rfl pM ?_
   with_reducible refine (spec_l11Add.calls kj4 _ _ l0 _ _ l1 t585 (wrap64 (a3 * t584)) (fun k_ => some k_ = (.slice Ao26 y586.length co26 : Value).ownBlock) (.slice Ao26 y586.length co26) y586 t589 w _ ?side1 ?side2 ?side3 ?side4 ?side5 ?side6 A21.out).mono ?_
   (case side1 => exact pB)
   (case side2 => exact Kd.C_kept_came k29_heap HR0.out pB (fun k_ hs_ => (fun e_ => Kd.R_base HO588.out k_ e_.symm) hs_))
   (case side3 => exact HC0.out)
   (case side4 => exact Kd.C_kept_came k63_heap HR1.out pB (fun k_ hs_ => (fun e_ => Kd.R_base HO588.out k_ e_.symm) hs_))
   (case side5 => exact HC1.out)
   (case side6 => exact Kd.R_tight rfl HO588.out)
   rintro e w27 ⟨v590, rfl, ho0, hb, hkp⟩
   refine ⟨_, rfl, ?_⟩
   have n0_ := Aside0.mk (Kd.R_mono (ok' := fun k_ => True) ho0 (fun k_ hk_ => trivial))
   have n1_ := Aside0.mk (hb)
   clear HB
   clear HO588
   have HO591 := n0_
   have HB := n1_
   clear n0_ n1_
   (try clear hb)
   (try clear hkp)
   (try clear ho0)
   refine hK.out _ _ trivial (fun hHeld => ?_)
   clear hK K
   refine norm_ (a' := ?_) ?_ ?_
   rotate_left
   ·show Act.put _ (some 42) _ = _
    exact pP
   refine pv 12 (some 11) HT_ rfl rfl pL ?_
   refine done_ (done_of HT_.out pL) ?_
   try go_wp2
   go_loopg [12] kj4 (fun kq v12 w' => ∃ (x11_2 : List Int) (x12_2 : Int), v12 = .int .i64 x12_2 ∧ Aside0 (spec_DishNeeds.l0 kq t584 x11_2 x12_2 = some (r1, r2)) ∧ Aside0 (kq ≤ kj4) ∧ Aside0 (Kd.R (Kd.int .i64) 3 w' w.heap.size (fun _ => True) v590 x11_2) ∧ Aside0 (Below w.heap.size w w'))
   case atStart => exact ⟨(t589), (0), pF, H', ⟨Nat.le_refl _⟩, ⟨pR HO591⟩, ⟨pB⟩⟩
   case round =>
    clear H'
    try clear c1
    try clear c2
    try clear p2
    try clear c3
    try clear c4
    try clear c5
    try clear p6
    try clear c7
    try clear c9
    try clear c9b0
    try clear c14
    try clear c19
    try clear c19b0
    try clear c19b1
    try clear c20
    try clear c20b0
    try clear c20b1
    try clear p2
    obtain ⟨x11_2, x12_2, rfl, HA, HK2, HO_11, HB⟩ := hrel
    cases gk with
    | zero => exact absurd HA.out (by simp [spec_DishNeeds.l0])
    | succ k2 =>
     have H := HA.out
     clear HA
     simp only [spec_DishNeeds.l0] at H
     rcases (Classical.em (x12_2 < (x11_2.length : Int))).symm with c28 | c28
     ·rw [if_neg c28] at H
      have c28b0 : decide (x12_2 < (x11_2.length : Int)) = false := decide_eq_false c28
      clear c28
      simp only [Option.some.injEq, Prod.mk.injEq] at H
      obtain ⟨rfl, rfl⟩ := H
      obtain ⟨Ao41, co41, eo41⟩ := Kd.R_slice HO_11.out
      subst eo41
      go_wp2
      go_ret2
      exact ⟨_, pE, pR HO_11, pB⟩
     rw [if_pos c28] at H
     have c28b0 : decide (x12_2 < (x11_2.length : Int)) = true := decide_eq_true c28
     clear c28
     rcases (Classical.em (0 ≤ x12_2)).symm with c29 | c29
     ·rw [if_neg c29] at H
      exact absurd H (by simp)
     rw [if_pos c29] at H
     have c29b0 : decide (0 ≤ x12_2) = true := decide_eq_true c29
     clear c29
     replace H := Option.bind_eq_some_iff.mp H
     obtain ⟨t593, A300, H⟩ := H
     replace H : ((some (x11_2.set (x12_2 : Int).toNat t593 : List Int)).bind fun y594 => (if (rd y594 x12_2) > 999999 then (some ((([] : List Int)), false)) else (spec_DishNeeds.l0 k2 t584 y594 (wrap64 (x12_2 + 1))))) = some (r1, r2) := H
     have A30 := Aside0.mk A300
     clear A300
     obtain ⟨y594, hy594⟩ : ∃ y_ : List Int, y_ = (x11_2.set (x12_2 : Int).toNat t593) := ⟨_, rfl⟩
     replace H : (if (rd y594 x12_2) > 999999 then (some ((([] : List Int)), false)) else (spec_DishNeeds.l0 k2 t584 y594 (wrap64 (x12_2 + 1)))) = some (r1, r2) := pJ hy594 H
     have Ny594 := Aside0.mk hy594
     clear hy594
     rcases (Classical.em ((rd y594 x12_2) > 999999)).symm with c32 | c32
     ·rw [if_neg c32] at H
      have c32b0 : decide (999999 < (rd y594 x12_2)) = false := decide_eq_false c32
      clear c32
      have H' := Aside0.mk H
      clear H
      obtain ⟨Ao38, co38, eo38⟩ := Kd.R_slice HO_11.out
      subst eo38
      have p592 : 0 ≤ (x12_2 : Int) := of_decide_eq_true pA
      have q592 : x12_2 < (x11_2.length : Int) := of_decide_eq_true pA
      obtain ⟨ad592, e592, hx592_0⟩ := Kd.at_int (Kd.R_reads' HO_11.out).2.2 x12_2 p592 q592
      cases e592
      replace p592 := eq_true p592
      replace q592 := eq_true q592
      go_wp2_with (first | ((with_reducible refine gate_callee (f := 75) rfl ?_); refine goesL_ (some 56) rfl rfl Try.func75 pL rfl #[.int .i64 (rd x11_2 x12_2), .int .i64 t584] rfl pM ?_; (with_reducible refine (spec_l1Up.calls (rd x11_2 x12_2) t584 t593 _ A30.out).mono ?_); rintro e w' ⟨rfl, ⟨nd, rfl⟩⟩; refine ⟨_, rfl, ?_⟩; (try (rw [drewN_self wr]; generalize hq_ : World.drewN wr _ = wr; have n0_ : Aside0 (Kd.R (Kd.int .i64) 3 wr w.heap.size (fun _ => True) (.slice (some ad592) x11_2.length co38) x11_2) := ⟨by rw [← hq_]; exact (pR HO_11)⟩; have n1_ : Aside0 (Below w.heap.size w wr) := ⟨by rw [← hq_]; exact pB⟩; clear HO_11 HB hq_; have HO_11 := n0_; have HB := n1_; clear n0_ n1_)); have p31 : 0 ≤ (x12_2 : Int) := of_decide_eq_true pA; have q31 : (x12_2 : Int) < ((x11_2.length : Int) : Int) := of_decide_eq_true pA; obtain ⟨go31, co31, eo31, gb31, gl31, cl31, HG31⟩ := Kd.R_form HO_11.out (by omega); (first | cases eo31 | (injection eo31 with ea_ en_ ec_; (first | subst ea_ | (injection ea_ with ea_; subst ea_)); subst ec_; clear en_)); have GB31 := Aside0.mk gb31; have GG31 := Aside0.mk HG31; clear gb31 gl31 HG31; (first | simp only [add_plain] at hx592_0 | skip); obtain ⟨hx31_0, hf31_0⟩ := Kd.R_celln 0 HO_11.out (x12_2 : Int) p31 q31; replace p31 := eq_true p31; replace q31 := eq_true q31; obtain ⟨hy39_, hz39_⟩ := Kd.R_celln 0 HO_11.out (x12_2 : Int) (of_decide_eq_true pA) (of_decide_eq_true pA); have HP39 := Kd.R_putg HO_11.out (x12_2 : Int) t593) | ((with_reducible refine gate_store (t := 3) (p := 57) rfl ?_); refine store_event (t := 3) (p := 57) (v := ?vo_w40) (w1 := (wr.setCell ⟨go31, (x12_2 : Int).toNat, none⟩ (.int .i64 t593))) ?hg ?ho ?hn ?hr ?_; (case ho => rfl); (case hg => rfl); (case hn => rfl); (case hr => first | (go_simp; done) | (go_simp; rfl)); intro w40 hw; have hg : wr.grownBy w40 (some go31) := (by rw [hw]; exact HP39.2); have hp_ : Kd.R (Kd.int .i64) 3 w40 w.heap.size (fun _ => True) (.slice (some ⟨go31, 0, none⟩) x11_2.length co38) y594 := (by rw [hw, Ny594.out]; exact HP39.1); clear HP39; have n0_ := Aside0.mk (hp_); have n1_ := Aside0.mk ((by rw [hw]; exact below_set (HB.out) GB31.out : Below w.heap.size w w40)); clear HO_11; clear HB; have HO_11 := n0_; have HB := n1_; clear n0_ n1_; clear hg hw hp_; have p595 : 0 ≤ (x12_2 : Int) := of_decide_eq_true pA; have q595 : x12_2 < (y594.length : Int) := (by have h_ : (x12_2 : Int) < ((x11_2.length : Int) : Int) := of_decide_eq_true pA; first | (have e_ := (Kd.R_reads' HO_11.out).1; omega) | simpa only [Ny594.out, List.length_set] using h_); have ql595 : ((x12_2 : Int) < ((x11_2.length : Int) : Int)) = True := eq_true (of_decide_eq_true pA); obtain ⟨ad595, e595, hx595_0⟩ := Kd.at_int (Kd.R_reads' HO_11.out).2.2 x12_2 p595 q595; obtain rfl : (⟨go31, 0, none⟩ : Addr) = ad595 := (by injection e595); (first | simp only [add_plain] at hx595_0 | simp only [add_at] at hx595_0 | simp only [Addr.add, Nat.zero_add] at hx595_0 | skip); replace p595 := eq_true p595; replace q595 := eq_true q595))
      go_roundg k2
      case measure => have := HJ4.out; have := HK2.out; omega
      case rel => exact ⟨(y594), (wrap64 (x12_2 + 1)), pF, H', ⟨by have := HJ4.out; have := HK2.out; omega⟩, ⟨pR HO_11⟩, ⟨pB⟩⟩
     rw [if_pos c32] at H
     have c32b0 : decide (999999 < (rd y594 x12_2)) = true := decide_eq_true c32
     clear c32
     obtain ⟨y596, hy596⟩ : ∃ y_ : List Int, y_ = (([] : List Int)) := ⟨_, rfl⟩
     replace H : (some (y596, false)) = some (r1, r2) := pJ hy596 H
     have Ny596 := Aside0.mk hy596
     clear hy596
     simp only [Option.some.injEq, Prod.mk.injEq] at H
     obtain ⟨rfl, rfl⟩ := H
     obtain ⟨Ao33, co33, eo33⟩ := Kd.R_slice HO_11.out
     subst eo33
     have p592 : 0 ≤ (x12_2 : Int) := of_decide_eq_true pA
     have q592 : x12_2 < (x11_2.length : Int) := of_decide_eq_true pA
     obtain ⟨ad592, e592, hx592_0⟩ := Kd.at_int (Kd.R_reads' HO_11.out).2.2 x12_2 p592 q592
     cases e592
     replace p592 := eq_true p592
     replace q592 := eq_true q592
     go_wp2_with (first | ((with_reducible refine gate_callee (f := 75) rfl ?_); refine goesL_ (some 56) rfl rfl Try.func75 pL rfl #[.int .i64 (rd x11_2 x12_2), .int .i64 t584] rfl pM ?_; (with_reducible refine (spec_l1Up.calls (rd x11_2 x12_2) t584 t593 _ A30.out).mono ?_); rintro e w' ⟨rfl, ⟨nd, rfl⟩⟩; refine ⟨_, rfl, ?_⟩; (try (rw [drewN_self wr]; generalize hq_ : World.drewN wr _ = wr; have n0_ : Aside0 (Kd.R (Kd.int .i64) 3 wr w.heap.size (fun _ => True) (.slice (some ad592) x11_2.length co33) x11_2) := ⟨by rw [← hq_]; exact (pR HO_11)⟩; have n1_ : Aside0 (Below w.heap.size w wr) := ⟨by rw [← hq_]; exact pB⟩; clear HO_11 HB hq_; have HO_11 := n0_; have HB := n1_; clear n0_ n1_)); have p31 : 0 ≤ (x12_2 : Int) := of_decide_eq_true pA; have q31 : (x12_2 : Int) < ((x11_2.length : Int) : Int) := of_decide_eq_true pA; obtain ⟨go31, co31, eo31, gb31, gl31, cl31, HG31⟩ := Kd.R_form HO_11.out (by omega); (first | cases eo31 | (injection eo31 with ea_ en_ ec_; (first | subst ea_ | (injection ea_ with ea_; subst ea_)); subst ec_; clear en_)); have GB31 := Aside0.mk gb31; have GG31 := Aside0.mk HG31; clear gb31 gl31 HG31; (first | simp only [add_plain] at hx592_0 | skip); obtain ⟨hx31_0, hf31_0⟩ := Kd.R_celln 0 HO_11.out (x12_2 : Int) p31 q31; replace p31 := eq_true p31; replace q31 := eq_true q31; obtain ⟨hy34_, hz34_⟩ := Kd.R_celln 0 HO_11.out (x12_2 : Int) (of_decide_eq_true pA) (of_decide_eq_true pA); have HP34 := Kd.R_putg HO_11.out (x12_2 : Int) t593) | ((with_reducible refine gate_store (t := 3) (p := 57) rfl ?_); refine store_event (t := 3) (p := 57) (v := ?vo_w35) (w1 := (wr.setCell ⟨go31, (x12_2 : Int).toNat, none⟩ (.int .i64 t593))) ?hg ?ho ?hn ?hr ?_; (case ho => rfl); (case hg => rfl); (case hn => rfl); (case hr => first | (go_simp; done) | (go_simp; rfl)); intro w35 hw; have hg : wr.grownBy w35 (some go31) := (by rw [hw]; exact HP34.2); have hp_ : Kd.R (Kd.int .i64) 3 w35 w.heap.size (fun _ => True) (.slice (some ⟨go31, 0, none⟩) x11_2.length co33) y594 := (by rw [hw, Ny594.out]; exact HP34.1); clear HP34; have n0_ := Aside0.mk (hp_); have n1_ := Aside0.mk ((by rw [hw]; exact below_set (HB.out) GB31.out : Below w.heap.size w w35)); clear HO_11; clear HB; have HO_11 := n0_; have HB := n1_; clear n0_ n1_; clear hg hw hp_; have p595 : 0 ≤ (x12_2 : Int) := of_decide_eq_true pA; have q595 : x12_2 < (y594.length : Int) := (by have h_ : (x12_2 : Int) < ((x11_2.length : Int) : Int) := of_decide_eq_true pA; first | (have e_ := (Kd.R_reads' HO_11.out).1; omega) | simpa only [Ny594.out, List.length_set] using h_); have ql595 : ((x12_2 : Int) < ((x11_2.length : Int) : Int)) = True := eq_true (of_decide_eq_true pA); obtain ⟨ad595, e595, hx595_0⟩ := Kd.at_int (Kd.R_reads' HO_11.out).2.2 x12_2 p595 q595; obtain rfl : (⟨go31, 0, none⟩ : Addr) = ad595 := (by injection e595); (first | simp only [add_plain] at hx595_0 | simp only [add_at] at hx595_0 | simp only [Addr.add, Nat.zero_add] at hx595_0 | skip); replace p595 := eq_true p595; replace q595 := eq_true q595) | ((with_reducible refine gate_dst (N := 63) rfl ?_); refine Kd.R_lit (Kd.int .i64) _ 3 ?hg (N := 63) ?hd (xs := ([] : List Int)) (inner := []) (ok := fun _ => True) (okp := fun _ => True) ?hr ?hp (fun _ hk => hk) trivial (Below.refl _ _) (Nat.le_refl _) (by simp) ?_; (case hd => rfl); (case hg => rfl); (case hr => first | (go_simp; done) | (go_simp; rfl)); (case hp => exact (Reps.none _ _)); intro v597 w36 ho37 hb hg_ hnew_; clear hg_ hnew_; (first | rw [← Ny596.out] at ho37 | (simp only [Int.reduceToNat] at ho37; rw [← Ny596.out] at ho37)); have n0_ := Aside0.mk (Kd.R_elder' (pR HO_11) (Kd.R_base ho37) hb); have n1_ := Aside0.mk (Kd.R_lower (Kd.R_new' ho37 (Kd.R_lt (pR HO_11))) (below_size pB)); have n2_ := Aside0.mk (below_step pB hb); clear HO_11; clear HB; have HO_11 := n0_; have HO598 := n1_; have HB := n2_; clear n0_ n1_ n2_; clear hb ho37))
     go_ret2
     exact ⟨_, pE, by (with_reducible repeat (first | apply Kd.R_alloc | apply Kd.R_drewN | apply Kd.R_drew)); exact Kd.R_mono HO598.out (fun _ hk => trivial), pB⟩
/-! ### impl_addNeeds: function 77 -/
mutual
def impl_addNeeds.l0 : Nat → List (S29) → List (S63) → Int → List Int → List (S55) → Int → Int → Int → Int → List (S55) → Option (List Int)
 | 0, _, _, _, _, _, _, _, _, _, _ => none
 | k + 1, x0, x1, x3, x4, x21, x22, x23, x602000, x602001, x602002 => if x23 < x22 then (if 0 ≤ x23 then (if x23 < (x21.length : Int) then (if x602001 = 0 then (none) else (if ((rd_T55 x21 x23).f0) > 0 then ((impl_foodPlace.f x1 ((rd_T55 x21 x23).f0)).bind fun t604 => (if 0 ≤ t604 then (if t604 < (x4.length : Int) then (impl_addNeeds.l0 k x0 x1 x3 (x4.set (t604 : Int).toNat (wrap64 ((rd x4 t604) + (wrap64 ((wrap64 (Int.tdiv x3 x602001)) * ((rd_T55 x21 x23).f2)))))) x21 x22 (wrap64 (x23 + 1)) x602000 x602001 x602002) else (none)) else (none))) else ((impl_addNeeds.f k x0 x1 ((rd_T55 x21 x23).f1) (wrap64 ((wrap64 (Int.tdiv x3 x602001)) * ((rd_T55 x21 x23).f2))) x4).bind fun t607 => (impl_addNeeds.l0 k x0 x1 x3 t607 x21 x22 (wrap64 (x23 + 1)) x602000 x602001 x602002)))) else (none)) else (none)) else (some x4)
def impl_addNeeds.f : Nat → List (S29) → List (S63) → Int → Int → List Int → Option (List Int)
 | 0, _, _, _, _, _ => none
 | k + 1, l0, l1, a2, a3, l4 => (impl_DishesFind.f l0 a2).bind fun t599 => (if 0 ≤ t599 then (if t599 < (l0.length : Int) then (impl_addNeeds.l0 k l0 l1 a3 l4 ((rd_T29 l0 t599).f2) (((rd_T29 l0 t599).f2).length : Int) 0 ((rd_T29 l0 t599).f0) ((rd_T29 l0 t599).f1) ((rd_T29 l0 t599).f2)) else (none)) else (none))
end
theorem impl_addNeeds.mono_l : ∀ k, (∀ y0 y1 y2 y3 y4, LeO (impl_addNeeds.f k y0 y1 y2 y3 y4) (impl_addNeeds.f (k + 1) y0 y1 y2 y3 y4)) ∧ (∀ y0 y1 y2 y3 y4 y5 y6 y7 y8 y9, LeO (impl_addNeeds.l0 k y0 y1 y2 y3 y4 y5 y6 y7 y8 y9) (impl_addNeeds.l0 (k + 1) y0 y1 y2 y3 y4 y5 y6 y7 y8 y9))
 | 0 => ⟨fun _ _ _ _ _ r h => by simp [impl_addNeeds.f] at h, fun _ _ _ _ _ _ _ _ _ _ r h => by simp [impl_addNeeds.l0] at h⟩
 | k + 1 => by
  obtain ⟨ih0, ih1⟩ := impl_addNeeds.mono_l k
  refine ⟨?_, ?_⟩
  ·intro y0 y1 y2 y3 y4
   unfold impl_addNeeds.f
   repeat' first
   | (with_reducible exact ih0 _ _ _ _ _)
   | (with_reducible exact ih1 _ _ _ _ _ _ _ _ _ _)
   | (with_reducible exact LeO.refl _)
   | (with_reducible exact LeO.none _)
   | (with_reducible refine LeO.ite ?_ ?_)
   | (with_reducible refine LeO.bind ?_ (fun _ => ?_))
   | exact ih0 _ _ _ _ _
   | exact ih1 _ _ _ _ _ _ _ _ _ _
   | exact LeO.none _
   | refine LeO.ite ?_ ?_
   | refine LeO.bind ?_ (fun _ => ?_)
  ·intro y0 y1 y2 y3 y4 y5 y6 y7 y8 y9
   unfold impl_addNeeds.l0
   repeat' first
   | (with_reducible exact ih0 _ _ _ _ _)
   | (with_reducible exact ih1 _ _ _ _ _ _ _ _ _ _)
   | (with_reducible exact LeO.refl _)
   | (with_reducible exact LeO.none _)
   | (with_reducible refine LeO.ite ?_ ?_)
   | (with_reducible refine LeO.bind ?_ (fun _ => ?_))
   | exact ih0 _ _ _ _ _
   | exact ih1 _ _ _ _ _ _ _ _ _ _
   | exact LeO.none _
   | refine LeO.ite ?_ ?_
   | refine LeO.bind ?_ (fun _ => ?_)
theorem impl_addNeeds.mono : ∀ a0 a1 a2 a3 a4 k, LeO (impl_addNeeds.f k a0 a1 a2 a3 a4) (impl_addNeeds.f (k + 1) a0 a1 a2 a3 a4) := by
 intro a0 a1 a2 a3 a4 k
 obtain ⟨ih0, ih1⟩ := impl_addNeeds.mono_l k
 exact ih0 a0 a1 a2 a3 a4
theorem impl_addNeeds.cLt_ {α : Type} {d : Kd α} {W : World} {A : Option Addr} {n : Nat} {xs : List α} (h : d.C W A n xs) {ad : Addr} (he : A = some ad) (hp : 0 < n) (hs : 0 < d.sz) : ad.block < W.heap.size := by
 subst he
 cases xs with
 | nil => exact absurd h.1 (by simp; omega)
 | cons x xs' =>
  obtain ⟨ad', c, e, hcl, _, hcc⟩ := Kd.C_get h x 0 (Int.le_refl 0) (by omega)
  injection e with e
  subst e
  have h4 := hcc 0 _ (List.getElem?_eq_getElem (by omega))
  have h5 := World.block_lt_of_cell? W _ h4
  rwa [add_block] at h5
theorem impl_addNeeds.keptCell_ {α : Type} {d : Kd α} {w W W_ : World} {S : Nat → Prop} {ad : Addr} {n : Nat} {xs : List α} (h : ∀ W', Kept w W' S → d.C W' (some ad) n xs) (hs : 0 < d.sz) (hn : 0 < n) (hW : Kept w W S) (hW_ : Kept w W_ S) (a : Addr) (ha : a.block = ad.block) : W_.cell? a = W.cell? a := by
 have hlt : ad.block < w.heap.size := impl_addNeeds.cLt_ (h w (Kept.refl w S)) rfl hn hs
 have hS : ¬ S ad.block := by
  intro hS
  have hk : Kept w { w with heap := w.heap.setIfInBounds ad.block (.cells #[] 0) } S := ⟨by simp, fun k _ hk => by
   have : ad.block ≠ k := fun e => hk (e ▸ hS)
   simp [this]⟩
  have hC := h _ hk
  cases xs with
  | nil => exact absurd hC.1 (by simp; omega)
  | cons x xs' =>
   obtain ⟨ad', c, e, hcl, _, hcc⟩ := Kd.C_get hC x 0 (Int.le_refl 0) (by omega)
   injection e with e
   subst e
   have h4 := hcc 0 _ (List.getElem?_eq_getElem (by omega))
   simp [World.cell?, add_block, hlt] at h4
 have e1 := hW.2 _ hlt hS
 have e2 := hW_.2 _ hlt hS
 rw [← ha] at e1 e2
 simp only [World.cell?, e1, e2]
theorem impl_addNeeds.footIn_ {w W : World} {S : Nat → Prop} {ad : Addr} {n : Nat} {xs : List S29} (h : ∀ W', Kept w W' S → Kd.C k29 W' (some ad) n xs) (hW : Kept w W S) (i : Int) (h0 : 0 ≤ i) (h1 : i < n) {A2 : Option Addr} {c2 : Nat} (hx : W.cell? ⟨(ad.add (i.toNat * 3)).block, (ad.add (i.toNat * 3)).off + 2, none⟩ = some (.slice A2 (rd_T29 xs i).f2.length c2)) : ∀ W', Kept w W' S → Kd.C k55 W' A2 (rd_T29 xs i).f2.length (rd_T29 xs i).f2 := by
 intro W_ hK
 obtain ⟨ad_, A_, c_, e_, _, _, hx_, _, hi_⟩ := at_T29 (h W_ hK) i h0 h1
 injection e_ with e_
 subst e_
 rw [impl_addNeeds.keptCell_ h (by decide) (by omega) hW hK _ (by rw [add_block])] at hx_
 rw [hx_] at hx
 injection hx with hx
 injection hx with hx
 subst hx
 exact hi_
theorem F77.q0 {P : Prop} (h : P := by repeat (first | (with_reducible first | exact HK.out | apply Kept.alloc | apply Kept.drewN | apply Kept.drew | refine Kept.setCell ?_ (.inr GW601.out) _ | refine Kept.setCell ?_ (.inr GW603.out) _) | exact HK.out)) : P := h
theorem F77.q1 {P : Prop} (h : P := by (with_reducible repeat (first | refine blk_drewN ?_ _ | refine blk_drew ?_ | refine blk_alloc ?_ _)); refine blk_put (cs := #[.int .i64 ((rd_T55 ((rd_T29 l0 t599).f2) x23_1).f0), .int .i64 ((rd_T55 ((rd_T29 l0 t599).f2) x23_1).f1), .int .i64 0]) ?_ 2 _ rfl; (with_reducible repeat (first | refine blk_drewN ?_ _ | refine blk_drew ?_ | refine blk_alloc ?_ _)); refine blk_put (cs := #[.int .i64 ((rd_T55 ((rd_T29 l0 t599).f2) x23_1).f0), .int .i64 0, .int .i64 0]) ?_ 1 _ rfl; (with_reducible repeat (first | refine blk_drewN ?_ _ | refine blk_drew ?_ | refine blk_alloc ?_ _)); refine blk_put (cs := #[.int .i64 0, .int .i64 0, .int .i64 0]) ?_ 0 _ rfl; (with_reducible repeat (first | refine blk_drewN ?_ _ | refine blk_drew ?_ | refine blk_alloc ?_ _)); exact BK603.out) : P := h
theorem F77.q2 {P : Prop} (h : P := by (with_reducible repeat (first | refine blk_drewN ?_ _ | refine blk_drew ?_ | refine blk_alloc ?_ _)); refine blk_far ?_ NB601_603.out _; (with_reducible repeat (first | refine blk_drewN ?_ _ | refine blk_drew ?_ | refine blk_alloc ?_ _)); refine blk_far ?_ NB601_603.out _; (with_reducible repeat (first | refine blk_drewN ?_ _ | refine blk_drew ?_ | refine blk_alloc ?_ _)); refine blk_far ?_ NB601_603.out _; (with_reducible repeat (first | refine blk_drewN ?_ _ | refine blk_drew ?_ | refine blk_alloc ?_ _)); exact BK601.out) : P := h
theorem F77.q3 {P : Prop} (h : P := by repeat (first | (with_reducible first | exact HB.out | apply below_alloc | apply pw_below_drewN | apply below_drew1 | refine below_set ?_ GE601.out | refine below_set ?_ GE603.out) | exact HB.out)) : P := h
theorem F77.q4 {P : Prop} (h : P := by first | exact HK.out.1 | exact (show Kept w _ (fun k_ => P4_ k_) from by repeat (first | (with_reducible first | exact HK.out | apply Kept.alloc | apply Kept.drewN | apply Kept.drew | refine Kept.setCell ?_ (.inr GW601.out) _) | exact HK.out)).1) : P := h
theorem F77.q5 {P : Prop} (h : P := by (with_reducible repeat (first | apply Kd.R_alloc | apply Kd.R_drewN | apply Kd.R_drew)); exact (Kd.R_mono (Kd.R_far (p := ⟨gb603, 2, none⟩) (Kd.R_far (p := ⟨gb603, 1, none⟩) (Kd.R_far (p := ⟨gb603, 0, none⟩) (Kd.R_types HO_4.out BK603.out (by decide)) (fun _ hk => hk.2) (.int .i64 ((rd_T55 ((rd_T29 l0 t599).f2) x23_1).f0))) (fun _ hk => hk.2) (.int .i64 ((rd_T55 ((rd_T29 l0 t599).f2) x23_1).f1))) (fun _ hk => hk.2) (.int .i64 ((rd_T55 ((rd_T29 l0 t599).f2) x23_1).f2))) (fun _ h_ => h_.1))) : P := h
theorem F77.q6 {P : Prop} (h : P := by (with_reducible repeat (first | apply Kd.R_alloc | apply Kd.R_drewN | apply Kd.R_drew)); exact Kd.R_mono (Kd.R_far (p := ⟨gb603, 2, none⟩) (Kd.R_far (p := ⟨gb603, 1, none⟩) (Kd.R_far (p := ⟨gb603, 0, none⟩) (Kd.R_types HO_4.out BK603.out (by decide)) (fun _ hk => hk.2) (.int .i64 ((rd_T55 ((rd_T29 l0 t599).f2) x23_1).f0))) (fun _ hk => hk.2) (.int .i64 ((rd_T55 ((rd_T29 l0 t599).f2) x23_1).f1))) (fun _ hk => hk.2) (.int .i64 ((rd_T55 ((rd_T29 l0 t599).f2) x23_1).f2))) (fun _ hk => hk.1)) : P := h
theorem F77.q7 {P : Prop} (h : P := by repeat (first | (with_reducible first | exact HK.out | apply Kept.alloc | apply Kept.drewN | apply Kept.drew) | exact HK.out)) : P := h
set_option maxHeartbeats 8000000 in
set_option maxRecDepth 100000 in
theorem impl_addNeeds.calls (k : Nat) : ∀ (A0 : Option Addr) (c0 : Nat) (l0 : List (S29)) (A1 : Option Addr) (c1 : Nat) (l1 : List (S63)) (a2 : Int) (a3 : Int) (P4_ : Nat → Prop) (u9000_ : Value) (l4 : List Int) (r : List Int) (w0 w : World) (hB : Below w0.heap.size w0 w) (hr0 : ∀ W_, Kept w W_ (fun k_ => P4_ k_) → Kd.C k29 W_ A0 l0.length l0) (hc0 : l0.length ≤ c0) (hr1 : ∀ W_, Kept w W_ (fun k_ => P4_ k_) → Kd.C k63 W_ A1 l1.length l1) (hc1 : l1.length ≤ c1) (ho4 : Kd.R (Kd.int .i64) 3 w w0.heap.size P4_ u9000_ l4) (h : impl_addNeeds.f k l0 l1 a2 a3 l4 = some r),
  Calls Try.prog 77 #[.slice A0 l0.length c0, .slice A1 l1.length c1, .int .i64 a2, .int .i64 a3, u9000_] w fun e w' => e = .returned (.tuple #[]) ∧ Kd.R (Kd.int .i64) 3 w' w0.heap.size (fun k_ => (P4_ k_ ∨ w.heap.size ≤ k_)) u9000_ r ∧ Below w0.heap.size w0 w' ∧ Kept w w' (fun k_ => P4_ k_) := by
 induction k using Nat.strongRecOn with
 | _ k ih =>
 intro A0 c0 l0 A1 c1 l1 a2 a3 P4_ u9000_ l4 r w0 w hB hr0 hc0 hr1 hc1 ho4 h
 cases k with
 | zero => exact absurd h (by simp [impl_addNeeds.f])
 | succ k =>
 simp only [impl_addNeeds.f] at h
 have hu29 := Try.underlying29
 have hu55 := Try.underlying55
 have HR0 := Aside0.mk hr0
 have HC0 := Aside0.mk hc0
 clear hr0 hc0
 have HR1 := Aside0.mk hr1
 have HC1 := Aside0.mk hc1
 clear hr1 hc1
 have HO4 := Aside0.mk (show Kd.R (Kd.int .i64) 3 w w0.heap.size (fun k_ => (P4_ k_ ∨ w.heap.size ≤ k_)) u9000_ l4 from Kd.R_mono ho4 (fun k_ hk => (.inl hk)))
 have HK := Aside0.mk (Kept.refl w (fun k_ => P4_ k_))
 have HW0 := Aside0.mk hB.size
 have HB := Aside0.mk hB
 clear hB
 have H : ((impl_DishesFind.f l0 a2).bind fun t599 => (if 0 ≤ t599 then (if t599 < (l0.length : Int) then (impl_addNeeds.l0 k l0 l1 a3 l4 ((rd_T29 l0 t599).f2) (((rd_T29 l0 t599).f2).length : Int) 0 ((rd_T29 l0 t599).f0) ((rd_T29 l0 t599).f1) ((rd_T29 l0 t599).f2)) else (none)) else (none))) = some r := h
 clear h
 replace H := Option.bind_eq_some_iff.mp H
 obtain ⟨t599, A60, H⟩ := H
 replace H : (if 0 ≤ t599 then (if t599 < (l0.length : Int) then (impl_addNeeds.l0 k l0 l1 a3 l4 ((rd_T29 l0 t599).f2) (((rd_T29 l0 t599).f2).length : Int) 0 ((rd_T29 l0 t599).f0) ((rd_T29 l0 t599).f1) ((rd_T29 l0 t599).f2)) else (none)) else (none)) = some r := H
 have A6 := Aside0.mk A60
 clear A60
 rcases (Classical.em (0 ≤ t599)).symm with c7 | c7
 ·rw [if_neg c7] at H
  exact absurd H (by simp)

 rw [if_pos c7] at H
 have c7b0 : decide (0 ≤ t599) = true := decide_eq_true c7
 clear c7
 rcases (Classical.em (t599 < (l0.length : Int))).symm with c8 | c8
 ·rw [if_neg c8] at H
  exact absurd H (by simp)
 rw [if_pos c8] at H
 have c8b0 : decide (t599 < (l0.length : Int)) = true := decide_eq_true c8
 clear c8
 have H' := Aside0.mk H
 clear H
 go_enter Try.func77, Try.ntmps77
 go_wp2_with (first | (go_at_call 20; (with_reducible refine (impl_DishesFind.calls _ _ l0 a2 t599 _ ?side1 ?side2 A6.out).mono ?_); (case side1 => exact Kd.C_kept_now HR0.out F77.q7); (case side2 => exact HC0.out); rintro e w9 ⟨rfl, hb⟩; have n0_ := Aside0.mk (Kd.R_below (pR HO4) hb); have n1_ := Aside0.mk (Kept.below (S := (fun k_ => P4_ k_)) F77.q7 hb); have n2_ := Aside0.mk (below_step pB hb); clear HO4; clear HK; clear HB; have HO4 := n0_; have HK := n1_; have HB := n2_; clear n0_ n1_ n2_; (try clear hb); (try clear hb2); (try clear hk); (try clear hi); have p600 : 0 ≤ (t599 : Int) := of_decide_eq_true pA; have q600 : t599 < (l0.length : Int) := of_decide_eq_true pA; obtain ⟨ad600, A600_2, c600_2, e600, hx600_0, hx600_1, hx600_2, hl600_2, hi600_2⟩ := at_T29 (Kd.C_kept_now HR0.out HK.out) t599 p600 q600; cases e600; have HR600_2 := Aside0.mk (impl_addNeeds.footIn_ HR0.out (HK.out) t599 p600 q600 hx600_2); have HC600_2 := Aside0.mk hl600_2; clear hi600_2 hl600_2; replace p600 := eq_true p600; replace q600 := eq_true q600) | ((with_reducible refine gate_dst (N := 10) rfl ?_); refine box_event ?hg (N := 10) ?hd (cs := #[.int .i64 0, .int .i64 0, .slice none 0 0]) (t := 29) ?hr ?_; (case hd => rfl); (case hg => rfl); (case hr => first | (go_simp; done) | (go_simp; rfl)); intro gb601 hg w10 hbox hb; have n0_ := Aside0.mk (Kd.R_below (pR HO4) hb); have n1_ := Aside0.mk (Kept.below (S := (fun k_ => P4_ k_)) F77.q7 hb); have n2_ := Aside0.mk (below_step pB hb); have n3_ := Aside0.mk (hbox); have n4_ := Aside0.mk ((by rw [hg]; exact (by first | exact HK.out.1 | exact (show Kept w _ (fun k_ => P4_ k_) from F77.q7).1) : w.heap.size ≤ gb601)); have n5_ := Aside0.mk ((by rw [hg]; exact (below_size pB) : w0.heap.size ≤ gb601)); clear HO4; clear HK; clear HB; have HO4 := n0_; have HK := n1_; have HB := n2_; have BK601 := n3_; have GW601 := n4_; have GE601 := n5_; clear n0_ n1_ n2_ n3_ n4_ n5_; clear hb hbox hg; have hcz11_0 : w10.cell? ⟨gb601, 0, none⟩ = some (.int .i64 0) := (blk_cell BK601.out 0).trans rfl; have hcz11_1 : w10.cell? ⟨gb601, 1, none⟩ = some (.int .i64 0) := (blk_cell BK601.out 1).trans rfl; have hcz11_2 : w10.cell? ⟨gb601, 2, none⟩ = some (.slice none 0 0) := (blk_cell BK601.out 2).trans rfl; have hfz11_0 := blk_frozen BK601.out 0; have hfz11_1 := blk_frozen BK601.out 1; have hfz11_2 := blk_frozen BK601.out 2))
 repeat (go_quiet (first | (go_at_call 20; (with_reducible refine (impl_DishesFind.calls _ _ l0 a2 t599 _ ?side1 ?side2 A6.out).mono ?_); (case side1 => exact Kd.C_kept_now HR0.out F77.q7); (case side2 => exact HC0.out); rintro e w9 ⟨rfl, hb⟩; have n0_ := Aside0.mk (Kd.R_below (pR HO4) hb); have n1_ := Aside0.mk (Kept.below (S := (fun k_ => P4_ k_)) F77.q7 hb); have n2_ := Aside0.mk (below_step pB hb); clear HO4; clear HK; clear HB; have HO4 := n0_; have HK := n1_; have HB := n2_; clear n0_ n1_ n2_; (try clear hb); (try clear hb2); (try clear hk); (try clear hi); have p600 : 0 ≤ (t599 : Int) := of_decide_eq_true pA; have q600 : t599 < (l0.length : Int) := of_decide_eq_true pA; obtain ⟨ad600, A600_2, c600_2, e600, hx600_0, hx600_1, hx600_2, hl600_2, hi600_2⟩ := at_T29 (Kd.C_kept_now HR0.out HK.out) t599 p600 q600; cases e600; have HR600_2 := Aside0.mk (impl_addNeeds.footIn_ HR0.out (HK.out) t599 p600 q600 hx600_2); have HC600_2 := Aside0.mk hl600_2; clear hi600_2 hl600_2; replace p600 := eq_true p600; replace q600 := eq_true q600) | ((with_reducible refine gate_dst (N := 10) rfl ?_); refine box_event ?hg (N := 10) ?hd (cs := #[.int .i64 0, .int .i64 0, .slice none 0 0]) (t := 29) ?hr ?_; (case hd => rfl); (case hg => rfl); (case hr => first | (go_simp; done) | (go_simp; rfl)); intro gb601 hg w10 hbox hb; have n0_ := Aside0.mk (Kd.R_below (pR HO4) hb); have n1_ := Aside0.mk (Kept.below (S := (fun k_ => P4_ k_)) F77.q7 hb); have n2_ := Aside0.mk (below_step pB hb); have n3_ := Aside0.mk (hbox); have n4_ := Aside0.mk ((by rw [hg]; exact (by first | exact HK.out.1 | exact (show Kept w _ (fun k_ => P4_ k_) from F77.q7).1) : w.heap.size ≤ gb601)); have n5_ := Aside0.mk ((by rw [hg]; exact (below_size pB) : w0.heap.size ≤ gb601)); clear HO4; clear HK; clear HB; have HO4 := n0_; have HK := n1_; have HB := n2_; have BK601 := n3_; have GW601 := n4_; have GE601 := n5_; clear n0_ n1_ n2_ n3_ n4_ n5_; clear hb hbox hg; have hcz11_0 : w10.cell? ⟨gb601, 0, none⟩ = some (.int .i64 0) := (blk_cell BK601.out 0).trans rfl; have hcz11_1 : w10.cell? ⟨gb601, 1, none⟩ = some (.int .i64 0) := (blk_cell BK601.out 1).trans rfl; have hcz11_2 : w10.cell? ⟨gb601, 2, none⟩ = some (.slice none 0 0) := (blk_cell BK601.out 2).trans rfl; have hfz11_0 := blk_frozen BK601.out 0; have hfz11_1 := blk_frozen BK601.out 1; have hfz11_2 := blk_frozen BK601.out 2)); try go_wp2_with (first | (go_at_call 20; (with_reducible refine (impl_DishesFind.calls _ _ l0 a2 t599 _ ?side1 ?side2 A6.out).mono ?_); (case side1 => exact Kd.C_kept_now HR0.out F77.q7); (case side2 => exact HC0.out); rintro e w9 ⟨rfl, hb⟩; have n0_ := Aside0.mk (Kd.R_below (pR HO4) hb); have n1_ := Aside0.mk (Kept.below (S := (fun k_ => P4_ k_)) F77.q7 hb); have n2_ := Aside0.mk (below_step pB hb); clear HO4; clear HK; clear HB; have HO4 := n0_; have HK := n1_; have HB := n2_; clear n0_ n1_ n2_; (try clear hb); (try clear hb2); (try clear hk); (try clear hi); have p600 : 0 ≤ (t599 : Int) := of_decide_eq_true pA; have q600 : t599 < (l0.length : Int) := of_decide_eq_true pA; obtain ⟨ad600, A600_2, c600_2, e600, hx600_0, hx600_1, hx600_2, hl600_2, hi600_2⟩ := at_T29 (Kd.C_kept_now HR0.out HK.out) t599 p600 q600; cases e600; have HR600_2 := Aside0.mk (impl_addNeeds.footIn_ HR0.out (HK.out) t599 p600 q600 hx600_2); have HC600_2 := Aside0.mk hl600_2; clear hi600_2 hl600_2; replace p600 := eq_true p600; replace q600 := eq_true q600) | ((with_reducible refine gate_dst (N := 10) rfl ?_); refine box_event ?hg (N := 10) ?hd (cs := #[.int .i64 0, .int .i64 0, .slice none 0 0]) (t := 29) ?hr ?_; (case hd => rfl); (case hg => rfl); (case hr => first | (go_simp; done) | (go_simp; rfl)); intro gb601 hg w10 hbox hb; have n0_ := Aside0.mk (Kd.R_below (pR HO4) hb); have n1_ := Aside0.mk (Kept.below (S := (fun k_ => P4_ k_)) F77.q7 hb); have n2_ := Aside0.mk (below_step pB hb); have n3_ := Aside0.mk (hbox); have n4_ := Aside0.mk ((by rw [hg]; exact (by first | exact HK.out.1 | exact (show Kept w _ (fun k_ => P4_ k_) from F77.q7).1) : w.heap.size ≤ gb601)); have n5_ := Aside0.mk ((by rw [hg]; exact (below_size pB) : w0.heap.size ≤ gb601)); clear HO4; clear HK; clear HB; have HO4 := n0_; have HK := n1_; have HB := n2_; have BK601 := n3_; have GW601 := n4_; have GE601 := n5_; clear n0_ n1_ n2_ n3_ n4_ n5_; clear hb hbox hg; have hcz11_0 : w10.cell? ⟨gb601, 0, none⟩ = some (.int .i64 0) := (blk_cell BK601.out 0).trans rfl; have hcz11_1 : w10.cell? ⟨gb601, 1, none⟩ = some (.int .i64 0) := (blk_cell BK601.out 1).trans rfl; have hcz11_2 : w10.cell? ⟨gb601, 2, none⟩ = some (.slice none 0 0) := (blk_cell BK601.out 2).trans rfl; have hfz11_0 := blk_frozen BK601.out 0; have hfz11_1 := blk_frozen BK601.out 1; have hfz11_2 := blk_frozen BK601.out 2)))
 go_loopg [23] k (fun kq v23 w' => ∃ (x4_1 : List Int) (x23_1 : Int), v23 = .int .i64 x23_1 ∧ Aside0 (impl_addNeeds.l0 kq l0 l1 a3 x4_1 ((rd_T29 l0 t599).f2) (((rd_T29 l0 t599).f2).length : Int) x23_1 ((rd_T29 l0 t599).f0) ((rd_T29 l0 t599).f1) ((rd_T29 l0 t599).f2) = some r) ∧ Aside0 (kq ≤ k) ∧ Aside0 (Kd.R (Kd.int .i64) 3 w' w0.heap.size (fun k_ => (P4_ k_ ∨ w.heap.size ≤ k_)) u9000_ x4_1) ∧ Aside0 (w'.heap[gb601]? = some (.cells #[.int .i64 ((rd_T29 l0 t599).f0), .int .i64 ((rd_T29 l0 t599).f1), (.slice A600_2 ((rd_T29 l0 t599).f2).length c600_2)] 29 (0, 0))) ∧ Aside0 (Kept w w' (fun k_ => P4_ k_)) ∧ Aside0 (Below w0.heap.size w0 w'))
 case atStart => exact ⟨(l4), (0), pF, H', ⟨Nat.le_refl _⟩, ⟨by (with_reducible repeat (first | apply Kd.R_alloc | apply Kd.R_drewN | apply Kd.R_drew)); exact Kd.R_mono (Kd.R_far (p := ⟨gb601, 2, none⟩) (Kd.R_far (p := ⟨gb601, 1, none⟩) (Kd.R_far (p := ⟨gb601, 0, none⟩) (Kd.R_types HO4.out BK601.out (by decide)) (fun _ hk => hk.2) (.int .i64 ((rd_T29 l0 t599).f0))) (fun _ hk => hk.2) (.int .i64 ((rd_T29 l0 t599).f1))) (fun _ hk => hk.2) (.slice A600_2 ((rd_T29 l0 t599).f2).length c600_2)) (fun _ hk => hk.1)⟩, ⟨by (with_reducible repeat (first | refine blk_drewN ?_ _ | refine blk_drew ?_ | refine blk_alloc ?_ _)); refine blk_put (cs := #[.int .i64 ((rd_T29 l0 t599).f0), .int .i64 ((rd_T29 l0 t599).f1), .slice none 0 0]) ?_ 2 _ rfl; (with_reducible repeat (first | refine blk_drewN ?_ _ | refine blk_drew ?_ | refine blk_alloc ?_ _)); refine blk_put (cs := #[.int .i64 ((rd_T29 l0 t599).f0), .int .i64 0, .slice none 0 0]) ?_ 1 _ rfl; (with_reducible repeat (first | refine blk_drewN ?_ _ | refine blk_drew ?_ | refine blk_alloc ?_ _)); refine blk_put (cs := #[.int .i64 0, .int .i64 0, .slice none 0 0]) ?_ 0 _ rfl; (with_reducible repeat (first | refine blk_drewN ?_ _ | refine blk_drew ?_ | refine blk_alloc ?_ _)); exact BK601.out⟩, ⟨pH GW601⟩, ⟨pG GE601⟩⟩
 case round =>
  clear H'
  try clear c1
  try clear p2
  try clear c6
  try clear p6
  try clear q6
  try clear hx6
  try clear c7
  try clear c7b0
  try clear c8
  try clear c8b0
  try clear hcz11_0
  try clear hcz11_1
  try clear hcz11_2
  try clear hfz11_0
  try clear hfz11_1
  try clear hfz11_2
  try clear hx600_0
  try clear hx600_1
  try clear hx600_2
  try clear p600
  try clear q600
  obtain ⟨x4_1, x23_1, rfl, HA, HK1, HO_4, BK601, HK, HB⟩ := hrel
  cases gk with
  | zero => exact absurd HA.out (by simp [impl_addNeeds.l0])
  | succ k1 =>
   have H := HA.out
   clear HA
   simp only [impl_addNeeds.l0] at H
   rcases (Classical.em (x23_1 < (((rd_T29 l0 t599).f2).length : Int))).symm with c12 | c12
   ·rw [if_neg c12] at H
    have c12b0 : decide (x23_1 < (((rd_T29 l0 t599).f2).length : Int)) = false := decide_eq_false c12
    clear c12
    obtain rfl := Option.some.inj H
    go_wp2
    repeat (go_quiet (fail); try go_wp2)
    first | go_end0 | ((try simp only [Exit.inBlock, Exit.then]); refine bodyPost_ret (results_none rfl _ _ _) rfl ?_)
    exact ⟨pE, pR HO_4, pG GE601, pH GW601⟩
   rw [if_pos c12] at H
   have c12b0 : decide (x23_1 < (((rd_T29 l0 t599).f2).length : Int)) = true := decide_eq_true c12
   clear c12
   rcases (Classical.em (0 ≤ x23_1)).symm with c13 | c13
   ·rw [if_neg c13] at H
    exact absurd H (by simp)
   rw [if_pos c13] at H
   have c13b0 : decide (0 ≤ x23_1) = true := decide_eq_true c13
   clear c13
   rcases (Classical.em (x23_1 < (((rd_T29 l0 t599).f2).length : Int))).symm with c14 | c14
   ·rw [if_neg c14] at H
    exact absurd H (by simp)
   rw [if_pos c14] at H
   have c14b0 : decide (x23_1 < (((rd_T29 l0 t599).f2).length : Int)) = true := decide_eq_true c14
   clear c14
   by_cases c15 : ((rd_T29 l0 t599).f1) = 0
   ·rw [if_pos c15] at H
    exact absurd H (by simp)
   rw [if_neg c15] at H
   have c15b0 : (((rd_T29 l0 t599).f1) == 0) = false := beq_eq_false_iff_ne.mpr c15
   have c15b1 : (((rd_T29 l0 t599).f1) != 0) = true := bne_iff_ne.mpr c15
   rcases (Classical.em (((rd_T55 ((rd_T29 l0 t599).f2) x23_1).f0) > 0)).symm with c16 | c16
   ·rw [if_neg c16] at H
    have c16b0 : decide (0 < ((rd_T55 ((rd_T29 l0 t599).f2) x23_1).f0)) = false := decide_eq_false c16
    clear c16
    replace H := Option.bind_eq_some_iff.mp H
    obtain ⟨t607, A290, H⟩ := H
    replace H : (impl_addNeeds.l0 k1 l0 l1 a3 t607 ((rd_T29 l0 t599).f2) (((rd_T29 l0 t599).f2).length : Int) (wrap64 (x23_1 + 1)) ((rd_T29 l0 t599).f0) ((rd_T29 l0 t599).f1) ((rd_T29 l0 t599).f2)) = some r := H
    have A29 := Aside0.mk A290
    clear A290
    have H' := Aside0.mk H
    clear H
    have p602 : 0 ≤ (x23_1 : Int) := of_decide_eq_true pA
    have q602 : x23_1 < (((rd_T29 l0 t599).f2).length : Int) := of_decide_eq_true pA
    obtain ⟨ad602, e602, hx602_0, hx602_1, hx602_2⟩ := at_T55 (Kd.C_kept_now HR600_2.out HK.out) x23_1 p602 q602
    cases e602
    replace p602 := eq_true p602
    replace q602 := eq_true q602
    go_wp2_with (first | ((with_reducible refine gate_dst (N := 12) rfl ?_); refine box_event ?hg (N := 12) ?hd (cs := #[.int .i64 0, .int .i64 0, .int .i64 0]) (t := 55) ?hr ?_; (case hd => rfl); (case hg => rfl); (case hr => first | (go_simp; done) | (go_simp; rfl)); intro gb603 hg w30 hbox hb; have n0_ := Aside0.mk (Kd.R_below (pR HO_4) hb); have n1_ := Aside0.mk (blk_below (g := gb601) (o := .cells #[.int .i64 ((rd_T29 l0 t599).f0), .int .i64 ((rd_T29 l0 t599).f1), .slice (some ad602) ((rd_T29 l0 t599).f2).length c600_2] 29 (0, 0)) (pC BK601) hb); have n2_ := Aside0.mk (Kept.below (S := (fun k_ => P4_ k_)) (pH GW601) hb); have n3_ := Aside0.mk (below_step (pG GE601) hb); have n4_ := Aside0.mk (hbox); have n5_ := Aside0.mk ((by rw [hg]; exact F77.q4 : w.heap.size ≤ gb603)); have n6_ := Aside0.mk ((by rw [hg]; exact (below_size (pG GE601)) : w0.heap.size ≤ gb603)); have n7_ := Aside0.mk ((by rw [hg]; exact Nat.ne_of_lt (blk_lt (g := gb601) (o := .cells #[.int .i64 ((rd_T29 l0 t599).f0), .int .i64 ((rd_T29 l0 t599).f1), .slice (some ad602) ((rd_T29 l0 t599).f2).length c600_2] 29 (0, 0)) (pC BK601)) : gb601 ≠ gb603)); have n8_ := Aside0.mk ((by rw [hg]; exact Nat.ne_of_gt (blk_lt (g := gb601) (o := .cells #[.int .i64 ((rd_T29 l0 t599).f0), .int .i64 ((rd_T29 l0 t599).f1), .slice (some ad602) ((rd_T29 l0 t599).f2).length c600_2] 29 (0, 0)) (pC BK601)) : gb603 ≠ gb601)); clear HO_4; clear BK601; clear HK; clear HB; have HO_4 := n0_; have BK601 := n1_; have HK := n2_; have HB := n3_; have BK603 := n4_; have GW603 := n5_; have GE603 := n6_; have NB601_603 := n7_; have NB603_601 := n8_; clear n0_ n1_ n2_ n3_ n4_ n5_ n6_ n7_ n8_; clear hb hbox hg; have hnb31 := NB603_601.out; have hnc31 := NB601_603.out; have hcz32_0 : w30.cell? ⟨gb603, 0, none⟩ = some (.int .i64 0) := (blk_cell BK603.out 0).trans rfl; have hcz32_1 : w30.cell? ⟨gb603, 1, none⟩ = some (.int .i64 0) := (blk_cell BK603.out 1).trans rfl; have hcz32_2 : w30.cell? ⟨gb603, 2, none⟩ = some (.int .i64 0) := (blk_cell BK603.out 2).trans rfl; have hfz32_0 := blk_frozen BK603.out 0; have hfz32_1 := blk_frozen BK603.out 1; have hfz32_2 := blk_frozen BK603.out 2) | ((with_reducible refine gate_store (t := 55) (p := 12) rfl ?_); (try (rw [drewN_self w30]; generalize hq_ : World.drewN w30 _ = w30; have n0_ := Aside0.mk (Kd.R_at hq_ HO_4.out); have n1_ := Aside0.mk (blk_at hq_ BK601.out); have n2_ := Aside0.mk (blk_at hq_ BK603.out); have n3_ := Aside0.mk (kept_at hq_ HK.out); have n4_ := Aside0.mk (below_at hq_ HB.out); clear hq_ HO_4 BK601 BK603 HK HB; have HO_4 := n0_; have BK601 := n1_; have BK603 := n2_; have HK := n3_; have HB := n4_; clear n0_ n1_ n2_ n3_ n4_)); refine store_event (t := 55) (p := 12) (v := ?vo_w33) (w1 := (((w30.setCell ⟨gb603, 0, none⟩ (.int .i64 ((rd_T55 ((rd_T29 l0 t599).f2) x23_1).f0))).setCell ⟨gb603, 1, none⟩ (.int .i64 ((rd_T55 ((rd_T29 l0 t599).f2) x23_1).f1))).setCell ⟨gb603, 2, none⟩ (.int .i64 ((rd_T55 ((rd_T29 l0 t599).f2) x23_1).f2)))) ?hg ?ho ?hn ?hr ?_; (case ho => rfl); (case hg => rfl); (case hn => rfl); (case hr => first | (go_simp; done) | (go_simp; rfl)); intro w33 hw; have n0_ : Aside0 (Kd.R (Kd.int .i64) 3 w33 w0.heap.size (fun k_ => (P4_ k_ ∨ w.heap.size ≤ k_)) u9000_ x4_1) := ⟨(by rw [hw]; exact F77.q6)⟩; have n1_ : Aside0 (w33.heap[gb601]? = some (.cells #[.int .i64 ((rd_T29 l0 t599).f0), .int .i64 ((rd_T29 l0 t599).f1), .slice (some ad602) ((rd_T29 l0 t599).f2).length c600_2] 29 (0, 0))) := ⟨(by rw [hw]; exact F77.q2)⟩; have n2_ : Aside0 (w33.heap[gb603]? = some (.cells #[.int .i64 ((rd_T55 ((rd_T29 l0 t599).f2) x23_1).f0), .int .i64 ((rd_T55 ((rd_T29 l0 t599).f2) x23_1).f1), .int .i64 ((rd_T55 ((rd_T29 l0 t599).f2) x23_1).f2)] 55 (0, 0))) := ⟨(by rw [hw]; exact F77.q1)⟩; have n3_ : Aside0 (Kept w w33 (fun k_ => P4_ k_)) := ⟨(by rw [hw]; exact F77.q0)⟩; have n4_ : Aside0 (Below w0.heap.size w0 w33) := ⟨(by rw [hw]; exact F77.q3)⟩; clear hw; clear HO_4; clear BK601; clear BK603; clear HK; clear HB; have HO_4 := n0_; have BK601 := n1_; have BK603 := n2_; have HK := n3_; have HB := n4_; clear n0_ n1_ n2_ n3_ n4_; have hcz34_0 : w33.cell? ⟨gb601, 0, none⟩ = some (.int .i64 ((rd_T29 l0 t599).f0)) := (blk_cell BK601.out 0).trans rfl; have hcz34_1 : w33.cell? ⟨gb601, 1, none⟩ = some (.int .i64 ((rd_T29 l0 t599).f1)) := (blk_cell BK601.out 1).trans rfl; have hcz34_2 : w33.cell? ⟨gb601, 2, none⟩ = some (.slice (some ad602) ((rd_T29 l0 t599).f2).length c600_2) := (blk_cell BK601.out 2).trans rfl; have hfz34_0 := blk_frozen BK601.out 0; have hfz34_1 := blk_frozen BK601.out 1; have hfz34_2 := blk_frozen BK601.out 2; have hcz35_0 : w33.cell? ⟨gb603, 0, none⟩ = some (.int .i64 ((rd_T55 ((rd_T29 l0 t599).f2) x23_1).f0)) := (blk_cell BK603.out 0).trans rfl; have hcz35_1 : w33.cell? ⟨gb603, 1, none⟩ = some (.int .i64 ((rd_T55 ((rd_T29 l0 t599).f2) x23_1).f1)) := (blk_cell BK603.out 1).trans rfl; have hcz35_2 : w33.cell? ⟨gb603, 2, none⟩ = some (.int .i64 ((rd_T55 ((rd_T29 l0 t599).f2) x23_1).f2)) := (blk_cell BK603.out 2).trans rfl; have hfz35_0 := blk_frozen BK603.out 0; have hfz35_1 := blk_frozen BK603.out 1; have hfz35_2 := blk_frozen BK603.out 2; obtain ⟨Ao36, co36, eo36⟩ := Kd.R_slice HO_4.out; subst eo36) | (go_at_call 77; (with_reducible refine (ih k1 (by have := HK1.out; omega) _ _ l0 _ _ l1 ((rd_T55 ((rd_T29 l0 t599).f2) x23_1).f1) (wrap64 ((wrap64 (Int.tdiv a3 ((rd_T29 l0 t599).f1))) * ((rd_T55 ((rd_T29 l0 t599).f2) x23_1).f2))) (fun k_ => some k_ = (.slice Ao36 x4_1.length co36 : Value).ownBlock) (.slice Ao36 x4_1.length co36) x4_1 t607 w0 _ ?side1 ?side2 ?side3 ?side4 ?side5 ?side6 A29.out).mono ?_); (case side1 => exact F77.q3); (case side2 => exact Kd.C_kept_call HR0.out F77.q0 (fun k_ hs_ => (fun e_ => (HO_4.out.1 k_ e_.symm)) hs_)); (case side3 => exact HC0.out); (case side4 => exact Kd.C_kept_call HR1.out F77.q0 (fun k_ hs_ => (fun e_ => (HO_4.out.1 k_ e_.symm)) hs_)); (case side5 => exact HC1.out); (case side6 => exact Kd.R_tight rfl HO_4.out); rintro e w37 ⟨rfl, hy0, hb, hkp⟩; have n0_ := Aside0.mk (Kd.R_reok rfl hy0 (fun k_ e_ => HO_4.out.1 k_ e_)); have n1_ := Aside0.mk (blk_kept (pC BK601) hkp (fun hs_ => (fun e_ => (Kd.R_ne HO_4.out BK601.out (by decide)) e_) hs_)); have n2_ := Aside0.mk (blk_kept (pC BK603) hkp (fun hs_ => (fun e_ => (Kd.R_ne HO_4.out BK603.out (by decide)) e_) hs_)); have n3_ := Aside0.mk (Kept.then_ (S := (fun k_ => P4_ k_)) F77.q0 hkp (fun k_ hs_ => (fun e_ => (HO_4.out.1 k_ e_.symm)) hs_)); have n4_ := Aside0.mk (hb); clear HO_4; clear BK601; clear BK603; clear HK; clear HB; have HO_4 := n0_; have BK601 := n1_; have BK603 := n2_; have HK := n3_; have HB := n4_; clear n0_ n1_ n2_ n3_ n4_; (try clear hb); (try clear hkp); (try clear hy0)))
    repeat (go_quiet (first | ((with_reducible refine gate_dst (N := 12) rfl ?_); refine box_event ?hg (N := 12) ?hd (cs := #[.int .i64 0, .int .i64 0, .int .i64 0]) (t := 55) ?hr ?_; (case hd => rfl); (case hg => rfl); (case hr => first | (go_simp; done) | (go_simp; rfl)); intro gb603 hg w30 hbox hb; have n0_ := Aside0.mk (Kd.R_below (pR HO_4) hb); have n1_ := Aside0.mk (blk_below (g := gb601) (o := .cells #[.int .i64 ((rd_T29 l0 t599).f0), .int .i64 ((rd_T29 l0 t599).f1), .slice (some ad602) ((rd_T29 l0 t599).f2).length c600_2] 29 (0, 0)) (pC BK601) hb); have n2_ := Aside0.mk (Kept.below (S := (fun k_ => P4_ k_)) (pH GW601) hb); have n3_ := Aside0.mk (below_step (pG GE601) hb); have n4_ := Aside0.mk (hbox); have n5_ := Aside0.mk ((by rw [hg]; exact F77.q4 : w.heap.size ≤ gb603)); have n6_ := Aside0.mk ((by rw [hg]; exact (below_size (pG GE601)) : w0.heap.size ≤ gb603)); have n7_ := Aside0.mk ((by rw [hg]; exact Nat.ne_of_lt (blk_lt (g := gb601) (o := .cells #[.int .i64 ((rd_T29 l0 t599).f0), .int .i64 ((rd_T29 l0 t599).f1), .slice (some ad602) ((rd_T29 l0 t599).f2).length c600_2] 29 (0, 0)) (pC BK601)) : gb601 ≠ gb603)); have n8_ := Aside0.mk ((by rw [hg]; exact Nat.ne_of_gt (blk_lt (g := gb601) (o := .cells #[.int .i64 ((rd_T29 l0 t599).f0), .int .i64 ((rd_T29 l0 t599).f1), .slice (some ad602) ((rd_T29 l0 t599).f2).length c600_2] 29 (0, 0)) (pC BK601)) : gb603 ≠ gb601)); clear HO_4; clear BK601; clear HK; clear HB; have HO_4 := n0_; have BK601 := n1_; have HK := n2_; have HB := n3_; have BK603 := n4_; have GW603 := n5_; have GE603 := n6_; have NB601_603 := n7_; have NB603_601 := n8_; clear n0_ n1_ n2_ n3_ n4_ n5_ n6_ n7_ n8_; clear hb hbox hg; have hnb31 := NB603_601.out; have hnc31 := NB601_603.out; have hcz32_0 : w30.cell? ⟨gb603, 0, none⟩ = some (.int .i64 0) := (blk_cell BK603.out 0).trans rfl; have hcz32_1 : w30.cell? ⟨gb603, 1, none⟩ = some (.int .i64 0) := (blk_cell BK603.out 1).trans rfl; have hcz32_2 : w30.cell? ⟨gb603, 2, none⟩ = some (.int .i64 0) := (blk_cell BK603.out 2).trans rfl; have hfz32_0 := blk_frozen BK603.out 0; have hfz32_1 := blk_frozen BK603.out 1; have hfz32_2 := blk_frozen BK603.out 2) | ((with_reducible refine gate_store (t := 55) (p := 12) rfl ?_); (try (rw [drewN_self w30]; generalize hq_ : World.drewN w30 _ = w30; have n0_ := Aside0.mk (Kd.R_at hq_ HO_4.out); have n1_ := Aside0.mk (blk_at hq_ BK601.out); have n2_ := Aside0.mk (blk_at hq_ BK603.out); have n3_ := Aside0.mk (kept_at hq_ HK.out); have n4_ := Aside0.mk (below_at hq_ HB.out); clear hq_ HO_4 BK601 BK603 HK HB; have HO_4 := n0_; have BK601 := n1_; have BK603 := n2_; have HK := n3_; have HB := n4_; clear n0_ n1_ n2_ n3_ n4_)); refine store_event (t := 55) (p := 12) (v := ?vo_w33) (w1 := (((w30.setCell ⟨gb603, 0, none⟩ (.int .i64 ((rd_T55 ((rd_T29 l0 t599).f2) x23_1).f0))).setCell ⟨gb603, 1, none⟩ (.int .i64 ((rd_T55 ((rd_T29 l0 t599).f2) x23_1).f1))).setCell ⟨gb603, 2, none⟩ (.int .i64 ((rd_T55 ((rd_T29 l0 t599).f2) x23_1).f2)))) ?hg ?ho ?hn ?hr ?_; (case ho => rfl); (case hg => rfl); (case hn => rfl); (case hr => first | (go_simp; done) | (go_simp; rfl)); intro w33 hw; have n0_ : Aside0 (Kd.R (Kd.int .i64) 3 w33 w0.heap.size (fun k_ => (P4_ k_ ∨ w.heap.size ≤ k_)) u9000_ x4_1) := ⟨(by rw [hw]; exact F77.q6)⟩; have n1_ : Aside0 (w33.heap[gb601]? = some (.cells #[.int .i64 ((rd_T29 l0 t599).f0), .int .i64 ((rd_T29 l0 t599).f1), .slice (some ad602) ((rd_T29 l0 t599).f2).length c600_2] 29 (0, 0))) := ⟨(by rw [hw]; exact F77.q2)⟩; have n2_ : Aside0 (w33.heap[gb603]? = some (.cells #[.int .i64 ((rd_T55 ((rd_T29 l0 t599).f2) x23_1).f0), .int .i64 ((rd_T55 ((rd_T29 l0 t599).f2) x23_1).f1), .int .i64 ((rd_T55 ((rd_T29 l0 t599).f2) x23_1).f2)] 55 (0, 0))) := ⟨(by rw [hw]; exact F77.q1)⟩; have n3_ : Aside0 (Kept w w33 (fun k_ => P4_ k_)) := ⟨(by rw [hw]; exact F77.q0)⟩; have n4_ : Aside0 (Below w0.heap.size w0 w33) := ⟨(by rw [hw]; exact F77.q3)⟩; clear hw; clear HO_4; clear BK601; clear BK603; clear HK; clear HB; have HO_4 := n0_; have BK601 := n1_; have BK603 := n2_; have HK := n3_; have HB := n4_; clear n0_ n1_ n2_ n3_ n4_; have hcz34_0 : w33.cell? ⟨gb601, 0, none⟩ = some (.int .i64 ((rd_T29 l0 t599).f0)) := (blk_cell BK601.out 0).trans rfl; have hcz34_1 : w33.cell? ⟨gb601, 1, none⟩ = some (.int .i64 ((rd_T29 l0 t599).f1)) := (blk_cell BK601.out 1).trans rfl; have hcz34_2 : w33.cell? ⟨gb601, 2, none⟩ = some (.slice (some ad602) ((rd_T29 l0 t599).f2).length c600_2) := (blk_cell BK601.out 2).trans rfl; have hfz34_0 := blk_frozen BK601.out 0; have hfz34_1 := blk_frozen BK601.out 1; have hfz34_2 := blk_frozen BK601.out 2; have hcz35_0 : w33.cell? ⟨gb603, 0, none⟩ = some (.int .i64 ((rd_T55 ((rd_T29 l0 t599).f2) x23_1).f0)) := (blk_cell BK603.out 0).trans rfl; have hcz35_1 : w33.cell? ⟨gb603, 1, none⟩ = some (.int .i64 ((rd_T55 ((rd_T29 l0 t599).f2) x23_1).f1)) := (blk_cell BK603.out 1).trans rfl; have hcz35_2 : w33.cell? ⟨gb603, 2, none⟩ = some (.int .i64 ((rd_T55 ((rd_T29 l0 t599).f2) x23_1).f2)) := (blk_cell BK603.out 2).trans rfl; have hfz35_0 := blk_frozen BK603.out 0; have hfz35_1 := blk_frozen BK603.out 1; have hfz35_2 := blk_frozen BK603.out 2; obtain ⟨Ao36, co36, eo36⟩ := Kd.R_slice HO_4.out; subst eo36) | (go_at_call 77; (with_reducible refine (ih k1 (by have := HK1.out; omega) _ _ l0 _ _ l1 ((rd_T55 ((rd_T29 l0 t599).f2) x23_1).f1) (wrap64 ((wrap64 (Int.tdiv a3 ((rd_T29 l0 t599).f1))) * ((rd_T55 ((rd_T29 l0 t599).f2) x23_1).f2))) (fun k_ => some k_ = (.slice Ao36 x4_1.length co36 : Value).ownBlock) (.slice Ao36 x4_1.length co36) x4_1 t607 w0 _ ?side1 ?side2 ?side3 ?side4 ?side5 ?side6 A29.out).mono ?_); (case side1 => exact F77.q3); (case side2 => exact Kd.C_kept_call HR0.out F77.q0 (fun k_ hs_ => (fun e_ => (HO_4.out.1 k_ e_.symm)) hs_)); (case side3 => exact HC0.out); (case side4 => exact Kd.C_kept_call HR1.out F77.q0 (fun k_ hs_ => (fun e_ => (HO_4.out.1 k_ e_.symm)) hs_)); (case side5 => exact HC1.out); (case side6 => exact Kd.R_tight rfl HO_4.out); rintro e w37 ⟨rfl, hy0, hb, hkp⟩; have n0_ := Aside0.mk (Kd.R_reok rfl hy0 (fun k_ e_ => HO_4.out.1 k_ e_)); have n1_ := Aside0.mk (blk_kept (pC BK601) hkp (fun hs_ => (fun e_ => (Kd.R_ne HO_4.out BK601.out (by decide)) e_) hs_)); have n2_ := Aside0.mk (blk_kept (pC BK603) hkp (fun hs_ => (fun e_ => (Kd.R_ne HO_4.out BK603.out (by decide)) e_) hs_)); have n3_ := Aside0.mk (Kept.then_ (S := (fun k_ => P4_ k_)) F77.q0 hkp (fun k_ hs_ => (fun e_ => (HO_4.out.1 k_ e_.symm)) hs_)); have n4_ := Aside0.mk (hb); clear HO_4; clear BK601; clear BK603; clear HK; clear HB; have HO_4 := n0_; have BK601 := n1_; have BK603 := n2_; have HK := n3_; have HB := n4_; clear n0_ n1_ n2_ n3_ n4_; (try clear hb); (try clear hkp); (try clear hy0))); try go_wp2_with (first | ((with_reducible refine gate_dst (N := 12) rfl ?_); refine box_event ?hg (N := 12) ?hd (cs := #[.int .i64 0, .int .i64 0, .int .i64 0]) (t := 55) ?hr ?_; (case hd => rfl); (case hg => rfl); (case hr => first | (go_simp; done) | (go_simp; rfl)); intro gb603 hg w30 hbox hb; have n0_ := Aside0.mk (Kd.R_below (pR HO_4) hb); have n1_ := Aside0.mk (blk_below (g := gb601) (o := .cells #[.int .i64 ((rd_T29 l0 t599).f0), .int .i64 ((rd_T29 l0 t599).f1), .slice (some ad602) ((rd_T29 l0 t599).f2).length c600_2] 29 (0, 0)) (pC BK601) hb); have n2_ := Aside0.mk (Kept.below (S := (fun k_ => P4_ k_)) (pH GW601) hb); have n3_ := Aside0.mk (below_step (pG GE601) hb); have n4_ := Aside0.mk (hbox); have n5_ := Aside0.mk ((by rw [hg]; exact F77.q4 : w.heap.size ≤ gb603)); have n6_ := Aside0.mk ((by rw [hg]; exact (below_size (pG GE601)) : w0.heap.size ≤ gb603)); have n7_ := Aside0.mk ((by rw [hg]; exact Nat.ne_of_lt (blk_lt (g := gb601) (o := .cells #[.int .i64 ((rd_T29 l0 t599).f0), .int .i64 ((rd_T29 l0 t599).f1), .slice (some ad602) ((rd_T29 l0 t599).f2).length c600_2] 29 (0, 0)) (pC BK601)) : gb601 ≠ gb603)); have n8_ := Aside0.mk ((by rw [hg]; exact Nat.ne_of_gt (blk_lt (g := gb601) (o := .cells #[.int .i64 ((rd_T29 l0 t599).f0), .int .i64 ((rd_T29 l0 t599).f1), .slice (some ad602) ((rd_T29 l0 t599).f2).length c600_2] 29 (0, 0)) (pC BK601)) : gb603 ≠ gb601)); clear HO_4; clear BK601; clear HK; clear HB; have HO_4 := n0_; have BK601 := n1_; have HK := n2_; have HB := n3_; have BK603 := n4_; have GW603 := n5_; have GE603 := n6_; have NB601_603 := n7_; have NB603_601 := n8_; clear n0_ n1_ n2_ n3_ n4_ n5_ n6_ n7_ n8_; clear hb hbox hg; have hnb31 := NB603_601.out; have hnc31 := NB601_603.out; have hcz32_0 : w30.cell? ⟨gb603, 0, none⟩ = some (.int .i64 0) := (blk_cell BK603.out 0).trans rfl; have hcz32_1 : w30.cell? ⟨gb603, 1, none⟩ = some (.int .i64 0) := (blk_cell BK603.out 1).trans rfl; have hcz32_2 : w30.cell? ⟨gb603, 2, none⟩ = some (.int .i64 0) := (blk_cell BK603.out 2).trans rfl; have hfz32_0 := blk_frozen BK603.out 0; have hfz32_1 := blk_frozen BK603.out 1; have hfz32_2 := blk_frozen BK603.out 2) | ((with_reducible refine gate_store (t := 55) (p := 12) rfl ?_); (try (rw [drewN_self w30]; generalize hq_ : World.drewN w30 _ = w30; have n0_ := Aside0.mk (Kd.R_at hq_ HO_4.out); have n1_ := Aside0.mk (blk_at hq_ BK601.out); have n2_ := Aside0.mk (blk_at hq_ BK603.out); have n3_ := Aside0.mk (kept_at hq_ HK.out); have n4_ := Aside0.mk (below_at hq_ HB.out); clear hq_ HO_4 BK601 BK603 HK HB; have HO_4 := n0_; have BK601 := n1_; have BK603 := n2_; have HK := n3_; have HB := n4_; clear n0_ n1_ n2_ n3_ n4_)); refine store_event (t := 55) (p := 12) (v := ?vo_w33) (w1 := (((w30.setCell ⟨gb603, 0, none⟩ (.int .i64 ((rd_T55 ((rd_T29 l0 t599).f2) x23_1).f0))).setCell ⟨gb603, 1, none⟩ (.int .i64 ((rd_T55 ((rd_T29 l0 t599).f2) x23_1).f1))).setCell ⟨gb603, 2, none⟩ (.int .i64 ((rd_T55 ((rd_T29 l0 t599).f2) x23_1).f2)))) ?hg ?ho ?hn ?hr ?_; (case ho => rfl); (case hg => rfl); (case hn => rfl); (case hr => first | (go_simp; done) | (go_simp; rfl)); intro w33 hw; have n0_ : Aside0 (Kd.R (Kd.int .i64) 3 w33 w0.heap.size (fun k_ => (P4_ k_ ∨ w.heap.size ≤ k_)) u9000_ x4_1) := ⟨(by rw [hw]; exact F77.q6)⟩; have n1_ : Aside0 (w33.heap[gb601]? = some (.cells #[.int .i64 ((rd_T29 l0 t599).f0), .int .i64 ((rd_T29 l0 t599).f1), .slice (some ad602) ((rd_T29 l0 t599).f2).length c600_2] 29 (0, 0))) := ⟨(by rw [hw]; exact F77.q2)⟩; have n2_ : Aside0 (w33.heap[gb603]? = some (.cells #[.int .i64 ((rd_T55 ((rd_T29 l0 t599).f2) x23_1).f0), .int .i64 ((rd_T55 ((rd_T29 l0 t599).f2) x23_1).f1), .int .i64 ((rd_T55 ((rd_T29 l0 t599).f2) x23_1).f2)] 55 (0, 0))) := ⟨(by rw [hw]; exact F77.q1)⟩; have n3_ : Aside0 (Kept w w33 (fun k_ => P4_ k_)) := ⟨(by rw [hw]; exact F77.q0)⟩; have n4_ : Aside0 (Below w0.heap.size w0 w33) := ⟨(by rw [hw]; exact F77.q3)⟩; clear hw; clear HO_4; clear BK601; clear BK603; clear HK; clear HB; have HO_4 := n0_; have BK601 := n1_; have BK603 := n2_; have HK := n3_; have HB := n4_; clear n0_ n1_ n2_ n3_ n4_; have hcz34_0 : w33.cell? ⟨gb601, 0, none⟩ = some (.int .i64 ((rd_T29 l0 t599).f0)) := (blk_cell BK601.out 0).trans rfl; have hcz34_1 : w33.cell? ⟨gb601, 1, none⟩ = some (.int .i64 ((rd_T29 l0 t599).f1)) := (blk_cell BK601.out 1).trans rfl; have hcz34_2 : w33.cell? ⟨gb601, 2, none⟩ = some (.slice (some ad602) ((rd_T29 l0 t599).f2).length c600_2) := (blk_cell BK601.out 2).trans rfl; have hfz34_0 := blk_frozen BK601.out 0; have hfz34_1 := blk_frozen BK601.out 1; have hfz34_2 := blk_frozen BK601.out 2; have hcz35_0 : w33.cell? ⟨gb603, 0, none⟩ = some (.int .i64 ((rd_T55 ((rd_T29 l0 t599).f2) x23_1).f0)) := (blk_cell BK603.out 0).trans rfl; have hcz35_1 : w33.cell? ⟨gb603, 1, none⟩ = some (.int .i64 ((rd_T55 ((rd_T29 l0 t599).f2) x23_1).f1)) := (blk_cell BK603.out 1).trans rfl; have hcz35_2 : w33.cell? ⟨gb603, 2, none⟩ = some (.int .i64 ((rd_T55 ((rd_T29 l0 t599).f2) x23_1).f2)) := (blk_cell BK603.out 2).trans rfl; have hfz35_0 := blk_frozen BK603.out 0; have hfz35_1 := blk_frozen BK603.out 1; have hfz35_2 := blk_frozen BK603.out 2; obtain ⟨Ao36, co36, eo36⟩ := Kd.R_slice HO_4.out; subst eo36) | (go_at_call 77; (with_reducible refine (ih k1 (by have := HK1.out; omega) _ _ l0 _ _ l1 ((rd_T55 ((rd_T29 l0 t599).f2) x23_1).f1) (wrap64 ((wrap64 (Int.tdiv a3 ((rd_T29 l0 t599).f1))) * ((rd_T55 ((rd_T29 l0 t599).f2) x23_1).f2))) (fun k_ => some k_ = (.slice Ao36 x4_1.length co36 : Value).ownBlock) (.slice Ao36 x4_1.length co36) x4_1 t607 w0 _ ?side1 ?side2 ?side3 ?side4 ?side5 ?side6 A29.out).mono ?_); (case side1 => exact F77.q3); (case side2 => exact Kd.C_kept_call HR0.out F77.q0 (fun k_ hs_ => (fun e_ => (HO_4.out.1 k_ e_.symm)) hs_)); (case side3 => exact HC0.out); (case side4 => exact Kd.C_kept_call HR1.out F77.q0 (fun k_ hs_ => (fun e_ => (HO_4.out.1 k_ e_.symm)) hs_)); (case side5 => exact HC1.out); (case side6 => exact Kd.R_tight rfl HO_4.out); rintro e w37 ⟨rfl, hy0, hb, hkp⟩; have n0_ := Aside0.mk (Kd.R_reok rfl hy0 (fun k_ e_ => HO_4.out.1 k_ e_)); have n1_ := Aside0.mk (blk_kept (pC BK601) hkp (fun hs_ => (fun e_ => (Kd.R_ne HO_4.out BK601.out (by decide)) e_) hs_)); have n2_ := Aside0.mk (blk_kept (pC BK603) hkp (fun hs_ => (fun e_ => (Kd.R_ne HO_4.out BK603.out (by decide)) e_) hs_)); have n3_ := Aside0.mk (Kept.then_ (S := (fun k_ => P4_ k_)) F77.q0 hkp (fun k_ hs_ => (fun e_ => (HO_4.out.1 k_ e_.symm)) hs_)); have n4_ := Aside0.mk (hb); clear HO_4; clear BK601; clear BK603; clear HK; clear HB; have HO_4 := n0_; have BK601 := n1_; have BK603 := n2_; have HK := n3_; have HB := n4_; clear n0_ n1_ n2_ n3_ n4_; (try clear hb); (try clear hkp); (try clear hy0))))
    go_roundg k1
    case measure => have := HK1.out; omega
    case rel => exact ⟨(t607), (wrap64 (x23_1 + 1)), pF, H', ⟨by have := HK1.out; omega⟩, ⟨pR HO_4⟩, ⟨pC BK601⟩, ⟨by repeat (first | (with_reducible first | exact HK.out | apply Kept.alloc | apply Kept.drewN | apply Kept.drew | refine Kept.setCell ?_ (.inr GW601.out) _ | refine Kept.setCell ?_ (.inr GW603.out) _) | exact HK.out)⟩, ⟨by repeat (first | (with_reducible first | exact HB.out | apply below_alloc | apply pw_below_drewN | apply below_drew1 | refine below_set ?_ GE601.out | refine below_set ?_ GE603.out) | exact HB.out)⟩⟩
   rw [if_pos c16] at H
   have c16b0 : decide (0 < ((rd_T55 ((rd_T29 l0 t599).f2) x23_1).f0)) = true := decide_eq_true c16
   clear c16
   replace H := Option.bind_eq_some_iff.mp H
   obtain ⟨t604, A170, H⟩ := H
   replace H : (if 0 ≤ t604 then (if t604 < (x4_1.length : Int) then (impl_addNeeds.l0 k1 l0 l1 a3 (x4_1.set (t604 : Int).toNat (wrap64 ((rd x4_1 t604) + (wrap64 ((wrap64 (Int.tdiv a3 ((rd_T29 l0 t599).f1))) * ((rd_T55 ((rd_T29 l0 t599).f2) x23_1).f2)))))) ((rd_T29 l0 t599).f2) (((rd_T29 l0 t599).f2).length : Int) (wrap64 (x23_1 + 1)) ((rd_T29 l0 t599).f0) ((rd_T29 l0 t599).f1) ((rd_T29 l0 t599).f2)) else (none)) else (none)) = some r := H
   have A17 := Aside0.mk A170
   clear A170
   rcases (Classical.em (0 ≤ t604)).symm with c18 | c18
   ·rw [if_neg c18] at H
    exact absurd H (by simp)
   rw [if_pos c18] at H
   have c18b0 : decide (0 ≤ t604) = true := decide_eq_true c18
   clear c18
   rcases (Classical.em (t604 < (x4_1.length : Int))).symm with c19 | c19
   ·rw [if_neg c19] at H
    exact absurd H (by simp)
   rw [if_pos c19] at H
   have c19b0 : decide (t604 < (x4_1.length : Int)) = true := decide_eq_true c19
   clear c19
   obtain ⟨y606, hy606⟩ : ∃ y_ : List Int, y_ = (x4_1.set (t604 : Int).toNat (wrap64 ((rd x4_1 t604) + (wrap64 ((wrap64 (Int.tdiv a3 ((rd_T29 l0 t599).f1))) * ((rd_T55 ((rd_T29 l0 t599).f2) x23_1).f2)))))) := ⟨_, rfl⟩
   replace H : (impl_addNeeds.l0 k1 l0 l1 a3 y606 ((rd_T29 l0 t599).f2) (((rd_T29 l0 t599).f2).length : Int) (wrap64 (x23_1 + 1)) ((rd_T29 l0 t599).f0) ((rd_T29 l0 t599).f1) ((rd_T29 l0 t599).f2)) = some r := pJ hy606 H
   have Ny606 := Aside0.mk hy606
   clear hy606
   have H' := Aside0.mk H
   clear H
   have p602 : 0 ≤ (x23_1 : Int) := of_decide_eq_true pA
   have q602 : x23_1 < (((rd_T29 l0 t599).f2).length : Int) := of_decide_eq_true pA
   obtain ⟨ad602, e602, hx602_0, hx602_1, hx602_2⟩ := at_T55 (Kd.C_kept_now HR600_2.out HK.out) x23_1 p602 q602
   cases e602
   replace p602 := eq_true p602
   replace q602 := eq_true q602
   go_wp2_with (first | ((with_reducible refine gate_dst (N := 12) rfl ?_); refine box_event ?hg (N := 12) ?hd (cs := #[.int .i64 0, .int .i64 0, .int .i64 0]) (t := 55) ?hr ?_; (case hd => rfl); (case hg => rfl); (case hr => first | (go_simp; done) | (go_simp; rfl)); intro gb603 hg w21 hbox hb; have n0_ := Aside0.mk (Kd.R_below (pR HO_4) hb); have n1_ := Aside0.mk (blk_below (g := gb601) (o := .cells #[.int .i64 ((rd_T29 l0 t599).f0), .int .i64 ((rd_T29 l0 t599).f1), .slice (some ad602) ((rd_T29 l0 t599).f2).length c600_2] 29 (0, 0)) (pC BK601) hb); have n2_ := Aside0.mk (Kept.below (S := (fun k_ => P4_ k_)) (pH GW601) hb); have n3_ := Aside0.mk (below_step (pG GE601) hb); have n4_ := Aside0.mk (hbox); have n5_ := Aside0.mk ((by rw [hg]; exact F77.q4 : w.heap.size ≤ gb603)); have n6_ := Aside0.mk ((by rw [hg]; exact (below_size (pG GE601)) : w0.heap.size ≤ gb603)); have n7_ := Aside0.mk ((by rw [hg]; exact Nat.ne_of_lt (blk_lt (g := gb601) (o := .cells #[.int .i64 ((rd_T29 l0 t599).f0), .int .i64 ((rd_T29 l0 t599).f1), .slice (some ad602) ((rd_T29 l0 t599).f2).length c600_2] 29 (0, 0)) (pC BK601)) : gb601 ≠ gb603)); have n8_ := Aside0.mk ((by rw [hg]; exact Nat.ne_of_gt (blk_lt (g := gb601) (o := .cells #[.int .i64 ((rd_T29 l0 t599).f0), .int .i64 ((rd_T29 l0 t599).f1), .slice (some ad602) ((rd_T29 l0 t599).f2).length c600_2] 29 (0, 0)) (pC BK601)) : gb603 ≠ gb601)); clear HO_4; clear BK601; clear HK; clear HB; have HO_4 := n0_; have BK601 := n1_; have HK := n2_; have HB := n3_; have BK603 := n4_; have GW603 := n5_; have GE603 := n6_; have NB601_603 := n7_; have NB603_601 := n8_; clear n0_ n1_ n2_ n3_ n4_ n5_ n6_ n7_ n8_; clear hb hbox hg; have hnb22 := NB603_601.out; have hnc22 := NB601_603.out; have hcz23_0 : w21.cell? ⟨gb603, 0, none⟩ = some (.int .i64 0) := (blk_cell BK603.out 0).trans rfl; have hcz23_1 : w21.cell? ⟨gb603, 1, none⟩ = some (.int .i64 0) := (blk_cell BK603.out 1).trans rfl; have hcz23_2 : w21.cell? ⟨gb603, 2, none⟩ = some (.int .i64 0) := (blk_cell BK603.out 2).trans rfl; have hfz23_0 := blk_frozen BK603.out 0; have hfz23_1 := blk_frozen BK603.out 1; have hfz23_2 := blk_frozen BK603.out 2; have hcz24_0 : w21.cell? ⟨gb601, 0, none⟩ = some (.int .i64 ((rd_T29 l0 t599).f0)) := (blk_cell BK601.out 0).trans rfl; have hcz24_1 : w21.cell? ⟨gb601, 1, none⟩ = some (.int .i64 ((rd_T29 l0 t599).f1)) := (blk_cell BK601.out 1).trans rfl; have hcz24_2 : w21.cell? ⟨gb601, 2, none⟩ = some (.slice (some ad602) ((rd_T29 l0 t599).f2).length c600_2) := (blk_cell BK601.out 2).trans rfl; have hfz24_0 := blk_frozen BK601.out 0; have hfz24_1 := blk_frozen BK601.out 1; have hfz24_2 := blk_frozen BK601.out 2) | (go_at_call 81; (with_reducible refine (impl_foodPlace.calls _ _ l1 ((rd_T55 ((rd_T29 l0 t599).f2) x23_1).f0) t604 _ ?side1 ?side2 A17.out).mono ?_); (case side1 => exact Kd.C_kept_now HR1.out F77.q0); (case side2 => exact HC1.out); rintro e w25 ⟨rfl, hb⟩; have n0_ := Aside0.mk (Kd.R_below F77.q5 hb); have n1_ := Aside0.mk (blk_below (g := gb601) (o := .cells #[.int .i64 ((rd_T29 l0 t599).f0), .int .i64 ((rd_T29 l0 t599).f1), .slice (some ad602) ((rd_T29 l0 t599).f2).length c600_2] 29 (0, 0)) F77.q2 hb); have n2_ := Aside0.mk (blk_below (g := gb603) (o := .cells #[.int .i64 ((rd_T55 ((rd_T29 l0 t599).f2) x23_1).f0), .int .i64 ((rd_T55 ((rd_T29 l0 t599).f2) x23_1).f1), .int .i64 ((rd_T55 ((rd_T29 l0 t599).f2) x23_1).f2)] 55 (0, 0)) F77.q1 hb); have n3_ := Aside0.mk (Kept.below (S := (fun k_ => P4_ k_)) F77.q0 hb); have n4_ := Aside0.mk (below_step F77.q3 hb); clear HO_4; clear BK601; clear BK603; clear HK; clear HB; have HO_4 := n0_; have BK601 := n1_; have BK603 := n2_; have HK := n3_; have HB := n4_; clear n0_ n1_ n2_ n3_ n4_; (try clear hb); (try clear hb2); (try clear hk); (try clear hi); obtain ⟨Ao26, co26, eo26⟩ := Kd.R_slice HO_4.out; subst eo26; have p605 : 0 ≤ (t604 : Int) := of_decide_eq_true pA; have q605 : t604 < (x4_1.length : Int) := of_decide_eq_true pA; obtain ⟨ad605, e605, hx605_0⟩ := Kd.at_int (Kd.R_reads' HO_4.out).2.2 t604 p605 q605; cases e605; replace p605 := eq_true p605; replace q605 := eq_true q605; have p20 : 0 ≤ (t604 : Int) := of_decide_eq_true pA; have q20 : (t604 : Int) < ((x4_1.length : Int) : Int) := of_decide_eq_true pA; obtain ⟨go20, co20, eo20, gb20, gl20, cl20, HG20⟩ := Kd.R_form HO_4.out (by omega); (first | cases eo20 | (injection eo20 with ea_ en_ ec_; (first | subst ea_ | (injection ea_ with ea_; subst ea_)); subst ec_; clear en_)); have GB20 := Aside0.mk gb20; have GG20 := Aside0.mk HG20; clear gb20 gl20 HG20; have HMgo20 := Aside0.mk (show (P4_ go20 ∨ w.heap.size ≤ go20) from (HO_4.out.1 _ rfl)); (first | simp only [add_plain] at hx605_0 | skip); obtain ⟨hx20_0, hf20_0⟩ := Kd.R_celln 0 HO_4.out (t604 : Int) p20 q20; replace p20 := eq_true p20; replace q20 := eq_true q20; obtain ⟨hy27_, hz27_⟩ := Kd.R_celln 0 HO_4.out (t604 : Int) (of_decide_eq_true pA) (of_decide_eq_true pA); have HP27 := Kd.R_putg HO_4.out (t604 : Int) (wrap64 ((rd x4_1 t604) + (wrap64 ((wrap64 (Int.tdiv a3 ((rd_T29 l0 t599).f1))) * ((rd_T55 ((rd_T29 l0 t599).f2) x23_1).f2)))))) | ((with_reducible refine gate_store (t := 3) (p := 46) rfl ?_); (try (rw [drewN_self w25]; generalize hq_ : World.drewN w25 _ = w25; have n0_ := Aside0.mk (Kd.R_at hq_ HO_4.out); have n1_ := Aside0.mk (blk_at hq_ BK601.out); have n2_ := Aside0.mk (blk_at hq_ BK603.out); have n3_ := Aside0.mk (kept_at hq_ HK.out); have n4_ := Aside0.mk (below_at hq_ HB.out); clear hq_ HO_4 BK601 BK603 HK HB; have HO_4 := n0_; have BK601 := n1_; have BK603 := n2_; have HK := n3_; have HB := n4_; clear n0_ n1_ n2_ n3_ n4_; (try (obtain ⟨hy27_, hz27_⟩ := Kd.R_celln 0 HO_4.out (t604 : Int) (of_decide_eq_true pA) (of_decide_eq_true pA))); (try (have HP27 := Kd.R_putg HO_4.out (t604 : Int) (wrap64 ((rd x4_1 t604) + (wrap64 ((wrap64 (Int.tdiv a3 ((rd_T29 l0 t599).f1))) * ((rd_T55 ((rd_T29 l0 t599).f2) x23_1).f2))))))))); refine store_event (t := 3) (p := 46) (v := ?vo_w28) (w1 := (w25.setCell ⟨go20, (t604 : Int).toNat, none⟩ (.int .i64 (wrap64 ((rd x4_1 t604) + (wrap64 ((wrap64 (Int.tdiv a3 ((rd_T29 l0 t599).f1))) * ((rd_T55 ((rd_T29 l0 t599).f2) x23_1).f2)))))))) ?hg ?ho ?hn ?hr ?_; (case ho => rfl); (case hg => rfl); (case hn => rfl); (case hr => first | (go_simp; done) | (go_simp; rfl)); intro w28 hw; have hg : w25.grownBy w28 (some go20) := (by rw [hw]; exact HP27.2); have hp_ : Kd.R (Kd.int .i64) 3 w28 w0.heap.size (fun k_ => (P4_ k_ ∨ w.heap.size ≤ k_)) (.slice (some ⟨go20, 0, none⟩) x4_1.length co26) y606 := (by rw [hw, Ny606.out]; exact HP27.1); clear HP27; have n0_ := Aside0.mk (hp_); have n1_ := Aside0.mk (blk_grown (g := gb601) (o := .cells #[.int .i64 ((rd_T29 l0 t599).f0), .int .i64 ((rd_T29 l0 t599).f1), .slice (some ad602) ((rd_T29 l0 t599).f2).length c600_2] 29 (0, 0)) (pC BK601) hg (Kd.R_ne HO_4.out BK601.out (by decide))); have n2_ := Aside0.mk (blk_grown (g := gb603) (o := .cells #[.int .i64 ((rd_T55 ((rd_T29 l0 t599).f2) x23_1).f0), .int .i64 ((rd_T55 ((rd_T29 l0 t599).f2) x23_1).f1), .int .i64 ((rd_T55 ((rd_T29 l0 t599).f2) x23_1).f2)] 55 (0, 0)) (pC BK603) hg (Kd.R_ne HO_4.out BK603.out (by decide))); have n3_ := Aside0.mk ((by rw [hw]; exact below_set (HB.out) GB20.out : Below w0.heap.size w0 w28)); have n4_ := Aside0.mk (Kept.of_grown (S := (fun k_ => P4_ k_)) hg F77.q0 (fun k_ e_ => (HO_4.out.1 k_ e_))); clear HO_4; clear BK601; clear BK603; clear HB; clear HK; have HO_4 := n0_; have BK601 := n1_; have BK603 := n2_; have HB := n3_; have HK := n4_; clear n0_ n1_ n2_ n3_ n4_; clear hg hw hp_))
   repeat (go_quiet (first | ((with_reducible refine gate_dst (N := 12) rfl ?_); refine box_event ?hg (N := 12) ?hd (cs := #[.int .i64 0, .int .i64 0, .int .i64 0]) (t := 55) ?hr ?_; (case hd => rfl); (case hg => rfl); (case hr => first | (go_simp; done) | (go_simp; rfl)); intro gb603 hg w21 hbox hb; have n0_ := Aside0.mk (Kd.R_below (pR HO_4) hb); have n1_ := Aside0.mk (blk_below (g := gb601) (o := .cells #[.int .i64 ((rd_T29 l0 t599).f0), .int .i64 ((rd_T29 l0 t599).f1), .slice (some ad602) ((rd_T29 l0 t599).f2).length c600_2] 29 (0, 0)) (pC BK601) hb); have n2_ := Aside0.mk (Kept.below (S := (fun k_ => P4_ k_)) (pH GW601) hb); have n3_ := Aside0.mk (below_step (pG GE601) hb); have n4_ := Aside0.mk (hbox); have n5_ := Aside0.mk ((by rw [hg]; exact F77.q4 : w.heap.size ≤ gb603)); have n6_ := Aside0.mk ((by rw [hg]; exact (below_size (pG GE601)) : w0.heap.size ≤ gb603)); have n7_ := Aside0.mk ((by rw [hg]; exact Nat.ne_of_lt (blk_lt (g := gb601) (o := .cells #[.int .i64 ((rd_T29 l0 t599).f0), .int .i64 ((rd_T29 l0 t599).f1), .slice (some ad602) ((rd_T29 l0 t599).f2).length c600_2] 29 (0, 0)) (pC BK601)) : gb601 ≠ gb603)); have n8_ := Aside0.mk ((by rw [hg]; exact Nat.ne_of_gt (blk_lt (g := gb601) (o := .cells #[.int .i64 ((rd_T29 l0 t599).f0), .int .i64 ((rd_T29 l0 t599).f1), .slice (some ad602) ((rd_T29 l0 t599).f2).length c600_2] 29 (0, 0)) (pC BK601)) : gb603 ≠ gb601)); clear HO_4; clear BK601; clear HK; clear HB; have HO_4 := n0_; have BK601 := n1_; have HK := n2_; have HB := n3_; have BK603 := n4_; have GW603 := n5_; have GE603 := n6_; have NB601_603 := n7_; have NB603_601 := n8_; clear n0_ n1_ n2_ n3_ n4_ n5_ n6_ n7_ n8_; clear hb hbox hg; have hnb22 := NB603_601.out; have hnc22 := NB601_603.out; have hcz23_0 : w21.cell? ⟨gb603, 0, none⟩ = some (.int .i64 0) := (blk_cell BK603.out 0).trans rfl; have hcz23_1 : w21.cell? ⟨gb603, 1, none⟩ = some (.int .i64 0) := (blk_cell BK603.out 1).trans rfl; have hcz23_2 : w21.cell? ⟨gb603, 2, none⟩ = some (.int .i64 0) := (blk_cell BK603.out 2).trans rfl; have hfz23_0 := blk_frozen BK603.out 0; have hfz23_1 := blk_frozen BK603.out 1; have hfz23_2 := blk_frozen BK603.out 2; have hcz24_0 : w21.cell? ⟨gb601, 0, none⟩ = some (.int .i64 ((rd_T29 l0 t599).f0)) := (blk_cell BK601.out 0).trans rfl; have hcz24_1 : w21.cell? ⟨gb601, 1, none⟩ = some (.int .i64 ((rd_T29 l0 t599).f1)) := (blk_cell BK601.out 1).trans rfl; have hcz24_2 : w21.cell? ⟨gb601, 2, none⟩ = some (.slice (some ad602) ((rd_T29 l0 t599).f2).length c600_2) := (blk_cell BK601.out 2).trans rfl; have hfz24_0 := blk_frozen BK601.out 0; have hfz24_1 := blk_frozen BK601.out 1; have hfz24_2 := blk_frozen BK601.out 2) | (go_at_call 81; (with_reducible refine (impl_foodPlace.calls _ _ l1 ((rd_T55 ((rd_T29 l0 t599).f2) x23_1).f0) t604 _ ?side1 ?side2 A17.out).mono ?_); (case side1 => exact Kd.C_kept_now HR1.out F77.q0); (case side2 => exact HC1.out); rintro e w25 ⟨rfl, hb⟩; have n0_ := Aside0.mk (Kd.R_below F77.q5 hb); have n1_ := Aside0.mk (blk_below (g := gb601) (o := .cells #[.int .i64 ((rd_T29 l0 t599).f0), .int .i64 ((rd_T29 l0 t599).f1), .slice (some ad602) ((rd_T29 l0 t599).f2).length c600_2] 29 (0, 0)) F77.q2 hb); have n2_ := Aside0.mk (blk_below (g := gb603) (o := .cells #[.int .i64 ((rd_T55 ((rd_T29 l0 t599).f2) x23_1).f0), .int .i64 ((rd_T55 ((rd_T29 l0 t599).f2) x23_1).f1), .int .i64 ((rd_T55 ((rd_T29 l0 t599).f2) x23_1).f2)] 55 (0, 0)) F77.q1 hb); have n3_ := Aside0.mk (Kept.below (S := (fun k_ => P4_ k_)) F77.q0 hb); have n4_ := Aside0.mk (below_step F77.q3 hb); clear HO_4; clear BK601; clear BK603; clear HK; clear HB; have HO_4 := n0_; have BK601 := n1_; have BK603 := n2_; have HK := n3_; have HB := n4_; clear n0_ n1_ n2_ n3_ n4_; (try clear hb); (try clear hb2); (try clear hk); (try clear hi); obtain ⟨Ao26, co26, eo26⟩ := Kd.R_slice HO_4.out; subst eo26; have p605 : 0 ≤ (t604 : Int) := of_decide_eq_true pA; have q605 : t604 < (x4_1.length : Int) := of_decide_eq_true pA; obtain ⟨ad605, e605, hx605_0⟩ := Kd.at_int (Kd.R_reads' HO_4.out).2.2 t604 p605 q605; cases e605; replace p605 := eq_true p605; replace q605 := eq_true q605; have p20 : 0 ≤ (t604 : Int) := of_decide_eq_true pA; have q20 : (t604 : Int) < ((x4_1.length : Int) : Int) := of_decide_eq_true pA; obtain ⟨go20, co20, eo20, gb20, gl20, cl20, HG20⟩ := Kd.R_form HO_4.out (by omega); (first | cases eo20 | (injection eo20 with ea_ en_ ec_; (first | subst ea_ | (injection ea_ with ea_; subst ea_)); subst ec_; clear en_)); have GB20 := Aside0.mk gb20; have GG20 := Aside0.mk HG20; clear gb20 gl20 HG20; have HMgo20 := Aside0.mk (show (P4_ go20 ∨ w.heap.size ≤ go20) from (HO_4.out.1 _ rfl)); (first | simp only [add_plain] at hx605_0 | skip); obtain ⟨hx20_0, hf20_0⟩ := Kd.R_celln 0 HO_4.out (t604 : Int) p20 q20; replace p20 := eq_true p20; replace q20 := eq_true q20; obtain ⟨hy27_, hz27_⟩ := Kd.R_celln 0 HO_4.out (t604 : Int) (of_decide_eq_true pA) (of_decide_eq_true pA); have HP27 := Kd.R_putg HO_4.out (t604 : Int) (wrap64 ((rd x4_1 t604) + (wrap64 ((wrap64 (Int.tdiv a3 ((rd_T29 l0 t599).f1))) * ((rd_T55 ((rd_T29 l0 t599).f2) x23_1).f2)))))) | ((with_reducible refine gate_store (t := 3) (p := 46) rfl ?_); (try (rw [drewN_self w25]; generalize hq_ : World.drewN w25 _ = w25; have n0_ := Aside0.mk (Kd.R_at hq_ HO_4.out); have n1_ := Aside0.mk (blk_at hq_ BK601.out); have n2_ := Aside0.mk (blk_at hq_ BK603.out); have n3_ := Aside0.mk (kept_at hq_ HK.out); have n4_ := Aside0.mk (below_at hq_ HB.out); clear hq_ HO_4 BK601 BK603 HK HB; have HO_4 := n0_; have BK601 := n1_; have BK603 := n2_; have HK := n3_; have HB := n4_; clear n0_ n1_ n2_ n3_ n4_; (try (obtain ⟨hy27_, hz27_⟩ := Kd.R_celln 0 HO_4.out (t604 : Int) (of_decide_eq_true pA) (of_decide_eq_true pA))); (try (have HP27 := Kd.R_putg HO_4.out (t604 : Int) (wrap64 ((rd x4_1 t604) + (wrap64 ((wrap64 (Int.tdiv a3 ((rd_T29 l0 t599).f1))) * ((rd_T55 ((rd_T29 l0 t599).f2) x23_1).f2))))))))); refine store_event (t := 3) (p := 46) (v := ?vo_w28) (w1 := (w25.setCell ⟨go20, (t604 : Int).toNat, none⟩ (.int .i64 (wrap64 ((rd x4_1 t604) + (wrap64 ((wrap64 (Int.tdiv a3 ((rd_T29 l0 t599).f1))) * ((rd_T55 ((rd_T29 l0 t599).f2) x23_1).f2)))))))) ?hg ?ho ?hn ?hr ?_; (case ho => rfl); (case hg => rfl); (case hn => rfl); (case hr => first | (go_simp; done) | (go_simp; rfl)); intro w28 hw; have hg : w25.grownBy w28 (some go20) := (by rw [hw]; exact HP27.2); have hp_ : Kd.R (Kd.int .i64) 3 w28 w0.heap.size (fun k_ => (P4_ k_ ∨ w.heap.size ≤ k_)) (.slice (some ⟨go20, 0, none⟩) x4_1.length co26) y606 := (by rw [hw, Ny606.out]; exact HP27.1); clear HP27; have n0_ := Aside0.mk (hp_); have n1_ := Aside0.mk (blk_grown (g := gb601) (o := .cells #[.int .i64 ((rd_T29 l0 t599).f0), .int .i64 ((rd_T29 l0 t599).f1), .slice (some ad602) ((rd_T29 l0 t599).f2).length c600_2] 29 (0, 0)) (pC BK601) hg (Kd.R_ne HO_4.out BK601.out (by decide))); have n2_ := Aside0.mk (blk_grown (g := gb603) (o := .cells #[.int .i64 ((rd_T55 ((rd_T29 l0 t599).f2) x23_1).f0), .int .i64 ((rd_T55 ((rd_T29 l0 t599).f2) x23_1).f1), .int .i64 ((rd_T55 ((rd_T29 l0 t599).f2) x23_1).f2)] 55 (0, 0)) (pC BK603) hg (Kd.R_ne HO_4.out BK603.out (by decide))); have n3_ := Aside0.mk ((by rw [hw]; exact below_set (HB.out) GB20.out : Below w0.heap.size w0 w28)); have n4_ := Aside0.mk (Kept.of_grown (S := (fun k_ => P4_ k_)) hg F77.q0 (fun k_ e_ => (HO_4.out.1 k_ e_))); clear HO_4; clear BK601; clear BK603; clear HB; clear HK; have HO_4 := n0_; have BK601 := n1_; have BK603 := n2_; have HB := n3_; have HK := n4_; clear n0_ n1_ n2_ n3_ n4_; clear hg hw hp_)); try go_wp2_with (first | ((with_reducible refine gate_dst (N := 12) rfl ?_); refine box_event ?hg (N := 12) ?hd (cs := #[.int .i64 0, .int .i64 0, .int .i64 0]) (t := 55) ?hr ?_; (case hd => rfl); (case hg => rfl); (case hr => first | (go_simp; done) | (go_simp; rfl)); intro gb603 hg w21 hbox hb; have n0_ := Aside0.mk (Kd.R_below (pR HO_4) hb); have n1_ := Aside0.mk (blk_below (g := gb601) (o := .cells #[.int .i64 ((rd_T29 l0 t599).f0), .int .i64 ((rd_T29 l0 t599).f1), .slice (some ad602) ((rd_T29 l0 t599).f2).length c600_2] 29 (0, 0)) (pC BK601) hb); have n2_ := Aside0.mk (Kept.below (S := (fun k_ => P4_ k_)) (pH GW601) hb); have n3_ := Aside0.mk (below_step (pG GE601) hb); have n4_ := Aside0.mk (hbox); have n5_ := Aside0.mk ((by rw [hg]; exact F77.q4 : w.heap.size ≤ gb603)); have n6_ := Aside0.mk ((by rw [hg]; exact (below_size (pG GE601)) : w0.heap.size ≤ gb603)); have n7_ := Aside0.mk ((by rw [hg]; exact Nat.ne_of_lt (blk_lt (g := gb601) (o := .cells #[.int .i64 ((rd_T29 l0 t599).f0), .int .i64 ((rd_T29 l0 t599).f1), .slice (some ad602) ((rd_T29 l0 t599).f2).length c600_2] 29 (0, 0)) (pC BK601)) : gb601 ≠ gb603)); have n8_ := Aside0.mk ((by rw [hg]; exact Nat.ne_of_gt (blk_lt (g := gb601) (o := .cells #[.int .i64 ((rd_T29 l0 t599).f0), .int .i64 ((rd_T29 l0 t599).f1), .slice (some ad602) ((rd_T29 l0 t599).f2).length c600_2] 29 (0, 0)) (pC BK601)) : gb603 ≠ gb601)); clear HO_4; clear BK601; clear HK; clear HB; have HO_4 := n0_; have BK601 := n1_; have HK := n2_; have HB := n3_; have BK603 := n4_; have GW603 := n5_; have GE603 := n6_; have NB601_603 := n7_; have NB603_601 := n8_; clear n0_ n1_ n2_ n3_ n4_ n5_ n6_ n7_ n8_; clear hb hbox hg; have hnb22 := NB603_601.out; have hnc22 := NB601_603.out; have hcz23_0 : w21.cell? ⟨gb603, 0, none⟩ = some (.int .i64 0) := (blk_cell BK603.out 0).trans rfl; have hcz23_1 : w21.cell? ⟨gb603, 1, none⟩ = some (.int .i64 0) := (blk_cell BK603.out 1).trans rfl; have hcz23_2 : w21.cell? ⟨gb603, 2, none⟩ = some (.int .i64 0) := (blk_cell BK603.out 2).trans rfl; have hfz23_0 := blk_frozen BK603.out 0; have hfz23_1 := blk_frozen BK603.out 1; have hfz23_2 := blk_frozen BK603.out 2; have hcz24_0 : w21.cell? ⟨gb601, 0, none⟩ = some (.int .i64 ((rd_T29 l0 t599).f0)) := (blk_cell BK601.out 0).trans rfl; have hcz24_1 : w21.cell? ⟨gb601, 1, none⟩ = some (.int .i64 ((rd_T29 l0 t599).f1)) := (blk_cell BK601.out 1).trans rfl; have hcz24_2 : w21.cell? ⟨gb601, 2, none⟩ = some (.slice (some ad602) ((rd_T29 l0 t599).f2).length c600_2) := (blk_cell BK601.out 2).trans rfl; have hfz24_0 := blk_frozen BK601.out 0; have hfz24_1 := blk_frozen BK601.out 1; have hfz24_2 := blk_frozen BK601.out 2) | (go_at_call 81; (with_reducible refine (impl_foodPlace.calls _ _ l1 ((rd_T55 ((rd_T29 l0 t599).f2) x23_1).f0) t604 _ ?side1 ?side2 A17.out).mono ?_); (case side1 => exact Kd.C_kept_now HR1.out F77.q0); (case side2 => exact HC1.out); rintro e w25 ⟨rfl, hb⟩; have n0_ := Aside0.mk (Kd.R_below F77.q5 hb); have n1_ := Aside0.mk (blk_below (g := gb601) (o := .cells #[.int .i64 ((rd_T29 l0 t599).f0), .int .i64 ((rd_T29 l0 t599).f1), .slice (some ad602) ((rd_T29 l0 t599).f2).length c600_2] 29 (0, 0)) F77.q2 hb); have n2_ := Aside0.mk (blk_below (g := gb603) (o := .cells #[.int .i64 ((rd_T55 ((rd_T29 l0 t599).f2) x23_1).f0), .int .i64 ((rd_T55 ((rd_T29 l0 t599).f2) x23_1).f1), .int .i64 ((rd_T55 ((rd_T29 l0 t599).f2) x23_1).f2)] 55 (0, 0)) F77.q1 hb); have n3_ := Aside0.mk (Kept.below (S := (fun k_ => P4_ k_)) F77.q0 hb); have n4_ := Aside0.mk (below_step F77.q3 hb); clear HO_4; clear BK601; clear BK603; clear HK; clear HB; have HO_4 := n0_; have BK601 := n1_; have BK603 := n2_; have HK := n3_; have HB := n4_; clear n0_ n1_ n2_ n3_ n4_; (try clear hb); (try clear hb2); (try clear hk); (try clear hi); obtain ⟨Ao26, co26, eo26⟩ := Kd.R_slice HO_4.out; subst eo26; have p605 : 0 ≤ (t604 : Int) := of_decide_eq_true pA; have q605 : t604 < (x4_1.length : Int) := of_decide_eq_true pA; obtain ⟨ad605, e605, hx605_0⟩ := Kd.at_int (Kd.R_reads' HO_4.out).2.2 t604 p605 q605; cases e605; replace p605 := eq_true p605; replace q605 := eq_true q605; have p20 : 0 ≤ (t604 : Int) := of_decide_eq_true pA; have q20 : (t604 : Int) < ((x4_1.length : Int) : Int) := of_decide_eq_true pA; obtain ⟨go20, co20, eo20, gb20, gl20, cl20, HG20⟩ := Kd.R_form HO_4.out (by omega); (first | cases eo20 | (injection eo20 with ea_ en_ ec_; (first | subst ea_ | (injection ea_ with ea_; subst ea_)); subst ec_; clear en_)); have GB20 := Aside0.mk gb20; have GG20 := Aside0.mk HG20; clear gb20 gl20 HG20; have HMgo20 := Aside0.mk (show (P4_ go20 ∨ w.heap.size ≤ go20) from (HO_4.out.1 _ rfl)); (first | simp only [add_plain] at hx605_0 | skip); obtain ⟨hx20_0, hf20_0⟩ := Kd.R_celln 0 HO_4.out (t604 : Int) p20 q20; replace p20 := eq_true p20; replace q20 := eq_true q20; obtain ⟨hy27_, hz27_⟩ := Kd.R_celln 0 HO_4.out (t604 : Int) (of_decide_eq_true pA) (of_decide_eq_true pA); have HP27 := Kd.R_putg HO_4.out (t604 : Int) (wrap64 ((rd x4_1 t604) + (wrap64 ((wrap64 (Int.tdiv a3 ((rd_T29 l0 t599).f1))) * ((rd_T55 ((rd_T29 l0 t599).f2) x23_1).f2)))))) | ((with_reducible refine gate_store (t := 3) (p := 46) rfl ?_); (try (rw [drewN_self w25]; generalize hq_ : World.drewN w25 _ = w25; have n0_ := Aside0.mk (Kd.R_at hq_ HO_4.out); have n1_ := Aside0.mk (blk_at hq_ BK601.out); have n2_ := Aside0.mk (blk_at hq_ BK603.out); have n3_ := Aside0.mk (kept_at hq_ HK.out); have n4_ := Aside0.mk (below_at hq_ HB.out); clear hq_ HO_4 BK601 BK603 HK HB; have HO_4 := n0_; have BK601 := n1_; have BK603 := n2_; have HK := n3_; have HB := n4_; clear n0_ n1_ n2_ n3_ n4_; (try (obtain ⟨hy27_, hz27_⟩ := Kd.R_celln 0 HO_4.out (t604 : Int) (of_decide_eq_true pA) (of_decide_eq_true pA))); (try (have HP27 := Kd.R_putg HO_4.out (t604 : Int) (wrap64 ((rd x4_1 t604) + (wrap64 ((wrap64 (Int.tdiv a3 ((rd_T29 l0 t599).f1))) * ((rd_T55 ((rd_T29 l0 t599).f2) x23_1).f2))))))))); refine store_event (t := 3) (p := 46) (v := ?vo_w28) (w1 := (w25.setCell ⟨go20, (t604 : Int).toNat, none⟩ (.int .i64 (wrap64 ((rd x4_1 t604) + (wrap64 ((wrap64 (Int.tdiv a3 ((rd_T29 l0 t599).f1))) * ((rd_T55 ((rd_T29 l0 t599).f2) x23_1).f2)))))))) ?hg ?ho ?hn ?hr ?_; (case ho => rfl); (case hg => rfl); (case hn => rfl); (case hr => first | (go_simp; done) | (go_simp; rfl)); intro w28 hw; have hg : w25.grownBy w28 (some go20) := (by rw [hw]; exact HP27.2); have hp_ : Kd.R (Kd.int .i64) 3 w28 w0.heap.size (fun k_ => (P4_ k_ ∨ w.heap.size ≤ k_)) (.slice (some ⟨go20, 0, none⟩) x4_1.length co26) y606 := (by rw [hw, Ny606.out]; exact HP27.1); clear HP27; have n0_ := Aside0.mk (hp_); have n1_ := Aside0.mk (blk_grown (g := gb601) (o := .cells #[.int .i64 ((rd_T29 l0 t599).f0), .int .i64 ((rd_T29 l0 t599).f1), .slice (some ad602) ((rd_T29 l0 t599).f2).length c600_2] 29 (0, 0)) (pC BK601) hg (Kd.R_ne HO_4.out BK601.out (by decide))); have n2_ := Aside0.mk (blk_grown (g := gb603) (o := .cells #[.int .i64 ((rd_T55 ((rd_T29 l0 t599).f2) x23_1).f0), .int .i64 ((rd_T55 ((rd_T29 l0 t599).f2) x23_1).f1), .int .i64 ((rd_T55 ((rd_T29 l0 t599).f2) x23_1).f2)] 55 (0, 0)) (pC BK603) hg (Kd.R_ne HO_4.out BK603.out (by decide))); have n3_ := Aside0.mk ((by rw [hw]; exact below_set (HB.out) GB20.out : Below w0.heap.size w0 w28)); have n4_ := Aside0.mk (Kept.of_grown (S := (fun k_ => P4_ k_)) hg F77.q0 (fun k_ e_ => (HO_4.out.1 k_ e_))); clear HO_4; clear BK601; clear BK603; clear HB; clear HK; have HO_4 := n0_; have BK601 := n1_; have BK603 := n2_; have HB := n3_; have HK := n4_; clear n0_ n1_ n2_ n3_ n4_; clear hg hw hp_)))
   go_roundg k1
   case measure => have := HK1.out; omega
   case rel => exact ⟨(y606), (wrap64 (x23_1 + 1)), pF, H', ⟨by have := HK1.out; omega⟩, ⟨pR HO_4⟩, ⟨pC BK601⟩, ⟨by repeat (first | (with_reducible first | exact HK.out | apply Kept.alloc | apply Kept.drewN | apply Kept.drew | refine Kept.setCell ?_ (.inr GW601.out) _ | refine Kept.setCell ?_ (.inr GW603.out) _) | exact HK.out)⟩, ⟨by repeat (first | (with_reducible first | exact HB.out | apply below_alloc | apply pw_below_drewN | apply below_drew1 | refine below_set ?_ GE601.out | refine below_set ?_ GE603.out) | exact HB.out)⟩⟩
/-! ### impl_roundedUp: function 78 -/
def impl_roundedUp.f (a0 : Int) (a1 : Int) : Option (Int) := if a1 = 0 then (none) else (some (wrap64 (Int.tdiv (wrap64 ((wrap64 (a0 + a1)) - 1)) a1)))
set_option maxHeartbeats 8000000 in
set_option maxRecDepth 100000 in
theorem impl_roundedUp.calls (a0 : Int) (a1 : Int) (r : Int) (w : World) (h : impl_roundedUp.f a0 a1 = some r) :
  Calls Try.prog 78 #[.int .i64 a0, .int .i64 a1] w fun e w' => e = .returned (.int .i64 r) ∧ Drawn0 w w' := by
 have H : (if a1 = 0 then (none) else (some (wrap64 (Int.tdiv (wrap64 ((wrap64 (a0 + a1)) - 1)) a1)))) = some r := h
 clear h
 by_cases c3 : a1 = 0
 ·rw [if_pos c3] at H
  exact absurd H (by simp)
 rw [if_neg c3] at H
 have c3b0 : (a1 == 0) = false := beq_eq_false_iff_ne.mpr c3
 have c3b1 : (a1 != 0) = true := bne_iff_ne.mpr c3
 obtain rfl := Option.some.inj H
 go_enter Try.func78, Try.ntmps78
 go_wp2
 go_ret
 exact ⟨pF, by repeat (first | exact Drawn0.refl _ | apply Drawn0.step)⟩

end Go.Proofs.Ytclldijjbmnkeaa.Q
