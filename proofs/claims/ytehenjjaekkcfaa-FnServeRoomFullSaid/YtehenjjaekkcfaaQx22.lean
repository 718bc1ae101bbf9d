-- Written by the kit's print.py for all laws of the seat at once (one namespace), by a program of this session.
import Derived.Test.YtehenjjaekkcfaaQx0
import Derived.Test.YtehenjjaekkcfaaQx2
import Derived.Test.YtehenjjaekkcfaaQx9
namespace Go.Proofs.Ytehenjjaekkcfaa.Q
open Go.RowKit Go.Proofs.YtehenjjaekkcfaaW.PrintWords Go.Proofs.YtehenjjaekkcfaaW.PrintLast Go.Proofs.YtehenjjaekkcfaaW.PrintMore
attribute [local go_sem] max2_int min2_int max_two min_two max_three min_three max_four min_four   -- for this text's walks alone
set_option linter.unusedVariables false
set_option linter.unusedSimpArgs false

/-! ### slices_Clone_int_int: function 75 -/
-- by hand
def slices_Clone_int_int.f (l0 : List Int) : Option (List Int) := if l0.length < 17592186044416 then some l0 else none
theorem slices_Clone_int_int.infoI : (Try.prog.info? 3).map (fun i => (i.zero, i.size, i.bytes)) = some (some (.int .i64 0), 1, 8) := by kernel_rfl
set_option maxHeartbeats 4000000 in
set_option maxRecDepth 100000 in
theorem slices_Clone_int_int.calls (A0 : Option Addr) (c0 : Nat) (l0 : List Int) (r : List Int) (w : World) (hr0 : Kd.C (Kd.int .i64) w A0 l0.length l0) (hc0 : l0.length ≤ c0) (h : slices_Clone_int_int.f l0 = some r) :
    Calls Try.prog 75 #[.slice A0 l0.length c0] w fun e w' => ∃ v0_ : Value, e = .returned (v0_) ∧ Kd.R (Kd.int .i64) 3 w' w.heap.size (fun _ => True) v0_ r ∧ Below w.heap.size w w' := by
  unfold slices_Clone_int_int.f at h
  by_cases hl : l0.length < 17592186044416
  · rw [if_pos hl] at h
    obtain rfl := Option.some.inj h
    have HL := Aside0.mk hl
    have HR0 := Aside0.mk hr0
    have HC0 := Aside0.mk hc0
    have HB := Aside0.mk (Below.refl w.heap.size w)
    clear hc0 hl h
    cases A0 with
    | none =>
      have e : l0 = [] := by
        rcases Nat.eq_zero_or_pos l0.length with e | e
        · exact List.eq_nil_of_length_eq_zero e
        · obtain ⟨ad, e, _⟩ := hr0.2.2 e
          cases e
      clear hr0
      subst e
      have hq : ∀ (w : World) (n c : Nat), (binOp .eql 37 (.slice none n c) (.slice none 0 0)).run Try.prog w = .ok (.bool true) w := fun w n c => by kernel_rfl
      go_enter Try.func75, Try.ntmps75
      go_wp2
      go_ret
      exact ⟨_, rfl, Kd.R_nil _ _ _ _ _, HB.out⟩
    | some ad =>
      clear hr0
      have hq : ∀ (w : World) (n c : Nat), (binOp .eql 37 (.slice (some ad) n c) (.slice none 0 0)).run Try.prog w = .ok (.bool false) w := fun w n c => by kernel_rfl
      go_enter Try.func75, Try.ntmps75
      go_wp2_with (first | ((with_reducible refine gate_dst (N := 5) rfl ?_); refine Kd.R_lit (Kd.int .i64) _ 3 ?hg (N := 5) ?hd (xs := ([] : List Int)) (inner := []) (ok := fun _ => True) (okp := fun _ => True) ?hr ?hp (fun _ hk => hk) trivial (Below.refl _ _) (Nat.le_refl _) (by simp) ?_; (case hd => rfl); (case hg => rfl); (case hr => first | (go_simp; done) | (go_simp; rfl)); (case hp => exact (Reps.none _ _)); intro v1 w1 ho1 hb hg_ hnew_; clear hg_ hnew_; have n0_ := Aside0.mk (Kd.R_lower ho1 (below_size HB.out)); have n1_ := Aside0.mk (below_step HB.out hb); clear HB; have HO1 := n0_; have HB := n1_; clear n0_ n1_; clear hb ho1) | ((with_reducible refine gate_builtin (b := .append) (xs := #[.tmp 5, .tmp 6]) rfl ?_); at_builtin; refine Kd.R_append_row (Value.int .i64) (0 : Int) (h1 := fun _ => rfl) (w0 := w) w.heap.size rfl (.tmp 5) (.tmp 6) 37 3 (.int .i64 0) 8 rfl Try.underlying37 slices_Clone_int_int.infoI rfl (by decide) v1 ([] : List Int) l0 (some ad) l0.length c0 (fun _ => True) rfl rfl (fun _ _ => trivial) HO1.out (Kd.C_below HR0.out HB.out) HB.out HB.out.size (by have := HL.out; simp only [List.length_nil]; omega) ?_; intro v2 w2 ho hb hg hat; have HO2 := Aside0.mk ho; have HB2 := Aside0.mk hb; clear ho hb hg hat))
      go_ret
      exact ⟨_, rfl, HO2.out, HB2.out⟩
  · rw [if_neg hl] at h
    cases h

/-! ### impl_firstPlan: function 69 -/
mutual
def impl_firstPlan.l0 : Nat → List (S43) → List (S32) → List Int → List Int → Int → List (S32) → Int → Int → Option (List Int × Bool)
 | 0, _, _, _, _, _, _, _, _ => none
 | k + 1, x0, x1, x2, x3, x10, x23, x24, x25 => if x25 < x24 then (if 0 ≤ x25 then (if x25 < (x23.length : Int) then (if x25 < (x3.length : Int) then (if (rd x3 x25) = 0 then (impl_firstPlan.j1 k x0 x1 x2 x3 x10 x25 x23 x24 x25 true) else (if 0 ≤ x10 then (if x10 < (x0.length : Int) then ((impl_Choice_may.f ((rd_T32 x23 x25).f0) ((rd_T32 x23 x25).f1) ((rd_T32 x23 x25).f2) ((rd_T43 x0 x10).f0) ((rd_T43 x0 x10).f1) ((rd_T43 x0 x10).f2)).bind fun t505 => (impl_firstPlan.j1 k x0 x1 x2 x3 x10 x25 x23 x24 x25 (!t505))) else (none)) else (none))) else (none)) else (none)) else (none)) else (some (([] : List Int), false))
def impl_firstPlan.j1 : Nat → List (S43) → List (S32) → List Int → List Int → Int → Int → List (S32) → Int → Int → Bool → Option (List Int × Bool)
 | 0, _, _, _, _, _, _, _, _, _, _ => none
 | k + 1, x0, x1, x2, x3, x10, x11, x23, x24, x25, x43 => if x43 = true then (impl_firstPlan.l0 k x0 x1 x2 x3 x10 x23 x24 (wrap64 (x25 + 1))) else ((slices_Clone_int_int.f x3).bind fun t506 => (if 0 ≤ x11 then (if x11 < (t506.length : Int) then ((slices_Clone_int_int.f x2).bind fun t511 => (if t511.length < 17592186044416 then ((impl_firstPlan.f k x0 x1 (t511 ++ [x11]) (t506.set (x11 : Int).toNat (wrap64 ((rd t506 x11) - 1)))).bind fun bt517 => (if bt517.2 = true then (some (bt517.1, true)) else (impl_firstPlan.l0 k x0 x1 x2 x3 x10 x23 x24 (wrap64 (x25 + 1))))) else (none))) else (none)) else (none)))
def impl_firstPlan.f : Nat → List (S43) → List (S32) → List Int → List Int → Option (List Int × Bool)
 | 0, _, _, _, _ => none
 | k + 1, l0, l1, l2, l3 => if (l2.length : Int) = (l0.length : Int) then (some (l2, true)) else (impl_firstPlan.l0 k l0 l1 l2 l3 (l2.length : Int) l1 (l1.length : Int) 0)
end
theorem impl_firstPlan.mono_l : ∀ k, (∀ y0 y1 y2 y3, LeO (impl_firstPlan.f k y0 y1 y2 y3) (impl_firstPlan.f (k + 1) y0 y1 y2 y3)) ∧ (∀ y0 y1 y2 y3 y4 y5 y6 y7, LeO (impl_firstPlan.l0 k y0 y1 y2 y3 y4 y5 y6 y7) (impl_firstPlan.l0 (k + 1) y0 y1 y2 y3 y4 y5 y6 y7)) ∧ (∀ y0 y1 y2 y3 y4 y5 y6 y7 y8 y9, LeO (impl_firstPlan.j1 k y0 y1 y2 y3 y4 y5 y6 y7 y8 y9) (impl_firstPlan.j1 (k + 1) y0 y1 y2 y3 y4 y5 y6 y7 y8 y9))
 | 0 => ⟨fun _ _ _ _ r h => by simp [impl_firstPlan.f] at h, fun _ _ _ _ _ _ _ _ r h => by simp [impl_firstPlan.l0] at h, fun _ _ _ _ _ _ _ _ _ _ r h => by simp [impl_firstPlan.j1] at h⟩
 | k + 1 => by
  obtain ⟨ih0, ih1, ih2⟩ := impl_firstPlan.mono_l k
  refine ⟨?_, ?_, ?_⟩
  ·intro y0 y1 y2 y3
   unfold impl_firstPlan.f
   repeat' first
   | (with_reducible exact ih0 _ _ _ _)
   | (with_reducible exact ih1 _ _ _ _ _ _ _ _)
   | (with_reducible exact ih2 _ _ _ _ _ _ _ _ _ _)
   | (with_reducible exact LeO.refl _)
   | (with_reducible exact LeO.none _)
   | (with_reducible refine LeO.ite ?_ ?_)
   | (with_reducible refine LeO.bind ?_ (fun _ => ?_))
   | exact ih0 _ _ _ _
   | exact ih1 _ _ _ _ _ _ _ _
   | exact ih2 _ _ _ _ _ _ _ _ _ _
   | exact LeO.none _
   | refine LeO.ite ?_ ?_
   | refine LeO.bind ?_ (fun _ => ?_)
  ·intro y0 y1 y2 y3 y4 y5 y6 y7
   unfold impl_firstPlan.l0
   repeat' first
   | (with_reducible exact ih0 _ _ _ _)
   | (with_reducible exact ih1 _ _ _ _ _ _ _ _)
   | (with_reducible exact ih2 _ _ _ _ _ _ _ _ _ _)
   | (with_reducible exact LeO.refl _)
   | (with_reducible exact LeO.none _)
   | (with_reducible refine LeO.ite ?_ ?_)
   | (with_reducible refine LeO.bind ?_ (fun _ => ?_))
   | exact ih0 _ _ _ _
   | exact ih1 _ _ _ _ _ _ _ _
   | exact ih2 _ _ _ _ _ _ _ _ _ _
   | exact LeO.none _
   | refine LeO.ite ?_ ?_
   | refine LeO.bind ?_ (fun _ => ?_)
  ·intro y0 y1 y2 y3 y4 y5 y6 y7 y8 y9
   unfold impl_firstPlan.j1
   repeat' first
   | (with_reducible exact ih0 _ _ _ _)
   | (with_reducible exact ih1 _ _ _ _ _ _ _ _)
   | (with_reducible exact ih2 _ _ _ _ _ _ _ _ _ _)
   | (with_reducible exact LeO.refl _)
   | (with_reducible exact LeO.none _)
   | (with_reducible refine LeO.ite ?_ ?_)
   | (with_reducible refine LeO.bind ?_ (fun _ => ?_))
   | exact ih0 _ _ _ _
   | exact ih1 _ _ _ _ _ _ _ _
   | exact ih2 _ _ _ _ _ _ _ _ _ _
   | exact LeO.none _
   | refine LeO.ite ?_ ?_
   | refine LeO.bind ?_ (fun _ => ?_)
theorem impl_firstPlan.mono : ∀ a0 a1 a2 a3 k, LeO (impl_firstPlan.f k a0 a1 a2 a3) (impl_firstPlan.f (k + 1) a0 a1 a2 a3) := by
 intro a0 a1 a2 a3 k
 obtain ⟨ih0, ih1, ih2⟩ := impl_firstPlan.mono_l k
 exact ih0 a0 a1 a2 a3
def impl_firstPlan.T7 : Bool × List (List Nat × List Nat) := (true, [([], []), ([], []), ([0, 1], [0, 1]), ([2], [2]), ([3], [3]), ([4], [4]), ([5], [5]), ([5], [5]), ([5], [5]), ([7, 8, 5], [5, 7, 8]), ([9, 5], [5, 9]), ([6, 10, 5, 5], [5, 6, 10]), ([11, 5], [5, 11]), ([5, 12], [5, 12])])
def impl_firstPlan.B7 : List Nat := [0, 0, 3, 7, 15, 31, 63, 63, 63, 447, 959, 2047, 4095, 8191]
theorem impl_firstPlan.tab7 : rtab .any (opsOf Try.f69 7) = impl_firstPlan.T7 := by kernel_rfl
theorem impl_firstPlan.bits7 : waitsOk impl_firstPlan.T7.2 impl_firstPlan.B7 = true := by kernel_rfl
set_option maxHeartbeats 8000000 in
set_option maxRecDepth 100000 in
theorem impl_firstPlan.calls (k : Nat) : ∀ (A0 : Option Addr) (c0 : Nat) (l0 : List (S43)) (A1 : Option Addr) (c1 : Nat) (l1 : List (S32)) (P2_ : Nat → Prop) (u9000_ : Value) (l2 : List Int) (A3 : Option Addr) (c3 : Nat) (l3 : List Int) (r1 : List Int) (r2 : Bool) (w0 w : World) (hB : Below w0.heap.size w0 w) (hr0 : ∀ W_, Kept w W_ (fun k_ => P2_ k_) → Kd.C k43 W_ A0 l0.length l0) (hc0 : l0.length ≤ c0) (hr1 : ∀ W_, Kept w W_ (fun k_ => P2_ k_) → Kd.C k32 W_ A1 l1.length l1) (hc1 : l1.length ≤ c1) (ho2 : Kd.R (Kd.int .i64) 3 w w0.heap.size P2_ u9000_ l2) (hr3 : ∀ W_, Kept w W_ (fun k_ => P2_ k_) → Kd.C (Kd.int .i64) W_ A3 l3.length l3) (hc3 : l3.length ≤ c3) (h : impl_firstPlan.f k l0 l1 l2 l3 = some (r1, r2)),
  Calls Try.prog 69 #[.slice A0 l0.length c0, .slice A1 l1.length c1, u9000_, .slice A3 l3.length c3] w fun e w' => ∃ v0_ : Value, e = .returned (.tuple #[v0_, .bool r2]) ∧ Kd.R (Kd.int .i64) 3 w' w0.heap.size (fun k_ => (P2_ k_ ∨ w.heap.size ≤ k_)) v0_ r1 ∧ Below w0.heap.size w0 w' ∧ Kept w w' (fun k_ => P2_ k_) := by
 induction k using Nat.strongRecOn with
 | _ k ih =>
 intro A0 c0 l0 A1 c1 l1 P2_ u9000_ l2 A3 c3 l3 r1 r2 w0 w hB hr0 hc0 hr1 hc1 ho2 hr3 hc3 h
 cases k with
 | zero => exact absurd h (by simp [impl_firstPlan.f])
 | succ k =>
 simp only [impl_firstPlan.f] at h
 have hu32 := Try.underlying32
 have hu43 := Try.underlying43
 have HR0 := Aside0.mk hr0
 have HC0 := Aside0.mk hc0
 clear hr0 hc0
 have HR1 := Aside0.mk hr1
 have HC1 := Aside0.mk hc1
 clear hr1 hc1
 have HO2 := Aside0.mk (show Kd.R (Kd.int .i64) 3 w w0.heap.size (fun k_ => (P2_ k_ ∨ w.heap.size ≤ k_)) u9000_ l2 from Kd.R_mono ho2 (fun k_ hk => (.inl hk)))
 have HR3 := Aside0.mk hr3
 have HC3 := Aside0.mk hc3
 clear hr3 hc3
 have HK := Aside0.mk (Kept.refl w (fun k_ => P2_ k_))
 have HW0 := Aside0.mk hB.size
 have HB := Aside0.mk hB
 clear hB
 have H : (if (l2.length : Int) = (l0.length : Int) then (some (l2, true)) else (impl_firstPlan.l0 k l0 l1 l2 l3 (l2.length : Int) l1 (l1.length : Int) 0)) = some (r1, r2) := h
 clear h
 by_cases c5 : (l2.length : Int) = (l0.length : Int)
 ·rw [if_pos c5] at H
  have c5b0 : ((l2.length : Int) == (l0.length : Int)) = true := beq_iff_eq.mpr c5
  have c5b1 : ((l2.length : Int) != (l0.length : Int)) = false := bne_eq_false_iff_eq.mpr c5
  have c5b2 : (l2.length == l0.length) = true := by first | simpa using c5 | (simp at c5 ⊢; omega)
  clear c5
  simp only [Option.some.injEq, Prod.mk.injEq] at H
  obtain ⟨rfl, rfl⟩ := H
  obtain ⟨Ao6, co6, eo6⟩ := Kd.R_slice HO2.out
  subst eo6
  go_enter Try.func69, Try.ntmps69
  go_wp2
  go_ret2
  exact ⟨_, pE, pR HO2, pB, by repeat (first | (with_reducible first | exact HK.out | apply Kept.alloc | apply Kept.drewN | apply Kept.drew) | exact HK.out)⟩
 ·rw [if_neg c5] at H
  have c5b0 : ((l2.length : Int) == (l0.length : Int)) = false := beq_eq_false_iff_ne.mpr c5
  have c5b1 : ((l2.length : Int) != (l0.length : Int)) = true := bne_iff_ne.mpr c5
  have c5b2 : (l2.length == l0.length) = false := by first | simpa using c5 | (simp at c5 ⊢; omega)
  have H' := Aside0.mk H
  clear H
  obtain ⟨Ao7, co7, eo7⟩ := Kd.R_slice HO2.out
  subst eo7
  go_enter Try.func69, Try.ntmps69
  go_wp2
  go_loopg [25] k (fun kq v25 w' => ∃ (x2_1 : List Int) (x25_1 : Int), v25 = .int .i64 x25_1 ∧ Aside0 (impl_firstPlan.l0 kq l0 l1 x2_1 l3 (l2.length : Int) l1 (l1.length : Int) x25_1 = some (r1, r2)) ∧ Aside0 (kq ≤ k) ∧ Aside0 (Kd.R (Kd.int .i64) 3 w' w0.heap.size (fun k_ => (P2_ k_ ∨ w.heap.size ≤ k_)) (.slice Ao7 l2.length co7) x2_1) ∧ Aside0 (Kept w w' (fun k_ => P2_ k_)) ∧ Aside0 (Below w0.heap.size w0 w'))
  case atStart => exact ⟨(l2), (0), pF, H', ⟨Nat.le_refl _⟩, ⟨pR HO2⟩, ⟨by repeat (first | (with_reducible first | exact HK.out | apply Kept.alloc | apply Kept.drewN | apply Kept.drew) | exact HK.out)⟩, ⟨pB⟩⟩
  case round =>
   clear H'
   try clear c1
   try clear p2
   try clear c3
   try clear c5
   try clear c5b0
   try clear c5b1
   try clear c5b2
   try clear c6
   obtain ⟨x2_1, x25_1, rfl, HA, HK1, HO_2, HK, HB⟩ := hrel
   have hl2_1 := (Kd.R_reads' HO_2.out).1
   rw [hl2_1] at HO_2
   (try simp only [hl2_1])
   cases gk with
   | zero => exact absurd HA.out (by simp [impl_firstPlan.l0])
   | succ k1 =>
    have H := HA.out
    clear HA
    simp only [impl_firstPlan.l0] at H
    by_cases c8 : x25_1 < (l1.length : Int)
    ·rw [if_pos c8] at H
     have c8b0 : decide (x25_1 < (l1.length : Int)) = true := decide_eq_true c8
     clear c8
     by_cases c9 : 0 ≤ x25_1
     ·rw [if_pos c9] at H
      have c9b0 : decide (0 ≤ x25_1) = true := decide_eq_true c9
      clear c9
      by_cases c10 : x25_1 < (l1.length : Int)
      ·rw [if_pos c10] at H
       have c10b0 : decide (x25_1 < (l1.length : Int)) = true := decide_eq_true c10
       clear c10
       have HC11 := Aside0.mk H
       clear H
       have p501 : 0 ≤ (x25_1 : Int) := of_decide_eq_true pA
       have q501 : x25_1 < (l1.length : Int) := of_decide_eq_true pA
       obtain ⟨ad501, e501, hx501_0, hx501_1, hx501_2⟩ := at_T32 (Kd.C_kept_now HR1.out HK.out) x25_1 p501 q501
       cases e501
       replace p501 := eq_true p501
       replace q501 := eq_true q501
       go_upto_region 7 with (first | ((with_reducible refine gate_dst (N := 12) rfl ?_); refine box_event ?hg (N := 12) ?hd (cs := #[.int .i64 0, .int .i64 0, .int .i64 0]) (t := 32) ?hr ?_; (case hd => rfl); (case hg => rfl); (case hr => first | (go_simp; done) | (go_simp; rfl)); intro gb502 hg w12 hbox hb; have n0_ := Aside0.mk (Kd.R_below (pR HO_2) hb); have n1_ := Aside0.mk (Kept.below (S := (fun k_ => P2_ k_)) (by repeat (first | (with_reducible first | exact HK.out | apply Kept.alloc | apply Kept.drewN | apply Kept.drew) | exact HK.out)) hb); have n2_ := Aside0.mk (below_step pB hb); have n3_ := Aside0.mk (hbox); have n4_ := Aside0.mk ((by rw [hg]; exact (by first | exact HK.out.1 | exact (show Kept w _ (fun k_ => P2_ k_) from by repeat (first | (with_reducible first | exact HK.out | apply Kept.alloc | apply Kept.drewN | apply Kept.drew) | exact HK.out)).1) : w.heap.size ≤ gb502)); have n5_ := Aside0.mk ((by rw [hg]; exact (below_size pB) : w0.heap.size ≤ gb502)); clear HO_2; clear HK; clear HB; have HO_2 := n0_; have HK := n1_; have HB := n2_; have BK502 := n3_; have GW502 := n4_; have GE502 := n5_; clear n0_ n1_ n2_ n3_ n4_ n5_; clear hb hbox hg; have hcz13_0 : w12.cell? ⟨gb502, 0, none⟩ = some (.int .i64 0) := (blk_cell BK502.out 0).trans rfl; have hcz13_1 : w12.cell? ⟨gb502, 1, none⟩ = some (.int .i64 0) := (blk_cell BK502.out 1).trans rfl; have hcz13_2 : w12.cell? ⟨gb502, 2, none⟩ = some (.int .i64 0) := (blk_cell BK502.out 2).trans rfl; have hfz13_0 := blk_frozen BK502.out 0; have hfz13_1 := blk_frozen BK502.out 1; have hfz13_2 := blk_frozen BK502.out 2))
       (try simp only [Act.put, List.setIfInBounds_toArray, List.set_cons_zero, List.set_cons_succ])
       go_cut [43] (fun v43 wc => ∃ (kq : Nat) (x43_10 : Bool), v43 = .bool x43_10 ∧ Aside0 (impl_firstPlan.j1 kq l0 l1 x2_1 l3 (l2.length : Int) x25_1 l1 (l1.length : Int) x25_1 x43_10 = some (r1, r2)) ∧ Aside0 (kq ≤ k1) ∧ Aside0 (Kd.R (Kd.int .i64) 3 wc w0.heap.size (fun k_ => (P2_ k_ ∨ w.heap.size ≤ k_)) (.slice Ao7 x2_1.length co7) x2_1) ∧ Aside0 (wc.heap[gb502]? = some (.cells #[.int .i64 ((rd_T32 l1 x25_1).f0), .int .i64 ((rd_T32 l1 x25_1).f1), .int .i64 ((rd_T32 l1 x25_1).f2)] 32 (0, 0))) ∧ Aside0 (Kept w wc (fun k_ => P2_ k_)) ∧ Aside0 (Below w0.heap.size w0 wc))
       case first =>
        have H := HC11.out
        clear HC11
        by_cases c14 : x25_1 < (l3.length : Int)
        ·rw [if_pos c14] at H
         have c14b0 : decide (x25_1 < (l3.length : Int)) = true := decide_eq_true c14
         clear c14
         (first | rw [c14b0] | (simp only [i64_w, i32_w]; rw [c14b0]) | skip)
         by_cases c15 : (rd l3 x25_1) = 0
         ·rw [if_pos c15] at H
          have c15b0 : ((rd l3 x25_1) == 0) = true := beq_iff_eq.mpr c15
          have c15b1 : ((rd l3 x25_1) != 0) = false := bne_eq_false_iff_eq.mpr c15
          clear c15
          have H' := Aside0.mk H
          clear H
          try go_wp2
          have n0_ : Aside0 (Kd.R (Kd.int .i64) 3 (((w12.setCell ⟨gb502, 0, none⟩ (.int .i64 ((rd_T32 l1 x25_1).f0))).setCell ⟨gb502, 1, none⟩ (.int .i64 ((rd_T32 l1 x25_1).f1))).setCell ⟨gb502, 2, none⟩ (.int .i64 ((rd_T32 l1 x25_1).f2))) w0.heap.size (fun k_ => (P2_ k_ ∨ w.heap.size ≤ k_)) (.slice Ao7 x2_1.length co7) x2_1) := ⟨by (with_reducible repeat (first | apply Kd.R_alloc | apply Kd.R_drewN | apply Kd.R_drew)); exact Kd.R_mono (Kd.R_far (p := ⟨gb502, 2, none⟩) (Kd.R_far (p := ⟨gb502, 1, none⟩) (Kd.R_far (p := ⟨gb502, 0, none⟩) (Kd.R_types HO_2.out BK502.out (by decide)) (fun _ hk => hk.2) (.int .i64 ((rd_T32 l1 x25_1).f0))) (fun _ hk => hk.2) (.int .i64 ((rd_T32 l1 x25_1).f1))) (fun _ hk => hk.2) (.int .i64 ((rd_T32 l1 x25_1).f2))) (fun _ hk => hk.1)⟩
          have n1_ : Aside0 ((((w12.setCell ⟨gb502, 0, none⟩ (.int .i64 ((rd_T32 l1 x25_1).f0))).setCell ⟨gb502, 1, none⟩ (.int .i64 ((rd_T32 l1 x25_1).f1))).setCell ⟨gb502, 2, none⟩ (.int .i64 ((rd_T32 l1 x25_1).f2))).heap[gb502]? = some (.cells #[.int .i64 ((rd_T32 l1 x25_1).f0), .int .i64 ((rd_T32 l1 x25_1).f1), .int .i64 ((rd_T32 l1 x25_1).f2)] 32 (0, 0))) := ⟨by (with_reducible repeat (first | refine blk_drewN ?_ _ | refine blk_drew ?_ | refine blk_alloc ?_ _)); refine blk_put (cs := #[.int .i64 ((rd_T32 l1 x25_1).f0), .int .i64 ((rd_T32 l1 x25_1).f1), .int .i64 0]) ?_ 2 _ rfl; (with_reducible repeat (first | refine blk_drewN ?_ _ | refine blk_drew ?_ | refine blk_alloc ?_ _)); refine blk_put (cs := #[.int .i64 ((rd_T32 l1 x25_1).f0), .int .i64 0, .int .i64 0]) ?_ 1 _ rfl; (with_reducible repeat (first | refine blk_drewN ?_ _ | refine blk_drew ?_ | refine blk_alloc ?_ _)); refine blk_put (cs := #[.int .i64 0, .int .i64 0, .int .i64 0]) ?_ 0 _ rfl; (with_reducible repeat (first | refine blk_drewN ?_ _ | refine blk_drew ?_ | refine blk_alloc ?_ _)); exact BK502.out⟩
          have n2_ : Aside0 (Kept w (((w12.setCell ⟨gb502, 0, none⟩ (.int .i64 ((rd_T32 l1 x25_1).f0))).setCell ⟨gb502, 1, none⟩ (.int .i64 ((rd_T32 l1 x25_1).f1))).setCell ⟨gb502, 2, none⟩ (.int .i64 ((rd_T32 l1 x25_1).f2))) (fun k_ => P2_ k_)) := ⟨pH GW502⟩
          have n3_ : Aside0 (Below w0.heap.size w0 (((w12.setCell ⟨gb502, 0, none⟩ (.int .i64 ((rd_T32 l1 x25_1).f0))).setCell ⟨gb502, 1, none⟩ (.int .i64 ((rd_T32 l1 x25_1).f1))).setCell ⟨gb502, 2, none⟩ (.int .i64 ((rd_T32 l1 x25_1).f2)))) := ⟨pG GE502⟩
          (try clear HO_2)
          (try clear BK502)
          (try clear HK)
          (try clear HB)
          generalize (((w12.setCell ⟨gb502, 0, none⟩ (.int .i64 ((rd_T32 l1 x25_1).f0))).setCell ⟨gb502, 1, none⟩ (.int .i64 ((rd_T32 l1 x25_1).f1))).setCell ⟨gb502, 2, none⟩ (.int .i64 ((rd_T32 l1 x25_1).f2))) = w16 at n0_ n1_ n2_ n3_ ⊢
          have HO_2 := n0_
          have BK502 := n1_
          have HK := n2_
          have HB := n3_
          clear n0_ n1_ n2_ n3_
          have n0_ := Aside0.mk (Kd.R_drew HO_2.out)
          have n1_ := Aside0.mk (blk_drew BK502.out)
          have n2_ := Aside0.mk (Kept.drew HK.out)
          have n3_ := Aside0.mk (below_drew1 HB.out)
          clear HO_2
          clear BK502
          clear HK
          clear HB
          have HO_2 := n0_
          have BK502 := n1_
          have HK := n2_
          have HB := n3_
          clear n0_ n1_ n2_ n3_
          have p503 : 0 ≤ (x25_1 : Int) := of_decide_eq_true pA
          have q503 : x25_1 < (l3.length : Int) := of_decide_eq_true pA
          obtain ⟨ad503, e503, hx503_0⟩ := Kd.at_int (Kd.C_kept_now HR3.out HK.out) x25_1 p503 q503
          have hw503_0 := hx503_0
          cases e503
          replace p503 := eq_true p503
          replace q503 := eq_true q503
          refine start_ (n := 14) (S := fun w' => w'.cell? (ad503.add (x25_1).toNat) = some (.int .i64 (rd l3 x25_1))) (ds := []) #[false, false, false, false, false, false, false, false, false, false, false, false, false, false] pL rfl rfl ((Kd.foot_int (HR3.out _ (by repeat (first | exact HK.out | apply Kept.alloc | apply Kept.drewN | apply Kept.drew))) x25_1 (of_eq_true p503) (of_eq_true q503))) (fun hHeld => ?_); refine with_tabW impl_firstPlan.tab7 impl_firstPlan.bits7 (fun HT_ HW_ => ?_)
          generalize w16.drew = w17 at HO_2 BK502 HK HB hx503_0 hHeld ⊢
          refine pure_ (i := 0) (N := some 30) (v := ?_) (a' := ?_) #[true, false, false, false, false, false, false, false, false, false, false, false, false, false] rfl rfl (any_of HT_.out pL) (fun _ _ _ h => h) (Or.inl ⟨by rfl, ?_⟩) ?_ ?_
          rotate_left
          ·intro w'
           go_simp
           with_reducible rfl
          rotate_left
          ·exact pP
          refine pure_ (i := 1) (N := some 31) (v := ?_) (a' := ?_) #[true, true, false, false, false, false, false, false, false, false, false, false, false, false] rfl rfl (any_of HT_.out pL) (fun _ _ _ h => h) (Or.inl ⟨by rfl, ?_⟩) ?_ ?_
          rotate_left
          ·intro w'
           go_simp
           with_reducible rfl
          rotate_left
          ·exact pP
          refine pure_ (i := 2) (N := some 32) (v := ?_) (a' := ?_) #[true, true, true, false, false, false, false, false, false, false, false, false, false, false] rfl rfl (any_of HT_.out pL) (fun _ _ _ h => h) (Or.inl ⟨by rfl, ?_⟩) ?_ ?_
          rotate_left
          ·intro w'
           go_simp
           with_reducible rfl
          rotate_left
          ·exact pP
          refine take_ (i := 3) (N := some 33) (v := ?_) (a' := ?_) #[true, true, true, true, false, false, false, false, false, false, false, false, false, false] rfl rfl (take_ofW HT_.out HW_.out pL) (fun _ _ _ h => h) (Or.inl ⟨by rfl, ?_⟩) hHeld ?_ ?_
          rotate_left
          ·intro w' s0
           go_simp
           with_reducible rfl
          rotate_left
          ·exact pP
          refine pure_ (i := 4) (N := some 34) (v := ?_) (a' := ?_) #[true, true, true, true, true, false, false, false, false, false, false, false, false, false] rfl rfl (any_of HT_.out pL) (fun _ _ _ h => h) (Or.inl ⟨by rfl, ?_⟩) ?_ ?_
          rotate_left
          ·intro w'
           go_simp
           with_reducible rfl
          rotate_left
          ·exact pP
          refine pure_ (i := 5) (N := some 35) (v := ?_) (a' := ?_) #[true, true, true, true, true, true, false, false, false, false, false, false, false, false] rfl rfl (any_of HT_.out pL) (fun _ _ _ h => h) (Or.inl ⟨by rfl, ?_⟩) ?_ ?_
          rotate_left
          ·intro w'
           go_simp
           with_reducible rfl
          rotate_left
          ·exact pP
          refine pure_ (i := 6) (N := some 36) (v := undef) (a' := ?_) #[true, true, true, true, true, true, true, false, false, false, false, false, false, false] rfl rfl (any_of HT_.out pL) (fun _ _ _ h => h) (Or.inr ⟨by rfl, rfl⟩) ?_ ?_
          rotate_left
          ·exact pP
          refine pure_ (i := 7) (N := some 37) (v := undef) (a' := ?_) #[true, true, true, true, true, true, true, true, false, false, false, false, false, false] rfl rfl (any_of HT_.out pL) (fun _ _ _ h => h) (Or.inr ⟨by rfl, rfl⟩) ?_ ?_
          rotate_left
          ·exact pP
          refine pure_ (i := 8) (N := some 38) (v := undef) (a' := ?_) #[true, true, true, true, true, true, true, true, true, false, false, false, false, false] rfl rfl (any_of HT_.out pL) (fun _ _ _ h => h) (Or.inr ⟨by rfl, rfl⟩) ?_ ?_
          rotate_left
          ·exact pP
          refine pure_ (i := 9) (N := some 39) (v := undef) (a' := ?_) #[true, true, true, true, true, true, true, true, true, true, false, false, false, false] rfl rfl (any_of HT_.out pL) (fun _ _ _ h => h) (Or.inr ⟨by rfl, rfl⟩) ?_ ?_
          rotate_left
          ·exact pP
          refine pure_ (i := 10) (N := some 40) (v := undef) (a' := ?_) #[true, true, true, true, true, true, true, true, true, true, true, false, false, false] rfl rfl (any_of HT_.out pL) (fun _ _ _ h => h) (Or.inr ⟨by rfl, rfl⟩) ?_ ?_
          rotate_left
          ·exact pP
          refine pure_ (i := 11) (N := some 41) (v := undef) (a' := ?_) #[true, true, true, true, true, true, true, true, true, true, true, true, false, false] rfl rfl (any_of HT_.out pL) (fun _ _ _ h => h) (Or.inr ⟨by rfl, rfl⟩) ?_ ?_
          rotate_left
          ·exact pP
          refine pure_ (i := 12) (N := some 42) (v := undef) (a' := ?_) #[true, true, true, true, true, true, true, true, true, true, true, true, true, false] rfl rfl (any_of HT_.out pL) (fun _ _ _ h => h) (Or.inr ⟨by rfl, rfl⟩) ?_ ?_
          rotate_left
          ·exact pP
          refine pure_ (i := 13) (N := some 43) (v := ?_) (a' := ?_) #[true, true, true, true, true, true, true, true, true, true, true, true, true, true] rfl rfl (any_of HT_.out pL) (fun _ _ _ h => h) (Or.inl ⟨by rfl, ?_⟩) ?_ ?_
          rotate_left
          ·intro w'
           go_simp
           with_reducible rfl
          rotate_left
          ·exact pP
          refine done_ (done_of HT_.out pL) ?_
          try go_wp2
          go_meet
          case rel => exact ⟨_, (true), pF, H', ⟨by have := HK1.out; first | omega | exact Nat.le_refl _⟩, ⟨by (try simp only [hl2_1]); (with_reducible repeat (first | apply Kd.R_alloc | apply Kd.R_drewN | apply Kd.R_drew)); exact HO_2.out⟩, ⟨by (try simp only [hl2_1]); (with_reducible repeat (first | refine blk_drewN ?_ _ | refine blk_drew ?_ | refine blk_alloc ?_ _)); exact BK502.out⟩, ⟨pH GW502⟩, ⟨pG GE502⟩⟩
         ·rw [if_neg c15] at H
          have c15b0 : ((rd l3 x25_1) == 0) = false := beq_eq_false_iff_ne.mpr c15
          have c15b1 : ((rd l3 x25_1) != 0) = true := bne_iff_ne.mpr c15
          by_cases c18 : 0 ≤ (l2.length : Int)
          ·rw [if_pos c18] at H
           have c18b0 : decide (0 ≤ (l2.length : Int)) = true := decide_eq_true c18
           have c18b1 : decide (0 ≤ l2.length) = true := decide_eq_true (by omega)
           clear c18
           by_cases c19 : (l2.length : Int) < (l0.length : Int)
           ·rw [if_pos c19] at H
            have c19b0 : decide ((l2.length : Int) < (l0.length : Int)) = true := decide_eq_true c19
            have c19b1 : decide (l2.length < l0.length) = true := decide_eq_true (Int.ofNat_lt.mp c19)
            clear c19
            replace H := Option.bind_eq_some_iff.mp H
            obtain ⟨t505, A200, H⟩ := H
            replace H : (impl_firstPlan.j1 k1 l0 l1 x2_1 l3 (l2.length : Int) x25_1 l1 (l1.length : Int) x25_1 (!t505)) = some (r1, r2) := H
            have A20 := Aside0.mk A200
            clear A200
            have H' := Aside0.mk H
            clear H
            try go_wp2
            have n0_ : Aside0 (Kd.R (Kd.int .i64) 3 (((w12.setCell ⟨gb502, 0, none⟩ (.int .i64 ((rd_T32 l1 x25_1).f0))).setCell ⟨gb502, 1, none⟩ (.int .i64 ((rd_T32 l1 x25_1).f1))).setCell ⟨gb502, 2, none⟩ (.int .i64 ((rd_T32 l1 x25_1).f2))) w0.heap.size (fun k_ => (P2_ k_ ∨ w.heap.size ≤ k_)) (.slice Ao7 x2_1.length co7) x2_1) := ⟨by (with_reducible repeat (first | apply Kd.R_alloc | apply Kd.R_drewN | apply Kd.R_drew)); exact Kd.R_mono (Kd.R_far (p := ⟨gb502, 2, none⟩) (Kd.R_far (p := ⟨gb502, 1, none⟩) (Kd.R_far (p := ⟨gb502, 0, none⟩) (Kd.R_types HO_2.out BK502.out (by decide)) (fun _ hk => hk.2) (.int .i64 ((rd_T32 l1 x25_1).f0))) (fun _ hk => hk.2) (.int .i64 ((rd_T32 l1 x25_1).f1))) (fun _ hk => hk.2) (.int .i64 ((rd_T32 l1 x25_1).f2))) (fun _ hk => hk.1)⟩
            have n1_ : Aside0 ((((w12.setCell ⟨gb502, 0, none⟩ (.int .i64 ((rd_T32 l1 x25_1).f0))).setCell ⟨gb502, 1, none⟩ (.int .i64 ((rd_T32 l1 x25_1).f1))).setCell ⟨gb502, 2, none⟩ (.int .i64 ((rd_T32 l1 x25_1).f2))).heap[gb502]? = some (.cells #[.int .i64 ((rd_T32 l1 x25_1).f0), .int .i64 ((rd_T32 l1 x25_1).f1), .int .i64 ((rd_T32 l1 x25_1).f2)] 32 (0, 0))) := ⟨by (with_reducible repeat (first | refine blk_drewN ?_ _ | refine blk_drew ?_ | refine blk_alloc ?_ _)); refine blk_put (cs := #[.int .i64 ((rd_T32 l1 x25_1).f0), .int .i64 ((rd_T32 l1 x25_1).f1), .int .i64 0]) ?_ 2 _ rfl; (with_reducible repeat (first | refine blk_drewN ?_ _ | refine blk_drew ?_ | refine blk_alloc ?_ _)); refine blk_put (cs := #[.int .i64 ((rd_T32 l1 x25_1).f0), .int .i64 0, .int .i64 0]) ?_ 1 _ rfl; (with_reducible repeat (first | refine blk_drewN ?_ _ | refine blk_drew ?_ | refine blk_alloc ?_ _)); refine blk_put (cs := #[.int .i64 0, .int .i64 0, .int .i64 0]) ?_ 0 _ rfl; (with_reducible repeat (first | refine blk_drewN ?_ _ | refine blk_drew ?_ | refine blk_alloc ?_ _)); exact BK502.out⟩
            have n2_ : Aside0 (Kept w (((w12.setCell ⟨gb502, 0, none⟩ (.int .i64 ((rd_T32 l1 x25_1).f0))).setCell ⟨gb502, 1, none⟩ (.int .i64 ((rd_T32 l1 x25_1).f1))).setCell ⟨gb502, 2, none⟩ (.int .i64 ((rd_T32 l1 x25_1).f2))) (fun k_ => P2_ k_)) := ⟨pH GW502⟩
            have n3_ : Aside0 (Below w0.heap.size w0 (((w12.setCell ⟨gb502, 0, none⟩ (.int .i64 ((rd_T32 l1 x25_1).f0))).setCell ⟨gb502, 1, none⟩ (.int .i64 ((rd_T32 l1 x25_1).f1))).setCell ⟨gb502, 2, none⟩ (.int .i64 ((rd_T32 l1 x25_1).f2)))) := ⟨pG GE502⟩
            (try clear HO_2)
            (try clear BK502)
            (try clear HK)
            (try clear HB)
            generalize (((w12.setCell ⟨gb502, 0, none⟩ (.int .i64 ((rd_T32 l1 x25_1).f0))).setCell ⟨gb502, 1, none⟩ (.int .i64 ((rd_T32 l1 x25_1).f1))).setCell ⟨gb502, 2, none⟩ (.int .i64 ((rd_T32 l1 x25_1).f2))) = w21 at n0_ n1_ n2_ n3_ ⊢
            have HO_2 := n0_
            have BK502 := n1_
            have HK := n2_
            have HB := n3_
            clear n0_ n1_ n2_ n3_
            have n0_ := Aside0.mk (Kd.R_drew HO_2.out)
            have n1_ := Aside0.mk (blk_drew BK502.out)
            have n2_ := Aside0.mk (Kept.drew HK.out)
            have n3_ := Aside0.mk (below_drew1 HB.out)
            clear HO_2
            clear BK502
            clear HK
            clear HB
            have HO_2 := n0_
            have BK502 := n1_
            have HK := n2_
            have HB := n3_
            clear n0_ n1_ n2_ n3_
            have p503 : 0 ≤ (x25_1 : Int) := of_decide_eq_true pA
            have q503 : x25_1 < (l3.length : Int) := of_decide_eq_true pA
            obtain ⟨ad503, e503, hx503_0⟩ := Kd.at_int (Kd.C_kept_now HR3.out HK.out) x25_1 p503 q503
            have hw503_0 := hx503_0
            cases e503
            replace p503 := eq_true p503
            replace q503 := eq_true q503
            have p504 : 0 ≤ ((l2.length : Int) : Int) := of_decide_eq_true pA
            have q504 : (l2.length : Int) < (l0.length : Int) := of_decide_eq_true pA
            obtain ⟨ad504, e504, hx504_0, hx504_1, hx504_2⟩ := at_T43 (Kd.C_kept_now HR0.out HK.out) (l2.length : Int) p504 q504
            have hw504_2 := hx504_2
            have hw504_1 := hx504_1
            have hw504_0 := hx504_0
            cases e504
            (try simp only [Go.IntWalk.toNatUp] at hx504_0)
            (try simp only [Go.IntWalk.toNatUp] at hx504_1)
            (try simp only [Go.IntWalk.toNatUp] at hx504_2)
            (try simp only [hl2_1] at p504)
            (try simp only [hl2_1] at q504)
            (try simp only [hl2_1] at hx504_0)
            (try simp only [hl2_1] at hx504_1)
            (try simp only [hl2_1] at hx504_2)
            replace p504 := eq_true p504
            replace q504 := eq_true q504
            refine start_ (n := 14) (S := fun w' => w'.cell? ⟨gb502, 0, none⟩ = some (.int .i64 ((rd_T32 l1 x25_1).f0)) ∧ w'.cell? ⟨gb502, 1, none⟩ = some (.int .i64 ((rd_T32 l1 x25_1).f1)) ∧ w'.cell? ⟨gb502, 2, none⟩ = some (.int .i64 ((rd_T32 l1 x25_1).f2)) ∧ w'.cell? (ad503.add (x25_1).toNat) = some (.int .i64 (rd l3 x25_1)) ∧ w'.cell? (ad504.add (x2_1.length * 3)) = some (.int .i64 ((rd_T43 l0 (x2_1.length : Int)).f0)) ∧ w'.cell? ⟨(ad504.add (x2_1.length * 3)).block, (ad504.add (x2_1.length * 3)).off + 1, none⟩ = some (.int .i64 ((rd_T43 l0 (x2_1.length : Int)).f1)) ∧ w'.cell? ⟨(ad504.add (x2_1.length * 3)).block, (ad504.add (x2_1.length * 3)).off + 2, none⟩ = some (.int .i64 ((rd_T43 l0 (x2_1.length : Int)).f2))) (ds := []) #[false, false, false, false, false, false, false, false, false, false, false, false, false, false] pL rfl rfl ⟨(blk_cell BK502.out 0).trans rfl, (blk_cell BK502.out 1).trans rfl, (blk_cell BK502.out 2).trans rfl, (Kd.foot_int (HR3.out _ (by repeat (first | exact HK.out | apply Kept.alloc | apply Kept.drewN | apply Kept.drew))) x25_1 (of_eq_true p503) (of_eq_true q503)), hx504_0, hx504_1, hx504_2⟩ (fun hHeld => ?_); refine with_tabW impl_firstPlan.tab7 impl_firstPlan.bits7 (fun HT_ HW_ => ?_)
            generalize w21.drew = w22 at HO_2 BK502 HK HB hx503_0 hx504_0 hx504_1 hx504_2 hHeld ⊢
            refine pure_ (i := 0) (N := some 30) (v := ?_) (a' := ?_) #[true, false, false, false, false, false, false, false, false, false, false, false, false, false] rfl rfl (any_of HT_.out pL) (fun _ _ _ h => h) (Or.inl ⟨by rfl, ?_⟩) ?_ ?_
            rotate_left
            ·intro w'
             go_simp
             with_reducible rfl
            rotate_left
            ·exact pP
            refine pure_ (i := 1) (N := some 31) (v := ?_) (a' := ?_) #[true, true, false, false, false, false, false, false, false, false, false, false, false, false] rfl rfl (any_of HT_.out pL) (fun _ _ _ h => h) (Or.inl ⟨by rfl, ?_⟩) ?_ ?_
            rotate_left
            ·intro w'
             go_simp
             with_reducible rfl
            rotate_left
            ·exact pP
            refine pure_ (i := 2) (N := some 32) (v := ?_) (a' := ?_) #[true, true, true, false, false, false, false, false, false, false, false, false, false, false] rfl rfl (any_of HT_.out pL) (fun _ _ _ h => h) (Or.inl ⟨by rfl, ?_⟩) ?_ ?_
            rotate_left
            ·intro w'
             go_simp
             with_reducible rfl
            rotate_left
            ·exact pP
            refine take_ (i := 3) (N := some 33) (v := ?_) (a' := ?_) #[true, true, true, true, false, false, false, false, false, false, false, false, false, false] rfl rfl (take_ofW HT_.out HW_.out pL) (fun _ _ _ h => h) (Or.inl ⟨by rfl, ?_⟩) hHeld ?_ ?_
            rotate_left
            ·rintro w' ⟨s0, s1, s2, s3, s4, s5, s6⟩
             go_simp
             with_reducible rfl
            rotate_left
            ·exact pP
            refine pure_ (i := 4) (N := some 34) (v := ?_) (a' := ?_) #[true, true, true, true, true, false, false, false, false, false, false, false, false, false] rfl rfl (any_of HT_.out pL) (fun _ _ _ h => h) (Or.inl ⟨by rfl, ?_⟩) ?_ ?_
            rotate_left
            ·intro w'
             go_simp
             with_reducible rfl
            rotate_left
            ·exact pP
            refine pure_ (i := 5) (N := some 35) (v := ?_) (a' := ?_) #[true, true, true, true, true, true, false, false, false, false, false, false, false, false] rfl rfl (any_of HT_.out pL) (fun _ _ _ h => h) (Or.inl ⟨by rfl, ?_⟩) ?_ ?_
            rotate_left
            ·intro w'
             go_simp
             with_reducible rfl
            rotate_left
            ·exact pP
            refine pure_ (i := 7) (N := some 37) (v := ?_) (a' := ?_) #[true, true, true, true, true, true, false, true, false, false, false, false, false, false] rfl rfl (any_of HT_.out pL) (fun _ _ _ h => h) (Or.inl ⟨by rfl, ?_⟩) ?_ ?_
            rotate_left
            ·intro w'
             go_simp
             with_reducible rfl
            rotate_left
            ·exact pP
            refine pure_ (i := 8) (N := some 38) (v := ?_) (a' := ?_) #[true, true, true, true, true, true, false, true, true, false, false, false, false, false] rfl rfl (any_of HT_.out pL) (fun _ _ _ h => h) (Or.inl ⟨by rfl, ?_⟩) ?_ ?_
            rotate_left
            ·intro w'
             go_simp
             with_reducible rfl
            rotate_left
            ·exact pP
            refine pure_ (i := 9) (N := some 39) (v := ?_) (a' := ?_) #[true, true, true, true, true, true, false, true, true, true, false, false, false, false] rfl rfl (any_of HT_.out pL) (fun _ _ _ h => h) (Or.inl ⟨by rfl, ?_⟩) ?_ ?_
            rotate_left
            ·intro w'
             go_simp
             with_reducible rfl
            rotate_left
            ·exact pP
            refine take_ (i := 6) (N := some 36) (v := ?_) (a' := ?_) #[true, true, true, true, true, true, true, true, true, true, false, false, false, false] rfl rfl (take_ofW HT_.out HW_.out pL) (fun _ _ _ h => h) (Or.inl ⟨by rfl, ?_⟩) hHeld ?_ ?_
            rotate_left
            ·rintro w' ⟨s0, s1, s2, s3, s4, s5, s6⟩
             go_simp
             with_reducible rfl
            rotate_left
            ·exact pP
            refine take_ (i := 10) (N := some 40) (v := ?_) (a' := ?_) #[true, true, true, true, true, true, true, true, true, true, true, false, false, false] rfl rfl (take_ofW HT_.out HW_.out pL) (fun _ _ _ h => h) (Or.inl ⟨by rfl, ?_⟩) hHeld ?_ ?_
            rotate_left
            ·rintro w' ⟨s0, s1, s2, s3, s4, s5, s6⟩
             go_simp
             with_reducible rfl
            rotate_left
            ·exact pP
            refine one_ (i := 11) (N := some 41) #[true, true, true, true, true, true, true, true, true, true, true, true, false, false] rfl rfl (one_of HT_.out pL) (by decide) (fun K hK => ?_)
            refine goes_ Try.func61 pL rfl #[.agg #[.int .i64 ((rd_T32 l1 x25_1).f0), .int .i64 ((rd_T32 l1 x25_1).f1), .int .i64 ((rd_T32 l1 x25_1).f2)], .agg #[.int .i64 ((rd_T43 l0 (l2.length : Int)).f0), .int .i64 ((rd_T43 l0 (l2.length : Int)).f1), .int .i64 ((rd_T43 l0 (l2.length : Int)).f2)]] (by rfl) rfl rfl (by (try simp only [List.map_toArray, List.map_cons, List.map_nil]); first | done | rfl | (simp only [hl2_1]; done) | (simp only [hl2_1]; rfl) | (simp only [List.length_drop, List.length_take]; rfl)) ?_
            with_reducible refine (impl_Choice_may.calls ((rd_T32 l1 x25_1).f0) ((rd_T32 l1 x25_1).f1) ((rd_T32 l1 x25_1).f2) ((rd_T43 l0 (l2.length : Int)).f0) ((rd_T43 l0 (l2.length : Int)).f1) ((rd_T43 l0 (l2.length : Int)).f2) t505 _ A20.out).mono ?_
            rintro e w23 ⟨rfl, hb⟩
            have HS4_ := (hb.cell (World.block_lt_of_cell? _ _ (hHeld.2.2.2.2.1))).trans (hHeld.2.2.2.2.1)
            have HS5_ := (hb.cell (World.block_lt_of_cell? _ _ (hHeld.2.2.2.2.2.1))).trans (hHeld.2.2.2.2.2.1)
            have HS6_ := (hb.cell (World.block_lt_of_cell? _ _ (hHeld.2.2.2.2.2.2))).trans (hHeld.2.2.2.2.2.2)
            refine ⟨_, rfl, ?_⟩
            have n0_ := Aside0.mk (Kd.R_below (pR HO_2) hb)
            have n1_ := Aside0.mk (blk_below (g := gb502) (o := .cells #[.int .i64 ((rd_T32 l1 x25_1).f0), .int .i64 ((rd_T32 l1 x25_1).f1), .int .i64 ((rd_T32 l1 x25_1).f2)] 32 (0, 0)) (pC BK502) hb)
            have n2_ := Aside0.mk (Kept.below (S := (fun k_ => P2_ k_)) (pH GW502) hb)
            have n3_ := Aside0.mk (below_step (pG GE502) hb)
            clear HO_2
            clear BK502
            clear HK
            clear HB
            have HO_2 := n0_
            have BK502 := n1_
            have HK := n2_
            have HB := n3_
            clear n0_ n1_ n2_ n3_
            (try clear hb)
            (try clear hb2)
            (try clear hk)
            (try clear hi)
            refine hK.out _ _ ⟨(blk_cell BK502.out 0).trans rfl, (blk_cell BK502.out 1).trans rfl, (blk_cell BK502.out 2).trans rfl, (Kd.foot_int (HR3.out _ (by repeat (first | exact HK.out | apply Kept.alloc | apply Kept.drewN | apply Kept.drew))) x25_1 (of_eq_true p503) (of_eq_true q503)), HS4_, HS5_, HS6_⟩ (fun hHeld => ?_)
            clear hK K
            refine norm_ (a' := ?_) ?_ ?_
            rotate_left
            ·show Act.put _ (some 41) _ = _
             exact pP
            refine pure_ (i := 12) (N := some 42) (v := ?_) (a' := ?_) #[true, true, true, true, true, true, true, true, true, true, true, true, true, false] rfl rfl (any_of HT_.out pL) (fun _ _ _ h => h) (Or.inl ⟨by rfl, ?_⟩) ?_ ?_
            rotate_left
            ·intro w'
             go_simp
             with_reducible rfl
            rotate_left
            ·exact pP
            refine pure_ (i := 13) (N := some 43) (v := ?_) (a' := ?_) #[true, true, true, true, true, true, true, true, true, true, true, true, true, true] rfl rfl (any_of HT_.out pL) (fun _ _ _ h => h) (Or.inl ⟨by rfl, ?_⟩) ?_ ?_
            rotate_left
            ·intro w'
             go_simp
             with_reducible rfl
            rotate_left
            ·exact pP
            refine done_ (done_of HT_.out pL) ?_
            try go_wp2
            go_meet
            case rel => exact ⟨_, (!t505), pF, H', ⟨by have := HK1.out; first | omega | exact Nat.le_refl _⟩, ⟨by (try simp only [hl2_1]); (with_reducible repeat (first | apply Kd.R_alloc | apply Kd.R_drewN | apply Kd.R_drew)); exact HO_2.out⟩, ⟨by (try simp only [hl2_1]); (with_reducible repeat (first | refine blk_drewN ?_ _ | refine blk_drew ?_ | refine blk_alloc ?_ _)); exact BK502.out⟩, ⟨pH GW502⟩, ⟨pG GE502⟩⟩
           ·rw [if_neg c19] at H
            exact absurd H (by simp)
          ·rw [if_neg c18] at H
           exact absurd H (by simp)
        ·rw [if_neg c14] at H
         exact absurd H (by simp)
       case rest =>
        clear HC11
        try clear c1
        try clear p2
        try clear c3
        try clear c5
        try clear c5b0
        try clear c5b1
        try clear c5b2
        try clear p5
        try clear q5
        try clear hx5
        try clear c6
        try clear c8
        try clear c8b0
        try clear c9
        try clear c9b0
        try clear c10
        try clear c10b0
        try clear c14
        try clear c14b0
        try clear c15
        try clear c15b0
        try clear c15b1
        try clear c18
        try clear c18b0
        try clear c18b1
        try clear c19
        try clear c19b0
        try clear c19b1
        try clear hcz13_0
        try clear hcz13_1
        try clear hcz13_2
        try clear hfz13_0
        try clear hfz13_1
        try clear hfz13_2
        try clear hx501_0
        try clear hx501_1
        try clear hx501_2
        try clear hx503_0
        try clear hx504_0
        try clear hx504_1
        try clear hx504_2
        try clear p2
        try clear p501
        try clear p503
        try clear p504
        try clear q501
        try clear q503
        try clear q504
        obtain ⟨kq, x43_10, rfl, HA, HJ10, HO_2, BK502, HK, HB⟩ := hcut
        cases kq with
        | zero => exact absurd HA.out (by simp [impl_firstPlan.j1])
        | succ kj10 =>
         have H := HA.out
         clear HA
         simp only [impl_firstPlan.j1] at H
         by_cases c24 : x43_10 = true
         ·subst c24
          have H1 : (impl_firstPlan.l0 kj10 l0 l1 x2_1 l3 (l2.length : Int) l1 (l1.length : Int) (wrap64 (x25_1 + 1))) = some (r1, r2) := by rw [if_pos rfl] at H; exact H
          clear H
          have H := H1
          clear H1
          have H' := Aside0.mk H
          clear H
          go_wp2
          (try simp only [← hl2_1])
          go_roundg kj10
          case measure => have := HK1.out; have := HJ10.out; omega
          case rel => exact ⟨(x2_1), (wrap64 (x25_1 + 1)), pF, H', ⟨by have := HK1.out; have := HJ10.out; omega⟩, ⟨by (try simp only [hl2_1]); (with_reducible repeat (first | apply Kd.R_alloc | apply Kd.R_drewN | apply Kd.R_drew)); exact HO_2.out⟩, ⟨pH GW502⟩, ⟨pG GE502⟩⟩
         ·replace c24 := Bool.eq_false_iff.mpr c24
          subst c24
          have H1 : ((slices_Clone_int_int.f l3).bind fun t506 => (if 0 ≤ x25_1 then (if x25_1 < (t506.length : Int) then ((slices_Clone_int_int.f x2_1).bind fun t511 => (if t511.length < 17592186044416 then ((impl_firstPlan.f kj10 l0 l1 (t511 ++ [x25_1]) (t506.set (x25_1 : Int).toNat (wrap64 ((rd t506 x25_1) - 1)))).bind fun bt517 => (if bt517.2 = true then (some (bt517.1, true)) else (impl_firstPlan.l0 kj10 l0 l1 x2_1 l3 (l2.length : Int) l1 (l1.length : Int) (wrap64 (x25_1 + 1))))) else (none))) else (none)) else (none))) = some (r1, r2) := by rw [if_neg (show ¬ (false = true) by decide)] at H; exact H
          clear H
          have H := H1
          clear H1
          replace H := Option.bind_eq_some_iff.mp H
          obtain ⟨t506, A250, H⟩ := H
          replace H : (if 0 ≤ x25_1 then (if x25_1 < (t506.length : Int) then ((slices_Clone_int_int.f x2_1).bind fun t511 => (if t511.length < 17592186044416 then ((impl_firstPlan.f kj10 l0 l1 (t511 ++ [x25_1]) (t506.set (x25_1 : Int).toNat (wrap64 ((rd t506 x25_1) - 1)))).bind fun bt517 => (if bt517.2 = true then (some (bt517.1, true)) else (impl_firstPlan.l0 kj10 l0 l1 x2_1 l3 (l2.length : Int) l1 (l1.length : Int) (wrap64 (x25_1 + 1))))) else (none))) else (none)) else (none)) = some (r1, r2) := H
          have A25 := Aside0.mk A250
          clear A250
          by_cases c26 : 0 ≤ x25_1
          ·rw [if_pos c26] at H
           have c26b0 : decide (0 ≤ x25_1) = true := decide_eq_true c26
           clear c26
           by_cases c27 : x25_1 < (t506.length : Int)
           ·rw [if_pos c27] at H
            have c27b0 : decide (x25_1 < (t506.length : Int)) = true := decide_eq_true c27
            clear c27
            obtain ⟨y510, hy510⟩ : ∃ y_ : List Int, y_ = (t506.set (x25_1 : Int).toNat (wrap64 ((rd t506 x25_1) - 1))) := ⟨_, rfl⟩
            replace H : ((slices_Clone_int_int.f x2_1).bind fun t511 => (if t511.length < 17592186044416 then ((impl_firstPlan.f kj10 l0 l1 (t511 ++ [x25_1]) y510).bind fun bt517 => (if bt517.2 = true then (some (bt517.1, true)) else (impl_firstPlan.l0 kj10 l0 l1 x2_1 l3 (l2.length : Int) l1 (l1.length : Int) (wrap64 (x25_1 + 1))))) else (none))) = some (r1, r2) := by first | (rw [hy510]; with_reducible exact H) | (have H2_ := (Option.bind_some _ _).symm.trans H; rw [hy510]; with_reducible exact H2_) | (have H2_ := (Option.bind_some _ _).symm.trans H; with_reducible exact H2_) | with_reducible exact H | (rw [hy510]; exact H) | exact H
            have Ny510 := Aside0.mk hy510
            clear hy510
            replace H := Option.bind_eq_some_iff.mp H
            obtain ⟨t511, A290, H⟩ := H
            replace H : (if t511.length < 17592186044416 then ((impl_firstPlan.f kj10 l0 l1 (t511 ++ [x25_1]) y510).bind fun bt517 => (if bt517.2 = true then (some (bt517.1, true)) else (impl_firstPlan.l0 kj10 l0 l1 x2_1 l3 (l2.length : Int) l1 (l1.length : Int) (wrap64 (x25_1 + 1))))) else (none)) = some (r1, r2) := H
            have A29 := Aside0.mk A290
            clear A290
            by_cases c30 : t511.length < 17592186044416
            ·rw [if_pos c30] at H
             have LMc30 := Aside0.mk c30
             clear c30
             obtain ⟨y514, hy514⟩ : ∃ y_ : List Int, y_ = (t511 ++ [x25_1]) := ⟨_, rfl⟩
             replace H : ((impl_firstPlan.f kj10 l0 l1 y514 y510).bind fun bt517 => (if bt517.2 = true then (some (bt517.1, true)) else (impl_firstPlan.l0 kj10 l0 l1 x2_1 l3 (l2.length : Int) l1 (l1.length : Int) (wrap64 (x25_1 + 1))))) = some (r1, r2) := by first | (rw [hy514]; with_reducible exact H) | (have H2_ := (Option.bind_some _ _).symm.trans H; rw [hy514]; with_reducible exact H2_) | (have H2_ := (Option.bind_some _ _).symm.trans H; with_reducible exact H2_) | with_reducible exact H | (rw [hy514]; exact H) | exact H
             have Ny514 := Aside0.mk hy514
             clear hy514
             replace H := Option.bind_eq_some_iff.mp H
             obtain ⟨⟨t517, t520⟩, A310, H⟩ := H
             replace H : (if t520 = true then (some (t517, true)) else (impl_firstPlan.l0 kj10 l0 l1 x2_1 l3 (l2.length : Int) l1 (l1.length : Int) (wrap64 (x25_1 + 1)))) = some (r1, r2) := H
             have A31 := Aside0.mk A310
             clear A310
             by_cases c32 : t520 = true
             ·subst c32
              have H1 : (some (t517, true)) = some (r1, r2) := by rw [if_pos rfl] at H; exact H
              clear H
              have H := H1
              clear H1
              simp only [Option.some.injEq, Prod.mk.injEq] at H
              obtain ⟨rfl, rfl⟩ := H
              go_wp2_with (first | ((with_reducible refine gate_callee (f := 75) rfl ?_); refine goesL_ (some 45) rfl rfl Try.func75 pL rfl #[.slice A3 l3.length c3] rfl pM ?_; (with_reducible refine (slices_Clone_int_int.calls _ _ l3 t506 _ ?side1 ?side2 A25.out).mono ?_); (case side1 => exact Kd.C_kept_now HR3.out (pH GW502)); (case side2 => exact HC3.out); rintro e w33 ⟨v507, rfl, ho0, hb⟩; refine ⟨_, rfl, ?_⟩; have n0_ := Aside0.mk (Kd.R_elder' (pR HO_2) (Kd.R_base ho0) hb); have n1_ := Aside0.mk (Kd.R_lower (Kd.R_new' (Kd.R_newM (M := fun k_ => (P2_ k_ ∨ w.heap.size ≤ k_)) ho0 (by first | exact HK.out.1 | exact (show Kept w _ (fun k_ => P2_ k_) from by repeat (first | (with_reducible first | exact HK.out | apply Kept.alloc | apply Kept.drewN | apply Kept.drew | refine Kept.setCell ?_ (.inr GW502.out) _) | exact HK.out)).1) (fun k_ h_ => .inr h_)) (Kd.R_lt (pR HO_2))) (below_size (pG GE502))); have n2_ := Aside0.mk (blk_below (g := gb502) (o := .cells #[.int .i64 ((rd_T32 l1 x25_1).f0), .int .i64 ((rd_T32 l1 x25_1).f1), .int .i64 ((rd_T32 l1 x25_1).f2)] 32 (0, 0)) (pC BK502) hb); have n3_ := Aside0.mk (Kept.below (S := (fun k_ => P2_ k_)) (pH GW502) hb); have n4_ := Aside0.mk (below_step (pG GE502) hb); clear HO_2; clear BK502; clear HK; clear HB; have HO_2 := n0_; have HO508 := n1_; have BK502 := n2_; have HK := n3_; have HB := n4_; clear n0_ n1_ n2_ n3_ n4_; (try clear hb); (try clear hb2); (try clear hk); (try clear hi); (try clear ho0); obtain ⟨Ao34, co34, eo34⟩ := Kd.R_slice HO508.out; subst eo34; have p509 : 0 ≤ (x25_1 : Int) := of_decide_eq_true pA; have q509 : x25_1 < (t506.length : Int) := of_decide_eq_true pA; obtain ⟨ad509, e509, hx509_0⟩ := Kd.at_int (Kd.R_reads' HO508.out).2.2 x25_1 p509 q509; cases e509; replace p509 := eq_true p509; replace q509 := eq_true q509; have p28 : 0 ≤ (x25_1 : Int) := of_decide_eq_true pA; have q28 : (x25_1 : Int) < ((t506.length : Int) : Int) := of_decide_eq_true pA; obtain ⟨go28, co28, eo28, gb28, gl28, cl28, HG28⟩ := Kd.R_form HO508.out (by omega); (first | cases eo28 | (injection eo28 with ea_ en_ ec_; (first | subst ea_ | (injection ea_ with ea_; subst ea_)); subst ec_; clear en_)); have GB28 := Aside0.mk gb28; have GG28 := Aside0.mk HG28; clear gb28 gl28 HG28; have HMgo28 := Aside0.mk (show (P2_ go28 ∨ w.heap.size ≤ go28) from (HO508.out.1 _ rfl).1.1); (first | simp only [add_plain] at hx509_0 | skip); obtain ⟨hx28_0, hf28_0⟩ := Kd.R_celln 0 HO508.out (x25_1 : Int) p28 q28; replace p28 := eq_true p28; replace q28 := eq_true q28; have n_ := Aside0.mk (Kd.R_mono (ok' := (fun k_ => (P2_ k_ ∨ w.heap.size ≤ k_) ∧ some k_ ≠ (.slice Ao7 x2_1.length co7 : Value).ownBlock)) HO508.out (fun k_ hk => ⟨hk.1.1, hk.2⟩)); clear HO508; have HO508 := n_; clear n_; obtain ⟨hy35_, hz35_⟩ := Kd.R_celln 0 HO508.out (x25_1 : Int) (of_decide_eq_true pA) (of_decide_eq_true pA); have HP35 := Kd.R_putg HO508.out (x25_1 : Int) (wrap64 ((rd t506 x25_1) - 1))) | ((with_reducible refine gate_store (t := 3) (p := 51) rfl ?_); refine store_event (t := 3) (p := 51) (v := ?vo_w36) (w1 := (w33.setCell ⟨go28, (x25_1 : Int).toNat, none⟩ (.int .i64 (wrap64 ((rd t506 x25_1) - 1))))) ?hg ?ho ?hn ?hr ?_; (case ho => rfl); (case hg => rfl); (case hn => rfl); (case hr => first | (go_simp; done) | (go_simp; rfl)); intro w36 hw; have hg : w33.grownBy w36 (some go28) := (by rw [hw]; exact HP35.2); have hp_ : Kd.R (Kd.int .i64) 3 w36 w0.heap.size (fun k_ => (P2_ k_ ∨ w.heap.size ≤ k_) ∧ some k_ ≠ (.slice Ao7 x2_1.length co7 : Value).ownBlock) (.slice (some ⟨go28, 0, none⟩) t506.length co34) y510 := (by rw [hw, Ny510.out]; exact HP35.1); clear HP35; have n0_ := Aside0.mk (Kd.R_after (v := (.slice (some ⟨go28, 0, none⟩) t506.length co34)) (v1 := (.slice (some ⟨go28, 0, none⟩) t506.length co34)) (ok := (fun k_ => (P2_ k_ ∨ w.heap.size ≤ k_))) (pR HO_2) hg (.inl rfl)); have n1_ := Aside0.mk (blk_grown (g := gb502) (o := .cells #[.int .i64 ((rd_T32 l1 x25_1).f0), .int .i64 ((rd_T32 l1 x25_1).f1), .int .i64 ((rd_T32 l1 x25_1).f2)] 32 (0, 0)) (pC BK502) hg (Kd.R_ne HO508.out BK502.out (by decide))); have n2_ := Aside0.mk (hp_); have n3_ := Aside0.mk ((by rw [hw]; exact below_set (HB.out) GB28.out : Below w0.heap.size w0 w36)); have n4_ := Aside0.mk (Kept.of_grown (S := (fun k_ => P2_ k_)) hg (pH GW502) (fun k_ e_ => (HO508.out.1 k_ e_).1)); clear HO_2; clear BK502; clear HO508; clear HB; clear HK; have HO_2 := n0_; have BK502 := n1_; have HO508 := n2_; have HB := n3_; have HK := n4_; clear n0_ n1_ n2_ n3_ n4_; clear hg hw hp_) | ((with_reducible refine gate_callee (f := 75) rfl ?_); refine goesL_ (some 56) rfl rfl Try.func75 pL rfl #[.slice Ao7 x2_1.length co7] rfl pM ?_; (with_reducible refine (slices_Clone_int_int.calls _ _ x2_1 t511 _ ?side1 ?side2 A29.out).mono ?_); (case side1 => exact pS ((Kd.R_reads' HO_2.out).2.2)); (case side2 => exact (Kd.R_reads' HO_2.out).2.1); rintro e w37 ⟨v512, rfl, ho0, hb⟩; refine ⟨_, rfl, ?_⟩; have n0_ := Aside0.mk (Kd.R_elder' (pR HO_2) (Kd.R_base ho0) hb); have n1_ := Aside0.mk (Kd.R_elder' (pR HO508) (Kd.R_base ho0) hb); have n2_ := Aside0.mk (Kd.R_lower (Kd.R_new' (Kd.R_new' (Kd.R_newM (M := fun k_ => (P2_ k_ ∨ w.heap.size ≤ k_)) ho0 (by first | exact HK.out.1 | exact (show Kept w _ (fun k_ => P2_ k_) from by repeat (first | (with_reducible first | exact HK.out | apply Kept.alloc | apply Kept.drewN | apply Kept.drew | refine Kept.setCell ?_ (.inr GW502.out) _) | exact HK.out)).1) (fun k_ h_ => .inr h_)) (Kd.R_lt (pR HO_2))) (Kd.R_lt (pR HO508))) (below_size (pG GE502))); have n3_ := Aside0.mk (blk_below (g := gb502) (o := .cells #[.int .i64 ((rd_T32 l1 x25_1).f0), .int .i64 ((rd_T32 l1 x25_1).f1), .int .i64 ((rd_T32 l1 x25_1).f2)] 32 (0, 0)) (pC BK502) hb); have n4_ := Aside0.mk (Kept.below (S := (fun k_ => P2_ k_)) (pH GW502) hb); have n5_ := Aside0.mk (below_step (pG GE502) hb); clear HO_2; clear HO508; clear BK502; clear HK; clear HB; have HO_2 := n0_; have HO508 := n1_; have HO513 := n2_; have BK502 := n3_; have HK := n4_; have HB := n5_; clear n0_ n1_ n2_ n3_ n4_ n5_; (try clear hb); (try clear hb2); (try clear hk); (try clear hi); (try clear ho0)) | ((with_reducible refine gate_builtin (b := .append) (xs := #[.tmp 56, .tmp 58]) rfl ?_); at_builtin; refine Kd.R_append (Kd.int .i64) (w0 := w0) w0.heap.size rfl (.tmp 56) (.tmp 58) 37 3 (.int .i64 0) 8 rfl Try.underlying37 info3 rfl (by decide) (by omega) v512 t511 x25_1 [.int .i64 x25_1] (fun k_ => (P2_ k_ ∨ w.heap.size ≤ k_) ∧ some k_ ≠ (.slice Ao7 x2_1.length co7 : Value).ownBlock ∧ some k_ ≠ (.slice (some ⟨go28, 0, none⟩) t506.length co34 : Value).ownBlock) (fun _ => False) rfl rfl ?aP (fun _ hk => hk.elim) ?aF ?aO ?aB ?aS ?aL ?_; (case aP => exact rfl); (case aB => exact (pG GE502)); (case aF => exact (fun k_ hk => ⟨(.inr (Nat.le_trans (by first | exact HK.out.1 | exact (show Kept w _ (fun k_ => P2_ k_) from by repeat (first | (with_reducible first | exact HK.out | apply Kept.alloc | apply Kept.drewN | apply Kept.drew | refine Kept.setCell ?_ (.inr GW502.out) _) | exact HK.out)).1) hk)), Kd.fresh' (Kd.R_lt (pR HO_2)) k_ hk, Kd.fresh' (Kd.R_lt (pR HO508)) k_ hk⟩)); (case aO => exact (by (with_reducible repeat (first | apply Kd.R_alloc | apply Kd.R_drewN | apply Kd.R_drew)); exact Kd.R_mono HO513.out (fun _ hk => ⟨hk.1.1.1, ⟨hk.1.2, hk.2⟩⟩))); (case aS => exact (below_size (pG GE502))); (case aL => have := LMc30.out; omega); intro v515 w38 ho hb hg hat; rw [← Ny514.out] at ho; have n0_ := Aside0.mk (Kd.R_after (ok := (fun k_ => (P2_ k_ ∨ w.heap.size ≤ k_) ∧ some k_ ≠ (.slice (some ⟨go28, 0, none⟩) t506.length co34 : Value).ownBlock)) (pR HO_2) hg hat); have n1_ := Aside0.mk (blk_grown (g := gb502) (o := .cells #[.int .i64 ((rd_T32 l1 x25_1).f0), .int .i64 ((rd_T32 l1 x25_1).f1), .int .i64 ((rd_T32 l1 x25_1).f2)] 32 (0, 0)) (pC BK502) hg (Kd.R_ne HO513.out BK502.out (by decide))); have n2_ := Aside0.mk (Kd.R_after (ok := (fun k_ => (P2_ k_ ∨ w.heap.size ≤ k_) ∧ some k_ ≠ (.slice Ao7 x2_1.length co7 : Value).ownBlock)) (pR HO508) hg hat); have n3_ := Aside0.mk (hb); have n4_ := Aside0.mk (Kept.of_grown (S := (fun k_ => P2_ k_)) hg (pH GW502) (fun k_ e_ => (HO513.out.1 k_ e_).1.1.1)); have n5_ := Aside0.mk (ho); clear HO_2; clear BK502; clear HO508; clear HB; clear HK; clear HO513; have HO_2 := n0_; have BK502 := n1_; have HO508 := n2_; have HB := n3_; have HK := n4_; have HO516 := n5_; clear n0_ n1_ n2_ n3_ n4_ n5_; clear ho hb hg hat; obtain ⟨Ao39, co39, eo39⟩ := Kd.R_slice HO516.out; subst eo39) | ((with_reducible refine gate_callee (f := 69) rfl ?_); refine goesL_ (some 61) rfl rfl Try.func69 pL rfl #[.slice A0 l0.length c0, .slice (some ad501) l1.length c1, .slice Ao39 y514.length co39, .slice (some ⟨go28, 0, none⟩) y510.length co34] rfl (by (try simp only [List.map_toArray, List.map_cons, List.map_nil]); first | done | (rw [show y510.length = t506.length from (Kd.R_reads' HO508.out).1.symm] <;> rfl) | rfl | (simp only [List.length_drop, List.length_take]; rfl)) ?_; (with_reducible refine (ih kj10 (by have := HK1.out; have := HJ10.out; omega) _ _ l0 _ _ l1 (fun k_ => some k_ = (.slice Ao39 y514.length co39 : Value).ownBlock) (.slice Ao39 y514.length co39) y514 _ _ y510 t517 true w0 _ ?side1 ?side2 ?side3 ?side4 ?side5 ?side6 ?side7 ?side8 A31.out).mono ?_); (case side1 => repeat (first | (with_reducible first | exact HB.out | apply below_alloc | apply pw_below_drewN | apply below_drew1 | refine below_set ?_ GE502.out) | exact HB.out)); (case side2 => exact Kd.C_kept_call HR0.out (pH GW502) (fun k_ hs_ => (fun e_ => (HO516.out.1 k_ e_.symm).1) hs_)); (case side3 => exact HC0.out); (case side4 => exact Kd.C_kept_call HR1.out (pH GW502) (fun k_ hs_ => (fun e_ => (HO516.out.1 k_ e_.symm).1) hs_)); (case side5 => exact HC1.out); (case side6 => exact Kd.R_tight rfl HO516.out); (case side7 => rw [show y510.length = t506.length from (Kd.R_reads' HO508.out).1.symm]; exact Kd.C_kept_own (HO508.out) (fun k_ hk_ hs_ => (hk_.2) hs_)); (case side8 => rw [show y510.length = t506.length from (Kd.R_reads' HO508.out).1.symm]; exact (Kd.R_reads' HO508.out).2.1); rintro e w40 ⟨v518, rfl, ho0, hb, hkp⟩; refine ⟨_, rfl, ?_⟩; have n0_ := Aside0.mk (Kd.R_mono (ok' := fun k_ => (P2_ k_ ∨ w.heap.size ≤ k_) ∧ some k_ ≠ (.slice (some ⟨go28, 0, none⟩) t506.length co34 : Value).ownBlock ∧ some k_ ≠ (v518 : Value).ownBlock) (Kd.R_keptB (HO_2.out) hkp (fun k_ hk_ hs_ => (hk_.2) hs_)) (fun k_ hk_ => ⟨hk_.1.1.1, hk_.1.1.2, fun e_ => Or.elim (ho0.1 k_ e_.symm) (fun hs_ => hk_.2.1 hs_) (fun hn_ => Nat.not_le.2 hk_.2.2 hn_)⟩)); have n1_ := Aside0.mk (blk_kept (pC BK502) hkp (fun hs_ => (fun e_ => (Kd.R_ne HO516.out BK502.out (by decide)) e_) hs_)); have n2_ := Aside0.mk (Kd.R_mono (ok' := fun k_ => (P2_ k_ ∨ w.heap.size ≤ k_) ∧ some k_ ≠ (.slice Ao7 x2_1.length co7 : Value).ownBlock ∧ some k_ ≠ (v518 : Value).ownBlock) (Kd.R_keptB (HO508.out) hkp (fun k_ hk_ hs_ => (hk_.2) hs_)) (fun k_ hk_ => ⟨hk_.1.1.1, hk_.1.1.2, fun e_ => Or.elim (ho0.1 k_ e_.symm) (fun hs_ => hk_.2.1 hs_) (fun hn_ => Nat.not_le.2 hk_.2.2 hn_)⟩)); have n3_ := Aside0.mk (Kd.R_mono (ok' := fun k_ => (P2_ k_ ∨ w.heap.size ≤ k_) ∧ some k_ ≠ (.slice Ao7 x2_1.length co7 : Value).ownBlock ∧ some k_ ≠ (.slice (some ⟨go28, 0, none⟩) t506.length co34 : Value).ownBlock) ho0 (fun k_ hk_ => ⟨Or.elim hk_ (fun hs_ => (HO516.out.1 k_ (hs_).symm).1) (fun hn_ => (.inr (Nat.le_trans (by first | exact HK.out.1 | exact (show Kept w _ (fun k_ => P2_ k_) from by repeat (first | (with_reducible first | exact HK.out | apply Kept.alloc | apply Kept.drewN | apply Kept.drew | refine Kept.setCell ?_ (.inr GW502.out) _) | exact HK.out)).1) hn_))), Or.elim hk_ (fun hs_ => fun e_ => (((HO_2.out).1 k_ e_.symm).2) hs_) (fun hn_ => (Kd.fresh' (Kd.R_lt (pR HO_2)) k_ hn_)), Or.elim hk_ (fun hs_ => fun e_ => (((HO508.out).1 k_ e_.symm).2) hs_) (fun hn_ => (Kd.fresh' (Kd.R_lt (pR HO508)) k_ hn_))⟩)); have n4_ := Aside0.mk (Kept.then_ (S := (fun k_ => P2_ k_)) (pH GW502) hkp (fun k_ hs_ => (fun e_ => (HO516.out.1 k_ e_.symm).1) hs_)); have n5_ := Aside0.mk (hb); clear HO_2; clear BK502; clear HO508; clear HK; clear HB; clear HO516; have HO_2 := n0_; have BK502 := n1_; have HO508 := n2_; have HO519 := n3_; have HK := n4_; have HB := n5_; clear n0_ n1_ n2_ n3_ n4_ n5_; (try clear hb); (try clear hkp); (try clear ho0)))
              go_ret2
              exact ⟨_, pE, by (with_reducible repeat (first | apply Kd.R_alloc | apply Kd.R_drewN | apply Kd.R_drew)); exact Kd.R_mono HO519.out (fun _ hk => hk.1), pG GE502, pH GW502⟩
             ·replace c32 := Bool.eq_false_iff.mpr c32
              subst c32
              have H1 : (impl_firstPlan.l0 kj10 l0 l1 x2_1 l3 (l2.length : Int) l1 (l1.length : Int) (wrap64 (x25_1 + 1))) = some (r1, r2) := by rw [if_neg (show ¬ (false = true) by decide)] at H; exact H
              clear H
              have H := H1
              clear H1
              have H' := Aside0.mk H
              clear H
              go_wp2_with (first | ((with_reducible refine gate_callee (f := 75) rfl ?_); refine goesL_ (some 45) rfl rfl Try.func75 pL rfl #[.slice A3 l3.length c3] rfl pM ?_; (with_reducible refine (slices_Clone_int_int.calls _ _ l3 t506 _ ?side1 ?side2 A25.out).mono ?_); (case side1 => exact Kd.C_kept_now HR3.out (pH GW502)); (case side2 => exact HC3.out); rintro e w41 ⟨v507, rfl, ho0, hb⟩; refine ⟨_, rfl, ?_⟩; have n0_ := Aside0.mk (Kd.R_elder' (pR HO_2) (Kd.R_base ho0) hb); have n1_ := Aside0.mk (Kd.R_lower (Kd.R_new' (Kd.R_newM (M := fun k_ => (P2_ k_ ∨ w.heap.size ≤ k_)) ho0 (by first | exact HK.out.1 | exact (show Kept w _ (fun k_ => P2_ k_) from by repeat (first | (with_reducible first | exact HK.out | apply Kept.alloc | apply Kept.drewN | apply Kept.drew | refine Kept.setCell ?_ (.inr GW502.out) _) | exact HK.out)).1) (fun k_ h_ => .inr h_)) (Kd.R_lt (pR HO_2))) (below_size (pG GE502))); have n2_ := Aside0.mk (blk_below (g := gb502) (o := .cells #[.int .i64 ((rd_T32 l1 x25_1).f0), .int .i64 ((rd_T32 l1 x25_1).f1), .int .i64 ((rd_T32 l1 x25_1).f2)] 32 (0, 0)) (pC BK502) hb); have n3_ := Aside0.mk (Kept.below (S := (fun k_ => P2_ k_)) (pH GW502) hb); have n4_ := Aside0.mk (below_step (pG GE502) hb); clear HO_2; clear BK502; clear HK; clear HB; have HO_2 := n0_; have HO508 := n1_; have BK502 := n2_; have HK := n3_; have HB := n4_; clear n0_ n1_ n2_ n3_ n4_; (try clear hb); (try clear hb2); (try clear hk); (try clear hi); (try clear ho0); obtain ⟨Ao42, co42, eo42⟩ := Kd.R_slice HO508.out; subst eo42; have p509 : 0 ≤ (x25_1 : Int) := of_decide_eq_true pA; have q509 : x25_1 < (t506.length : Int) := of_decide_eq_true pA; obtain ⟨ad509, e509, hx509_0⟩ := Kd.at_int (Kd.R_reads' HO508.out).2.2 x25_1 p509 q509; cases e509; replace p509 := eq_true p509; replace q509 := eq_true q509; have p28 : 0 ≤ (x25_1 : Int) := of_decide_eq_true pA; have q28 : (x25_1 : Int) < ((t506.length : Int) : Int) := of_decide_eq_true pA; obtain ⟨go28, co28, eo28, gb28, gl28, cl28, HG28⟩ := Kd.R_form HO508.out (by omega); (first | cases eo28 | (injection eo28 with ea_ en_ ec_; (first | subst ea_ | (injection ea_ with ea_; subst ea_)); subst ec_; clear en_)); have GB28 := Aside0.mk gb28; have GG28 := Aside0.mk HG28; clear gb28 gl28 HG28; have HMgo28 := Aside0.mk (show (P2_ go28 ∨ w.heap.size ≤ go28) from (HO508.out.1 _ rfl).1.1); (first | simp only [add_plain] at hx509_0 | skip); obtain ⟨hx28_0, hf28_0⟩ := Kd.R_celln 0 HO508.out (x25_1 : Int) p28 q28; replace p28 := eq_true p28; replace q28 := eq_true q28; have n_ := Aside0.mk (Kd.R_mono (ok' := (fun k_ => (P2_ k_ ∨ w.heap.size ≤ k_) ∧ some k_ ≠ (.slice Ao7 x2_1.length co7 : Value).ownBlock)) HO508.out (fun k_ hk => ⟨hk.1.1, hk.2⟩)); clear HO508; have HO508 := n_; clear n_; obtain ⟨hy43_, hz43_⟩ := Kd.R_celln 0 HO508.out (x25_1 : Int) (of_decide_eq_true pA) (of_decide_eq_true pA); have HP43 := Kd.R_putg HO508.out (x25_1 : Int) (wrap64 ((rd t506 x25_1) - 1))) | ((with_reducible refine gate_store (t := 3) (p := 51) rfl ?_); refine store_event (t := 3) (p := 51) (v := ?vo_w44) (w1 := (w41.setCell ⟨go28, (x25_1 : Int).toNat, none⟩ (.int .i64 (wrap64 ((rd t506 x25_1) - 1))))) ?hg ?ho ?hn ?hr ?_; (case ho => rfl); (case hg => rfl); (case hn => rfl); (case hr => first | (go_simp; done) | (go_simp; rfl)); intro w44 hw; have hg : w41.grownBy w44 (some go28) := (by rw [hw]; exact HP43.2); have hp_ : Kd.R (Kd.int .i64) 3 w44 w0.heap.size (fun k_ => (P2_ k_ ∨ w.heap.size ≤ k_) ∧ some k_ ≠ (.slice Ao7 x2_1.length co7 : Value).ownBlock) (.slice (some ⟨go28, 0, none⟩) t506.length co42) y510 := (by rw [hw, Ny510.out]; exact HP43.1); clear HP43; have n0_ := Aside0.mk (Kd.R_after (v := (.slice (some ⟨go28, 0, none⟩) t506.length co42)) (v1 := (.slice (some ⟨go28, 0, none⟩) t506.length co42)) (ok := (fun k_ => (P2_ k_ ∨ w.heap.size ≤ k_))) (pR HO_2) hg (.inl rfl)); have n1_ := Aside0.mk (blk_grown (g := gb502) (o := .cells #[.int .i64 ((rd_T32 l1 x25_1).f0), .int .i64 ((rd_T32 l1 x25_1).f1), .int .i64 ((rd_T32 l1 x25_1).f2)] 32 (0, 0)) (pC BK502) hg (Kd.R_ne HO508.out BK502.out (by decide))); have n2_ := Aside0.mk (hp_); have n3_ := Aside0.mk ((by rw [hw]; exact below_set (HB.out) GB28.out : Below w0.heap.size w0 w44)); have n4_ := Aside0.mk (Kept.of_grown (S := (fun k_ => P2_ k_)) hg (pH GW502) (fun k_ e_ => (HO508.out.1 k_ e_).1)); clear HO_2; clear BK502; clear HO508; clear HB; clear HK; have HO_2 := n0_; have BK502 := n1_; have HO508 := n2_; have HB := n3_; have HK := n4_; clear n0_ n1_ n2_ n3_ n4_; clear hg hw hp_) | ((with_reducible refine gate_callee (f := 75) rfl ?_); refine goesL_ (some 56) rfl rfl Try.func75 pL rfl #[.slice Ao7 x2_1.length co7] rfl pM ?_; (with_reducible refine (slices_Clone_int_int.calls _ _ x2_1 t511 _ ?side1 ?side2 A29.out).mono ?_); (case side1 => exact pS ((Kd.R_reads' HO_2.out).2.2)); (case side2 => exact (Kd.R_reads' HO_2.out).2.1); rintro e w45 ⟨v512, rfl, ho0, hb⟩; refine ⟨_, rfl, ?_⟩; have n0_ := Aside0.mk (Kd.R_elder' (pR HO_2) (Kd.R_base ho0) hb); have n1_ := Aside0.mk (Kd.R_elder' (pR HO508) (Kd.R_base ho0) hb); have n2_ := Aside0.mk (Kd.R_lower (Kd.R_new' (Kd.R_new' (Kd.R_newM (M := fun k_ => (P2_ k_ ∨ w.heap.size ≤ k_)) ho0 (by first | exact HK.out.1 | exact (show Kept w _ (fun k_ => P2_ k_) from by repeat (first | (with_reducible first | exact HK.out | apply Kept.alloc | apply Kept.drewN | apply Kept.drew | refine Kept.setCell ?_ (.inr GW502.out) _) | exact HK.out)).1) (fun k_ h_ => .inr h_)) (Kd.R_lt (pR HO_2))) (Kd.R_lt (pR HO508))) (below_size (pG GE502))); have n3_ := Aside0.mk (blk_below (g := gb502) (o := .cells #[.int .i64 ((rd_T32 l1 x25_1).f0), .int .i64 ((rd_T32 l1 x25_1).f1), .int .i64 ((rd_T32 l1 x25_1).f2)] 32 (0, 0)) (pC BK502) hb); have n4_ := Aside0.mk (Kept.below (S := (fun k_ => P2_ k_)) (pH GW502) hb); have n5_ := Aside0.mk (below_step (pG GE502) hb); clear HO_2; clear HO508; clear BK502; clear HK; clear HB; have HO_2 := n0_; have HO508 := n1_; have HO513 := n2_; have BK502 := n3_; have HK := n4_; have HB := n5_; clear n0_ n1_ n2_ n3_ n4_ n5_; (try clear hb); (try clear hb2); (try clear hk); (try clear hi); (try clear ho0)) | ((with_reducible refine gate_builtin (b := .append) (xs := #[.tmp 56, .tmp 58]) rfl ?_); at_builtin; refine Kd.R_append (Kd.int .i64) (w0 := w0) w0.heap.size rfl (.tmp 56) (.tmp 58) 37 3 (.int .i64 0) 8 rfl Try.underlying37 info3 rfl (by decide) (by omega) v512 t511 x25_1 [.int .i64 x25_1] (fun k_ => (P2_ k_ ∨ w.heap.size ≤ k_) ∧ some k_ ≠ (.slice Ao7 x2_1.length co7 : Value).ownBlock ∧ some k_ ≠ (.slice (some ⟨go28, 0, none⟩) t506.length co42 : Value).ownBlock) (fun _ => False) rfl rfl ?aP (fun _ hk => hk.elim) ?aF ?aO ?aB ?aS ?aL ?_; (case aP => exact rfl); (case aB => exact (pG GE502)); (case aF => exact (fun k_ hk => ⟨(.inr (Nat.le_trans (by first | exact HK.out.1 | exact (show Kept w _ (fun k_ => P2_ k_) from by repeat (first | (with_reducible first | exact HK.out | apply Kept.alloc | apply Kept.drewN | apply Kept.drew | refine Kept.setCell ?_ (.inr GW502.out) _) | exact HK.out)).1) hk)), Kd.fresh' (Kd.R_lt (pR HO_2)) k_ hk, Kd.fresh' (Kd.R_lt (pR HO508)) k_ hk⟩)); (case aO => exact (by (with_reducible repeat (first | apply Kd.R_alloc | apply Kd.R_drewN | apply Kd.R_drew)); exact Kd.R_mono HO513.out (fun _ hk => ⟨hk.1.1.1, ⟨hk.1.2, hk.2⟩⟩))); (case aS => exact (below_size (pG GE502))); (case aL => have := LMc30.out; omega); intro v515 w46 ho hb hg hat; rw [← Ny514.out] at ho; have n0_ := Aside0.mk (Kd.R_after (ok := (fun k_ => (P2_ k_ ∨ w.heap.size ≤ k_) ∧ some k_ ≠ (.slice (some ⟨go28, 0, none⟩) t506.length co42 : Value).ownBlock)) (pR HO_2) hg hat); have n1_ := Aside0.mk (blk_grown (g := gb502) (o := .cells #[.int .i64 ((rd_T32 l1 x25_1).f0), .int .i64 ((rd_T32 l1 x25_1).f1), .int .i64 ((rd_T32 l1 x25_1).f2)] 32 (0, 0)) (pC BK502) hg (Kd.R_ne HO513.out BK502.out (by decide))); have n2_ := Aside0.mk (Kd.R_after (ok := (fun k_ => (P2_ k_ ∨ w.heap.size ≤ k_) ∧ some k_ ≠ (.slice Ao7 x2_1.length co7 : Value).ownBlock)) (pR HO508) hg hat); have n3_ := Aside0.mk (hb); have n4_ := Aside0.mk (Kept.of_grown (S := (fun k_ => P2_ k_)) hg (pH GW502) (fun k_ e_ => (HO513.out.1 k_ e_).1.1.1)); have n5_ := Aside0.mk (ho); clear HO_2; clear BK502; clear HO508; clear HB; clear HK; clear HO513; have HO_2 := n0_; have BK502 := n1_; have HO508 := n2_; have HB := n3_; have HK := n4_; have HO516 := n5_; clear n0_ n1_ n2_ n3_ n4_ n5_; clear ho hb hg hat; obtain ⟨Ao47, co47, eo47⟩ := Kd.R_slice HO516.out; subst eo47) | ((with_reducible refine gate_callee (f := 69) rfl ?_); refine goesL_ (some 61) rfl rfl Try.func69 pL rfl #[.slice A0 l0.length c0, .slice (some ad501) l1.length c1, .slice Ao47 y514.length co47, .slice (some ⟨go28, 0, none⟩) y510.length co42] rfl (by (try simp only [List.map_toArray, List.map_cons, List.map_nil]); first | done | (rw [show y510.length = t506.length from (Kd.R_reads' HO508.out).1.symm] <;> rfl) | rfl | (simp only [List.length_drop, List.length_take]; rfl)) ?_; (with_reducible refine (ih kj10 (by have := HK1.out; have := HJ10.out; omega) _ _ l0 _ _ l1 (fun k_ => some k_ = (.slice Ao47 y514.length co47 : Value).ownBlock) (.slice Ao47 y514.length co47) y514 _ _ y510 t517 false w0 _ ?side1 ?side2 ?side3 ?side4 ?side5 ?side6 ?side7 ?side8 A31.out).mono ?_); (case side1 => repeat (first | (with_reducible first | exact HB.out | apply below_alloc | apply pw_below_drewN | apply below_drew1 | refine below_set ?_ GE502.out) | exact HB.out)); (case side2 => exact Kd.C_kept_call HR0.out (pH GW502) (fun k_ hs_ => (fun e_ => (HO516.out.1 k_ e_.symm).1) hs_)); (case side3 => exact HC0.out); (case side4 => exact Kd.C_kept_call HR1.out (pH GW502) (fun k_ hs_ => (fun e_ => (HO516.out.1 k_ e_.symm).1) hs_)); (case side5 => exact HC1.out); (case side6 => exact Kd.R_tight rfl HO516.out); (case side7 => rw [show y510.length = t506.length from (Kd.R_reads' HO508.out).1.symm]; exact Kd.C_kept_own (HO508.out) (fun k_ hk_ hs_ => (hk_.2) hs_)); (case side8 => rw [show y510.length = t506.length from (Kd.R_reads' HO508.out).1.symm]; exact (Kd.R_reads' HO508.out).2.1); rintro e w48 ⟨v518, rfl, ho0, hb, hkp⟩; refine ⟨_, rfl, ?_⟩; have n0_ := Aside0.mk (Kd.R_mono (ok' := fun k_ => (P2_ k_ ∨ w.heap.size ≤ k_) ∧ some k_ ≠ (.slice (some ⟨go28, 0, none⟩) t506.length co42 : Value).ownBlock ∧ some k_ ≠ (v518 : Value).ownBlock) (Kd.R_keptB (HO_2.out) hkp (fun k_ hk_ hs_ => (hk_.2) hs_)) (fun k_ hk_ => ⟨hk_.1.1.1, hk_.1.1.2, fun e_ => Or.elim (ho0.1 k_ e_.symm) (fun hs_ => hk_.2.1 hs_) (fun hn_ => Nat.not_le.2 hk_.2.2 hn_)⟩)); have n1_ := Aside0.mk (blk_kept (pC BK502) hkp (fun hs_ => (fun e_ => (Kd.R_ne HO516.out BK502.out (by decide)) e_) hs_)); have n2_ := Aside0.mk (Kd.R_mono (ok' := fun k_ => (P2_ k_ ∨ w.heap.size ≤ k_) ∧ some k_ ≠ (.slice Ao7 x2_1.length co7 : Value).ownBlock ∧ some k_ ≠ (v518 : Value).ownBlock) (Kd.R_keptB (HO508.out) hkp (fun k_ hk_ hs_ => (hk_.2) hs_)) (fun k_ hk_ => ⟨hk_.1.1.1, hk_.1.1.2, fun e_ => Or.elim (ho0.1 k_ e_.symm) (fun hs_ => hk_.2.1 hs_) (fun hn_ => Nat.not_le.2 hk_.2.2 hn_)⟩)); have n3_ := Aside0.mk (Kd.R_mono (ok' := fun k_ => (P2_ k_ ∨ w.heap.size ≤ k_) ∧ some k_ ≠ (.slice Ao7 x2_1.length co7 : Value).ownBlock ∧ some k_ ≠ (.slice (some ⟨go28, 0, none⟩) t506.length co42 : Value).ownBlock) ho0 (fun k_ hk_ => ⟨Or.elim hk_ (fun hs_ => (HO516.out.1 k_ (hs_).symm).1) (fun hn_ => (.inr (Nat.le_trans (by first | exact HK.out.1 | exact (show Kept w _ (fun k_ => P2_ k_) from by repeat (first | (with_reducible first | exact HK.out | apply Kept.alloc | apply Kept.drewN | apply Kept.drew | refine Kept.setCell ?_ (.inr GW502.out) _) | exact HK.out)).1) hn_))), Or.elim hk_ (fun hs_ => fun e_ => (((HO_2.out).1 k_ e_.symm).2) hs_) (fun hn_ => (Kd.fresh' (Kd.R_lt (pR HO_2)) k_ hn_)), Or.elim hk_ (fun hs_ => fun e_ => (((HO508.out).1 k_ e_.symm).2) hs_) (fun hn_ => (Kd.fresh' (Kd.R_lt (pR HO508)) k_ hn_))⟩)); have n4_ := Aside0.mk (Kept.then_ (S := (fun k_ => P2_ k_)) (pH GW502) hkp (fun k_ hs_ => (fun e_ => (HO516.out.1 k_ e_.symm).1) hs_)); have n5_ := Aside0.mk (hb); clear HO_2; clear BK502; clear HO508; clear HK; clear HB; clear HO516; have HO_2 := n0_; have BK502 := n1_; have HO508 := n2_; have HO519 := n3_; have HK := n4_; have HB := n5_; clear n0_ n1_ n2_ n3_ n4_ n5_; (try clear hb); (try clear hkp); (try clear ho0)))
              (try simp only [← hl2_1])
              go_roundg kj10
              case measure => have := HK1.out; have := HJ10.out; omega
              case rel => exact ⟨(x2_1), (wrap64 (x25_1 + 1)), pF, H', ⟨by have := HK1.out; have := HJ10.out; omega⟩, ⟨by (try simp only [hl2_1]); (with_reducible repeat (first | apply Kd.R_alloc | apply Kd.R_drewN | apply Kd.R_drew)); exact Kd.R_mono HO_2.out (fun _ hk => hk.1)⟩, ⟨pH GW502⟩, ⟨pG GE502⟩⟩
            ·rw [if_neg c30] at H
             exact absurd H (by simp)
           ·rw [if_neg c27] at H
            exact absurd H (by simp)
          ·rw [if_neg c26] at H
           exact absurd H (by simp)
      ·rw [if_neg c10] at H
       exact absurd H (by simp)
     ·rw [if_neg c9] at H
      exact absurd H (by simp)
    ·rw [if_neg c8] at H
     have c8b0 : decide (x25_1 < (l1.length : Int)) = false := decide_eq_false c8
     clear c8
     simp only [Option.some.injEq, Prod.mk.injEq] at H
     obtain ⟨rfl, rfl⟩ := H
     go_wp2
     go_ret2
     exact ⟨_, pE, by first | exact Kd.R_nil _ _ _ _ _ | exact Kd.N_nil _ _ _ _ _ | exact Kd.V_nil _ _ _ _ _ | exact Kd.Q_nil _ _ _ _ _ | exact Kd.S_nil _ _ _ _ _, pB, by repeat (first | (with_reducible first | exact HK.out | apply Kept.alloc | apply Kept.drewN | apply Kept.drew) | exact HK.out)⟩

/-! ### impl_ServeRoom: function 38 -/
mutual
def impl_ServeRoom.j0 : Nat → List (S43) → List (S32) → Bool → Option (List Int × Bool)
 | 0, _, _, _ => none
 | k + 1, x0, x1, x16 => if x16 = true then (some (([] : List Int), false)) else (impl_ServeRoom.l0 k x0 x1 (([] : List Int)) x1 (x1.length : Int) 0)
def impl_ServeRoom.l0 : Nat → List (S43) → List (S32) → List Int → List (S32) → Int → Int → Option (List Int × Bool)
 | 0, _, _, _, _, _, _ => none
 | k + 1, x0, x1, x6, x18, x19, x20 => if x20 < x19 then (if 0 ≤ x20 then (if x20 < (x18.length : Int) then (if x6.length < 17592186044416 then (impl_ServeRoom.l0 k x0 x1 (x6 ++ [(rd_T32 x18 x20).f2]) x18 x19 (wrap64 (x20 + 1))) else (none)) else (none)) else (none)) else ((impl_firstPlan.f k x0 x1 ([] : List Int) x6).bind fun bt531 => (some (bt531.1, bt531.2)))
end
def impl_ServeRoom.f (k : Nat) (l0 : List (S43)) (l1 : List (S32)) : Option (List Int × Bool) := (impl_GuestsValid.f k l0).bind fun t521 => (if t521 = true then ((impl_ChoicesValid.f l1).bind fun t522 => (impl_ServeRoom.j0 k l0 l1 (!t522))) else (impl_ServeRoom.j0 k l0 l1 true))
theorem impl_ServeRoom.mono_l : ∀ k, (∀ y0 y1 y2, LeO (impl_ServeRoom.j0 k y0 y1 y2) (impl_ServeRoom.j0 (k + 1) y0 y1 y2)) ∧ (∀ y0 y1 y2 y3 y4 y5, LeO (impl_ServeRoom.l0 k y0 y1 y2 y3 y4 y5) (impl_ServeRoom.l0 (k + 1) y0 y1 y2 y3 y4 y5))
 | 0 => ⟨fun _ _ _ r h => by simp [impl_ServeRoom.j0] at h, fun _ _ _ _ _ _ r h => by simp [impl_ServeRoom.l0] at h⟩
 | k + 1 => by
  obtain ⟨ih0, ih1⟩ := impl_ServeRoom.mono_l k
  refine ⟨?_, ?_⟩
  ·intro y0 y1 y2
   unfold impl_ServeRoom.j0
   repeat' first
   | (with_reducible exact ih0 _ _ _)
   | (with_reducible exact ih1 _ _ _ _ _ _)
   | (with_reducible exact impl_GuestsValid.mono _ _)
   | (with_reducible exact impl_firstPlan.mono _ _ _ _ _)
   | (with_reducible exact LeO.refl _)
   | (with_reducible exact LeO.none _)
   | (with_reducible refine LeO.ite ?_ ?_)
   | (with_reducible refine LeO.bind ?_ (fun _ => ?_))
   | exact ih0 _ _ _
   | exact ih1 _ _ _ _ _ _
   | exact impl_GuestsValid.mono _ _
   | exact impl_firstPlan.mono _ _ _ _ _
   | exact LeO.none _
   | refine LeO.ite ?_ ?_
   | refine LeO.bind ?_ (fun _ => ?_)
  ·intro y0 y1 y2 y3 y4 y5
   unfold impl_ServeRoom.l0
   repeat' first
   | (with_reducible exact ih0 _ _ _)
   | (with_reducible exact ih1 _ _ _ _ _ _)
   | (with_reducible exact impl_GuestsValid.mono _ _)
   | (with_reducible exact impl_firstPlan.mono _ _ _ _ _)
   | (with_reducible exact LeO.refl _)
   | (with_reducible exact LeO.none _)
   | (with_reducible refine LeO.ite ?_ ?_)
   | (with_reducible refine LeO.bind ?_ (fun _ => ?_))
   | exact ih0 _ _ _
   | exact ih1 _ _ _ _ _ _
   | exact impl_GuestsValid.mono _ _
   | exact impl_firstPlan.mono _ _ _ _ _
   | exact LeO.none _
   | refine LeO.ite ?_ ?_
   | refine LeO.bind ?_ (fun _ => ?_)
theorem impl_ServeRoom.mono : ∀ a0 a1 k, LeO (impl_ServeRoom.f k a0 a1) (impl_ServeRoom.f (k + 1) a0 a1) := by
 intro a0 a1 k
 obtain ⟨ih0, ih1⟩ := impl_ServeRoom.mono_l k
 unfold impl_ServeRoom.f
 repeat' first
   | (with_reducible exact ih0 _ _ _)
   | (with_reducible exact ih1 _ _ _ _ _ _)
   | (with_reducible exact impl_GuestsValid.mono _ _)
   | (with_reducible exact impl_firstPlan.mono _ _ _ _ _)
   | (with_reducible exact LeO.refl _)
   | (with_reducible exact LeO.none _)
   | (with_reducible refine LeO.ite ?_ ?_)
   | (with_reducible refine LeO.bind ?_ (fun _ => ?_))
   | exact ih0 _ _ _
   | exact ih1 _ _ _ _ _ _
   | exact impl_GuestsValid.mono _ _
   | exact impl_firstPlan.mono _ _ _ _ _
   | exact LeO.none _
   | refine LeO.ite ?_ ?_
   | refine LeO.bind ?_ (fun _ => ?_)
set_option maxHeartbeats 8000000 in
set_option maxRecDepth 100000 in
theorem impl_ServeRoom.calls (k : Nat) (A0 : Option Addr) (c0 : Nat) (l0 : List (S43)) (A1 : Option Addr) (c1 : Nat) (l1 : List (S32)) (r1 : List Int) (r2 : Bool) (w : World) (hr0 : Kd.C k43 w A0 l0.length l0) (hc0 : l0.length ≤ c0) (hr1 : Kd.C k32 w A1 l1.length l1) (hc1 : l1.length ≤ c1) (h : impl_ServeRoom.f k l0 l1 = some (r1, r2)) :
  Calls Try.prog 38 #[.slice A0 l0.length c0, .slice A1 l1.length c1] w fun e w' => ∃ v0_ : Value, e = .returned (.tuple #[v0_, .bool r2]) ∧ Kd.R (Kd.int .i64) 3 w' w.heap.size (fun _ => True) v0_ r1 ∧ Below w.heap.size w w' := by
 have hu32 := Try.underlying32
 have HR0 := Aside0.mk hr0
 have HC0 := Aside0.mk hc0
 clear hr0 hc0
 have HR1 := Aside0.mk hr1
 have HC1 := Aside0.mk hc1
 clear hr1 hc1
 have HB := Aside0.mk (Below.refl w.heap.size w)
 have H : ((impl_GuestsValid.f k l0).bind fun t521 => (if t521 = true then ((impl_ChoicesValid.f l1).bind fun t522 => (impl_ServeRoom.j0 k l0 l1 (!t522))) else (impl_ServeRoom.j0 k l0 l1 true))) = some (r1, r2) := h
 clear h
 have HC3 := Aside0.mk H
 clear H
 go_enter Try.func38, Try.ntmps38
 go_upto_region 1 with (fail)
 go_cut [16] (fun v16 wc => ∃ (kq : Nat) (x16_2 : Bool), v16 = .bool x16_2 ∧ Aside0 (impl_ServeRoom.j0 kq l0 l1 x16_2 = some (r1, r2)) ∧ Aside0 (kq ≤ k) ∧ Aside0 (Below w.heap.size w wc))
 case first =>
  have H := HC3.out
  clear HC3
  replace H := Option.bind_eq_some_iff.mp H
  obtain ⟨t521, A40, H⟩ := H
  replace H : (if t521 = true then ((impl_ChoicesValid.f l1).bind fun t522 => (impl_ServeRoom.j0 k l0 l1 (!t522))) else (impl_ServeRoom.j0 k l0 l1 true)) = some (r1, r2) := H
  have A4 := Aside0.mk A40
  clear A40
  by_cases c5 : t521 = true
  ·subst c5
   have H1 : ((impl_ChoicesValid.f l1).bind fun t522 => (impl_ServeRoom.j0 k l0 l1 (!t522))) = some (r1, r2) := by rw [if_pos rfl] at H; exact H
   clear H
   have H := H1
   clear H1
   replace H := Option.bind_eq_some_iff.mp H
   obtain ⟨t522, A60, H⟩ := H
   replace H : (impl_ServeRoom.j0 k l0 l1 (!t522)) = some (r1, r2) := H
   have A6 := Aside0.mk A60
   clear A60
   have H' := Aside0.mk H
   clear H
   go_wp2_with (first | ((with_reducible refine gate_callee (f := 58) rfl ?_); refine goesL_ (some 10) rfl rfl Try.func58 pL rfl #[.slice A0 l0.length c0] rfl pM ?_; (with_reducible refine (impl_GuestsValid.calls k _ _ l0 true _ ?side1 ?side2 A4.out).mono ?_); (case side1 => exact pS ((Kd.C_below HR0.out HB.out))); (case side2 => exact HC0.out); rintro e w7 ⟨rfl, hb⟩; refine ⟨_, rfl, ?_⟩; have n0_ := Aside0.mk (below_step pB hb); clear HB; have HB := n0_; clear n0_; (try clear hb); (try clear hb2); (try clear hk); (try clear hi)) | (go_at_call 19; (with_reducible refine (impl_ChoicesValid.calls _ _ l1 t522 _ ?side1 ?side2 A6.out).mono ?_); (case side1 => exact pS ((Kd.C_below HR1.out HB.out))); (case side2 => exact HC1.out); rintro e w8 ⟨rfl, hb⟩; have n0_ := Aside0.mk (below_step pB hb); clear HB; have HB := n0_; clear n0_; (try clear hb); (try clear hb2); (try clear hk); (try clear hi)))
   go_meet
   case rel => exact ⟨_, (!t522), pF, H', ⟨by first | omega | exact Nat.le_refl _⟩, ⟨pB⟩⟩
  ·replace c5 := Bool.eq_false_iff.mpr c5
   subst c5
   have H1 : (impl_ServeRoom.j0 k l0 l1 true) = some (r1, r2) := by rw [if_neg (show ¬ (false = true) by decide)] at H; exact H
   clear H
   have H := H1
   clear H1
   have H' := Aside0.mk H
   clear H
   go_wp2_with (first | ((with_reducible refine gate_callee (f := 58) rfl ?_); refine goesL_ (some 10) rfl rfl Try.func58 pL rfl #[.slice A0 l0.length c0] rfl pM ?_; (with_reducible refine (impl_GuestsValid.calls k _ _ l0 false _ ?side1 ?side2 A4.out).mono ?_); (case side1 => exact pS ((Kd.C_below HR0.out HB.out))); (case side2 => exact HC0.out); rintro e w9 ⟨rfl, hb⟩; refine ⟨_, rfl, ?_⟩; have n0_ := Aside0.mk (below_step pB hb); clear HB; have HB := n0_; clear n0_; (try clear hb); (try clear hb2); (try clear hk); (try clear hi)))
   go_meet
   case rel => exact ⟨_, (true), pF, H', ⟨by first | omega | exact Nat.le_refl _⟩, ⟨pB⟩⟩
 case rest =>
  clear HC3
  try clear c1
  try clear p2
  try clear c3
  try clear c5
  obtain ⟨kq, x16_2, rfl, HA, HJ2, HB⟩ := hcut
  cases kq with
  | zero => exact absurd HA.out (by simp [impl_ServeRoom.j0])
  | succ kj2 =>
   have H := HA.out
   clear HA
   simp only [impl_ServeRoom.j0] at H
   by_cases c10 : x16_2 = true
   ·subst c10
    have H1 : (some (([] : List Int), false)) = some (r1, r2) := by rw [if_pos rfl] at H; exact H
    clear H
    have H := H1
    clear H1
    simp only [Option.some.injEq, Prod.mk.injEq] at H
    obtain ⟨rfl, rfl⟩ := H
    go_wp2
    go_ret2
    exact ⟨_, pE, by first | exact Kd.R_nil _ _ _ _ _ | exact Kd.N_nil _ _ _ _ _ | exact Kd.V_nil _ _ _ _ _ | exact Kd.Q_nil _ _ _ _ _ | exact Kd.S_nil _ _ _ _ _, pB⟩
   ·replace c10 := Bool.eq_false_iff.mpr c10
    subst c10
    have H1 : (impl_ServeRoom.l0 kj2 l0 l1 (([] : List Int)) l1 (l1.length : Int) 0) = some (r1, r2) := by rw [if_neg (show ¬ (false = true) by decide)] at H; exact H
    clear H
    have H := H1
    clear H1
    obtain ⟨y523, hy523⟩ : ∃ y_ : List Int, y_ = (([] : List Int)) := ⟨_, rfl⟩
    replace H : (impl_ServeRoom.l0 kj2 l0 l1 y523 l1 (l1.length : Int) 0) = some (r1, r2) := by first | (rw [hy523]; with_reducible exact H) | (have H2_ := (Option.bind_some _ _).symm.trans H; rw [hy523]; with_reducible exact H2_) | (have H2_ := (Option.bind_some _ _).symm.trans H; with_reducible exact H2_) | with_reducible exact H | (rw [hy523]; exact H) | exact H
    have Ny523 := Aside0.mk hy523
    clear hy523
    have H' := Aside0.mk H
    clear H
    go_wp2_with (first | ((with_reducible refine gate_dst (N := 17) rfl ?_); refine Kd.R_lit (Kd.int .i64) _ 3 ?hg (N := 17) ?hd (xs := ([] : List Int)) (inner := []) (ok := fun _ => True) (okp := fun _ => True) ?hr ?hp (fun _ hk => hk) trivial (Below.refl _ _) (Nat.le_refl _) (by simp) ?_; (case hd => rfl); (case hg => rfl); (case hr => first | (go_simp; done) | (go_simp; rfl)); (case hp => exact (Reps.none _ _)); intro v524 w11 ho12 hb hg_ hnew_; clear hg_ hnew_; (first | rw [← Ny523.out] at ho12 | (simp only [Int.reduceToNat] at ho12; rw [← Ny523.out] at ho12)); have n0_ := Aside0.mk (Kd.R_lower ho12 (below_size pB)); have n1_ := Aside0.mk (below_step pB hb); clear HB; have HO525 := n0_; have HB := n1_; clear n0_ n1_; clear hb ho12))
    go_loopg [6, 20] kj2 (fun kq v6 v20 w' => ∃ (x6_2 : List Int) (x20_2 : Int), v20 = .int .i64 x20_2 ∧ Aside0 (impl_ServeRoom.l0 kq l0 l1 x6_2 l1 (l1.length : Int) x20_2 = some (r1, r2)) ∧ Aside0 (kq ≤ kj2) ∧ Aside0 (Kd.R (Kd.int .i64) 3 w' w.heap.size (fun _ => True) v6 x6_2) ∧ Aside0 (Below w.heap.size w w'))
    case atStart => exact ⟨(y523), (0), pF, H', ⟨Nat.le_refl _⟩, ⟨pR HO525⟩, ⟨pB⟩⟩
    case round =>
     clear H'
     try clear c1
     try clear p2
     try clear c3
     try clear c5
     try clear c10
     try clear p2
     obtain ⟨x6_2, x20_2, rfl, HA, HK2, HO_6, HB⟩ := hrel
     cases gk with
     | zero => exact absurd HA.out (by simp [impl_ServeRoom.l0])
     | succ k2 =>
      have H := HA.out
      clear HA
      simp only [impl_ServeRoom.l0] at H
      by_cases c13 : x20_2 < (l1.length : Int)
      ·rw [if_pos c13] at H
       have c13b0 : decide (x20_2 < (l1.length : Int)) = true := decide_eq_true c13
       clear c13
       by_cases c14 : 0 ≤ x20_2
       ·rw [if_pos c14] at H
        have c14b0 : decide (0 ≤ x20_2) = true := decide_eq_true c14
        clear c14
        by_cases c15 : x20_2 < (l1.length : Int)
        ·rw [if_pos c15] at H
         have c15b0 : decide (x20_2 < (l1.length : Int)) = true := decide_eq_true c15
         clear c15
         by_cases c16 : x6_2.length < 17592186044416
         ·rw [if_pos c16] at H
          have LMc16 := Aside0.mk c16
          clear c16
          obtain ⟨y528, hy528⟩ : ∃ y_ : List Int, y_ = (x6_2 ++ [(rd_T32 l1 x20_2).f2]) := ⟨_, rfl⟩
          replace H : (impl_ServeRoom.l0 k2 l0 l1 y528 l1 (l1.length : Int) (wrap64 (x20_2 + 1))) = some (r1, r2) := by first | (rw [hy528]; with_reducible exact H) | (have H2_ := (Option.bind_some _ _).symm.trans H; rw [hy528]; with_reducible exact H2_) | (have H2_ := (Option.bind_some _ _).symm.trans H; with_reducible exact H2_) | with_reducible exact H | (rw [hy528]; exact H) | exact H
          have Ny528 := Aside0.mk hy528
          clear hy528
          have H' := Aside0.mk H
          clear H
          have p526 : 0 ≤ (x20_2 : Int) := of_decide_eq_true pA
          have q526 : x20_2 < (l1.length : Int) := of_decide_eq_true pA
          obtain ⟨ad526, e526, hx526_0, hx526_1, hx526_2⟩ := at_T32 HR1.out x20_2 p526 q526
          cases e526
          replace hx526_0 := (HB.out.cell (World.block_lt_of_cell? w _ hx526_0)).trans hx526_0
          replace hx526_1 := (HB.out.cell (World.block_lt_of_cell? w _ hx526_1)).trans hx526_1
          replace hx526_2 := (HB.out.cell (World.block_lt_of_cell? w _ hx526_2)).trans hx526_2
          replace p526 := eq_true p526
          replace q526 := eq_true q526
          go_wp2_with (first | ((with_reducible refine gate_dst (N := 8) rfl ?_); refine box_event ?hg (N := 8) ?hd (cs := #[.int .i64 0, .int .i64 0, .int .i64 0]) (t := 32) ?hr ?_; (case hd => rfl); (case hg => rfl); (case hr => first | (go_simp; done) | (go_simp; rfl)); intro gb527 hg w17 hbox hb; have n0_ := Aside0.mk (Kd.R_below (pR HO_6) hb); have n1_ := Aside0.mk (below_step pB hb); have n2_ := Aside0.mk (hbox); have n3_ := Aside0.mk ((by rw [hg]; exact (below_size pB) : w.heap.size ≤ gb527)); have n4_ := Aside0.mk ((by rw [hg]; exact (below_size pB) : w.heap.size ≤ gb527)); clear HO_6; clear HB; have HO_6 := n0_; have HB := n1_; have BK527 := n2_; have GW527 := n3_; have GE527 := n4_; clear n0_ n1_ n2_ n3_ n4_; clear hb hbox hg; have hcz18_0 : w17.cell? ⟨gb527, 0, none⟩ = some (.int .i64 0) := (blk_cell BK527.out 0).trans rfl; have hcz18_1 : w17.cell? ⟨gb527, 1, none⟩ = some (.int .i64 0) := (blk_cell BK527.out 1).trans rfl; have hcz18_2 : w17.cell? ⟨gb527, 2, none⟩ = some (.int .i64 0) := (blk_cell BK527.out 2).trans rfl; have hfz18_0 := blk_frozen BK527.out 0; have hfz18_1 := blk_frozen BK527.out 1; have hfz18_2 := blk_frozen BK527.out 2) | ((with_reducible refine gate_builtin (b := .append) (xs := #[.tmp 24, .tmp 27]) rfl ?_); at_builtin; refine Kd.R_append (Kd.int .i64) (w0 := w) w.heap.size rfl (.tmp 24) (.tmp 27) 37 3 (.int .i64 0) 8 rfl Try.underlying37 info3 rfl (by decide) (by omega) u6 x6_2 ((rd_T32 l1 x20_2).f2) [.int .i64 ((rd_T32 l1 x20_2).f2)] (fun _ => True) (fun _ => False) rfl (by first | (go_simp; done) | (go_simp; rfl)) ?aP (fun _ hk => hk.elim) ?aF ?aO ?aB ?aS ?aL ?_; (case aP => exact rfl); (case aB => exact (pG GE527)); (case aF => exact (fun _ _ => trivial)); (case aO => exact (by (with_reducible repeat (first | apply Kd.R_alloc | apply Kd.R_drewN | apply Kd.R_drew)); exact Kd.R_mono (Kd.R_far (p := ⟨gb527, 2, none⟩) (Kd.R_far (p := ⟨gb527, 1, none⟩) (Kd.R_far (p := ⟨gb527, 0, none⟩) (Kd.R_types HO_6.out BK527.out (by decide)) (fun _ hk => hk.2) (.int .i64 ((rd_T32 l1 x20_2).f0))) (fun _ hk => hk.2) (.int .i64 ((rd_T32 l1 x20_2).f1))) (fun _ hk => hk.2) (.int .i64 ((rd_T32 l1 x20_2).f2))) (fun _ hk => trivial))); (case aS => exact (below_size (pG GE527))); (case aL => have := LMc16.out; omega); intro v529 w19 ho hb hg hat; rw [← Ny528.out] at ho; have n0_ := Aside0.mk (blk_grown (g := gb527) (o := .cells #[.int .i64 ((rd_T32 l1 x20_2).f0), .int .i64 ((rd_T32 l1 x20_2).f1), .int .i64 ((rd_T32 l1 x20_2).f2)] 32 (0, 0)) (by (with_reducible repeat (first | refine blk_drewN ?_ _ | refine blk_drew ?_ | refine blk_alloc ?_ _)); refine blk_put (cs := #[.int .i64 ((rd_T32 l1 x20_2).f0), .int .i64 ((rd_T32 l1 x20_2).f1), .int .i64 0]) ?_ 2 _ rfl; (with_reducible repeat (first | refine blk_drewN ?_ _ | refine blk_drew ?_ | refine blk_alloc ?_ _)); refine blk_put (cs := #[.int .i64 ((rd_T32 l1 x20_2).f0), .int .i64 0, .int .i64 0]) ?_ 1 _ rfl; (with_reducible repeat (first | refine blk_drewN ?_ _ | refine blk_drew ?_ | refine blk_alloc ?_ _)); refine blk_put (cs := #[.int .i64 0, .int .i64 0, .int .i64 0]) ?_ 0 _ rfl; (with_reducible repeat (first | refine blk_drewN ?_ _ | refine blk_drew ?_ | refine blk_alloc ?_ _)); exact BK527.out) hg (Kd.R_ne HO_6.out BK527.out (by decide))); have n1_ := Aside0.mk (hb); have n2_ := Aside0.mk (ho); clear BK527; clear HB; clear HO_6; have BK527 := n0_; have HB := n1_; have HO530 := n2_; clear n0_ n1_ n2_; clear ho hb hg hat))
          go_roundg k2
          case measure => have := HJ2.out; have := HK2.out; omega
          case rel => exact ⟨(y528), (wrap64 (x20_2 + 1)), pF, H', ⟨by have := HJ2.out; have := HK2.out; omega⟩, ⟨pR HO530⟩, ⟨pG GE527⟩⟩
         ·rw [if_neg c16] at H
          exact absurd H (by simp)
        ·rw [if_neg c15] at H
         exact absurd H (by simp)
       ·rw [if_neg c14] at H
        exact absurd H (by simp)
      ·rw [if_neg c13] at H
       have c13b0 : decide (x20_2 < (l1.length : Int)) = false := decide_eq_false c13
       clear c13
       replace H := Option.bind_eq_some_iff.mp H
       obtain ⟨⟨t531, t534⟩, A200, H⟩ := H
       replace H : (some (t531, t534)) = some (r1, r2) := H
       have A20 := Aside0.mk A200
       clear A200
       simp only [Option.some.injEq, Prod.mk.injEq] at H
       obtain ⟨rfl, rfl⟩ := H
       obtain ⟨Ao21, co21, eo21⟩ := Kd.R_slice HO_6.out
       subst eo21
       go_wp2_with (first | ((with_reducible refine gate_callee (f := 69) rfl ?_); refine goesL_ (some 33) rfl rfl Try.func69 pL rfl #[.slice A0 l0.length c0, .slice A1 l1.length c1, .slice none 0 0, .slice Ao21 x6_2.length co21] rfl pM ?_; (refine (impl_firstPlan.calls k2 _ _ l0 _ _ l1 (fun k_ => some k_ = (.slice none 0 0 : Value).ownBlock) (.slice none 0 0) ([] : List Int) _ _ x6_2 t531 t534 w _ ?side1 ?side2 ?side3 ?side4 ?side5 ?side6 ?side7 ?side8 A20.out).mono ?_); (case side1 => exact pB); (case side2 => exact Kd.C_kept_came k43_heap HR0.out pB (fun k_ hs_ => (fun e_ => by simp [Value.ownBlock] at e_) hs_)); (case side3 => exact HC0.out); (case side4 => exact Kd.C_kept_came k32_heap HR1.out pB (fun k_ hs_ => (fun e_ => by simp [Value.ownBlock] at e_) hs_)); (case side5 => exact HC1.out); (case side6 => exact Kd.R_nil _ _ _ _ _); (case side7 => exact Kd.C_kept_own (HO_6.out) (fun k_ hk_ hs_ => (fun e_ => by simp [Value.ownBlock] at e_) hs_)); (case side8 => exact (Kd.R_reads' HO_6.out).2.1); rintro e w22 ⟨v532, rfl, ho0, hb, hkp⟩; refine ⟨_, rfl, ?_⟩; have n0_ := Aside0.mk (Kd.R_mono (ok' := fun k_ => some k_ ≠ (v532 : Value).ownBlock) (Kd.R_keptB (HO_6.out) hkp (fun k_ hk_ hs_ => (fun e_ => by simp [Value.ownBlock] at e_) hs_)) (fun k_ hk_ => fun e_ => Or.elim (ho0.1 k_ e_.symm) (fun hs_ => hk_.2.1 hs_) (fun hn_ => Nat.not_le.2 hk_.2.2 hn_))); have n1_ := Aside0.mk (Kd.R_mono (ok' := fun k_ => some k_ ≠ (.slice Ao21 x6_2.length co21 : Value).ownBlock) ho0 (fun k_ hk_ => Or.elim hk_ (fun hs_ => absurd hs_ (by simp [Value.ownBlock])) (fun hn_ => (Kd.fresh' (Kd.R_lt (pR HO_6)) k_ hn_)))); have n2_ := Aside0.mk (hb); clear HO_6; clear HB; have HO_6 := n0_; have HO533 := n1_; have HB := n2_; clear n0_ n1_ n2_; (try clear hb); (try clear hkp); (try clear ho0)))
       go_ret2
       exact ⟨_, pE, by (with_reducible repeat (first | apply Kd.R_alloc | apply Kd.R_drewN | apply Kd.R_drew)); exact Kd.R_mono HO533.out (fun _ hk => trivial), pB⟩

end Go.Proofs.Ytehenjjaekkcfaa.Q
