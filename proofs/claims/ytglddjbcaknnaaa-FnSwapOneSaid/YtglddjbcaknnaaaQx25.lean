-- Written by the kit's print.py for all laws of the seat at once (one namespace), by a program of this session.
import Derived.Test.YtglddjbcaknnaaaQx0
import Derived.Test.YtglddjbcaknnaaaQx9
import Derived.Test.YtglddjbcaknnaaaQx10
import Derived.Test.YtglddjbcaknnaaaQx12
namespace Go.Proofs.Ytglddjbcaknnaaa.Q
open Go.RowKit Go.Proofs.YtglddjbcaknnaaaW.PrintWords Go.Proofs.YtglddjbcaknnaaaW.PrintLast Go.Proofs.YtglddjbcaknnaaaW.PrintMore
attribute [local go_sem] max2_int min2_int max_two min_two max_three min_three max_four min_four   -- for this text's walks alone
set_option linter.unusedVariables false
set_option linter.unusedSimpArgs false

/-! ### spec_DrawSwapNeeds: function 40 -/
def spec_DrawSwapNeeds.l0 : Nat → List (S62) → List (S41) → List Int → List Int → Int → List Int → Int → Option ((List (S41)) × (List (S62)) × List Int × List Int)
 | 0, _, _, _, _, _, _, _ => none
 | k + 1, x7, x8, x9, x10, x11, x558000, x558001 => if x11 < (x7.length : Int) then ((spec_l6Rd_pick.f k x558000 x558001 4).bind fun bt573 => (if bt573.1 = 0 then (if 0 ≤ x11 then (if x10.length < 17592186044416 then (spec_DrawSwapNeeds.l0 k x7 x8 x9 (x10 ++ [(rd_T62 x7 x11).f0]) (wrap64 (x11 + 1)) x558000 bt573.2) else (none)) else (none)) else (spec_DrawSwapNeeds.l0 k x7 x8 x9 x10 (wrap64 (x11 + 1)) x558000 bt573.2))) else (some (x8, x7, x9, x10))
def spec_DrawSwapNeeds.f (k : Nat) (l0 : List Int) : Option ((List (S41)) × (List (S62)) × List Int × List Int) := (spec_l6Open.f l0).bind fun bt555 => ((spec_l91Foods.f k bt555.1 bt555.2).bind fun bt558 => ((spec_l91Rules.f k bt555.1 bt558.2 bt558.1).bind fun bt562 => ((spec_l91Needs.f k bt555.1 bt562.2 bt558.1).bind fun bt566 => (spec_DrawSwapNeeds.l0 k bt558.1 bt562.1 bt566.1 (([] : List Int)) 0 bt555.1 bt566.2))))
theorem spec_DrawSwapNeeds.mono_l : ∀ k, (∀ y0 y1 y2 y3 y4 y5 y6, LeO (spec_DrawSwapNeeds.l0 k y0 y1 y2 y3 y4 y5 y6) (spec_DrawSwapNeeds.l0 (k + 1) y0 y1 y2 y3 y4 y5 y6))
 | 0 => fun _ _ _ _ _ _ _ r h => by simp [spec_DrawSwapNeeds.l0] at h
 | k + 1 => by
  have ih0 := spec_DrawSwapNeeds.mono_l k
  ·intro y0 y1 y2 y3 y4 y5 y6
   unfold spec_DrawSwapNeeds.l0
   repeat' first
   | (with_reducible exact ih0 _ _ _ _ _ _ _)
   | (with_reducible exact spec_l6Rd_pick.mono _ _ _ _)
   | (with_reducible exact spec_l91Foods.mono _ _ _)
   | (with_reducible exact spec_l91Needs.mono _ _ _ _)
   | (with_reducible exact spec_l91Rules.mono _ _ _ _)
   | (with_reducible exact LeO.refl _)
   | (with_reducible exact LeO.none _)
   | (with_reducible refine LeO.ite ?_ ?_)
   | (with_reducible refine LeO.bind ?_ (fun _ => ?_))
   | exact ih0 _ _ _ _ _ _ _
   | exact spec_l6Rd_pick.mono _ _ _ _
   | exact spec_l91Foods.mono _ _ _
   | exact spec_l91Needs.mono _ _ _ _
   | exact spec_l91Rules.mono _ _ _ _
   | exact LeO.none _
   | refine LeO.ite ?_ ?_
   | refine LeO.bind ?_ (fun _ => ?_)
theorem spec_DrawSwapNeeds.mono : ∀ a0 k, LeO (spec_DrawSwapNeeds.f k a0) (spec_DrawSwapNeeds.f (k + 1) a0) := by
 intro a0 k
 have ih0 := spec_DrawSwapNeeds.mono_l k
 unfold spec_DrawSwapNeeds.f
 repeat' first
   | (with_reducible exact ih0 _ _ _ _ _ _ _)
   | (with_reducible exact spec_l6Rd_pick.mono _ _ _ _)
   | (with_reducible exact spec_l91Foods.mono _ _ _)
   | (with_reducible exact spec_l91Needs.mono _ _ _ _)
   | (with_reducible exact spec_l91Rules.mono _ _ _ _)
   | (with_reducible exact LeO.refl _)
   | (with_reducible exact LeO.none _)
   | (with_reducible refine LeO.ite ?_ ?_)
   | (with_reducible refine LeO.bind ?_ (fun _ => ?_))
   | exact ih0 _ _ _ _ _ _ _
   | exact spec_l6Rd_pick.mono _ _ _ _
   | exact spec_l91Foods.mono _ _ _
   | exact spec_l91Needs.mono _ _ _ _
   | exact spec_l91Rules.mono _ _ _ _
   | exact LeO.none _
   | refine LeO.ite ?_ ?_
   | refine LeO.bind ?_ (fun _ => ?_)
set_option maxHeartbeats 8000000 in
set_option maxRecDepth 100000 in
theorem spec_DrawSwapNeeds.calls (k : Nat) (A0 : Option Addr) (c0 : Nat) (l0 : List Int) (r1 : List (S41)) (r2 : List (S62)) (r3 : List Int) (r4 : List Int) (w : World) (hr0 : Kd.C (Kd.int .u8) w A0 l0.length l0) (hc0 : l0.length ≤ c0) (h : spec_DrawSwapNeeds.f k l0 = some (r1, r2, r3, r4)) :
  Calls Try.prog 40 #[.slice A0 l0.length c0] w fun e w' => ∃ v0_ v1_ v2_ v3_ : Value, e = .returned (.tuple #[v0_, v1_, v2_, v3_]) ∧ Kd.R k41 41 w' w.heap.size (fun _ => True) v0_ r1 ∧ Kd.R k62 62 w' w.heap.size (fun _ => True) v1_ r2 ∧ Kd.R (Kd.int .i64) 3 w' w.heap.size (fun k_ => some k_ ≠ (v3_ : Value).ownBlock) v2_ r3 ∧ Kd.R (Kd.int .i64) 3 w' w.heap.size (fun k_ => some k_ ≠ (v2_ : Value).ownBlock) v3_ r4 ∧ Below w.heap.size w w' := by
 have HR0 := Aside0.mk hr0
 have HC0 := Aside0.mk hc0
 clear hr0 hc0
 have HB := Aside0.mk (Below.refl w.heap.size w)
 have H : ((spec_l6Open.f l0).bind fun bt555 => ((spec_l91Foods.f k bt555.1 bt555.2).bind fun bt558 => ((spec_l91Rules.f k bt555.1 bt558.2 bt558.1).bind fun bt562 => ((spec_l91Needs.f k bt555.1 bt562.2 bt558.1).bind fun bt566 => (spec_DrawSwapNeeds.l0 k bt558.1 bt562.1 bt566.1 (([] : List Int)) 0 bt555.1 bt566.2))))) = some (r1, r2, r3, r4) := h
 clear h
 replace H := Option.bind_eq_some_iff.mp H
 obtain ⟨⟨t555, t556⟩, A20, H⟩ := H
 replace H : ((spec_l91Foods.f k t555 t556).bind fun bt558 => ((spec_l91Rules.f k t555 bt558.2 bt558.1).bind fun bt562 => ((spec_l91Needs.f k t555 bt562.2 bt558.1).bind fun bt566 => (spec_DrawSwapNeeds.l0 k bt558.1 bt562.1 bt566.1 (([] : List Int)) 0 t555 bt566.2)))) = some (r1, r2, r3, r4) := H
 have A2 := Aside0.mk A20
 clear A20
 replace H := Option.bind_eq_some_iff.mp H
 obtain ⟨⟨t558, t561⟩, A30, H⟩ := H
 replace H : ((spec_l91Rules.f k t555 t561 t558).bind fun bt562 => ((spec_l91Needs.f k t555 bt562.2 t558).bind fun bt566 => (spec_DrawSwapNeeds.l0 k t558 bt562.1 bt566.1 (([] : List Int)) 0 t555 bt566.2))) = some (r1, r2, r3, r4) := H
 have A3 := Aside0.mk A30
 clear A30
 replace H := Option.bind_eq_some_iff.mp H
 obtain ⟨⟨t562, t565⟩, A40, H⟩ := H
 replace H : ((spec_l91Needs.f k t555 t565 t558).bind fun bt566 => (spec_DrawSwapNeeds.l0 k t558 t562 bt566.1 (([] : List Int)) 0 t555 bt566.2)) = some (r1, r2, r3, r4) := H
 have A4 := Aside0.mk A40
 clear A40
 replace H := Option.bind_eq_some_iff.mp H
 obtain ⟨⟨t566, t569⟩, A50, H⟩ := H
 replace H : (spec_DrawSwapNeeds.l0 k t558 t562 t566 (([] : List Int)) 0 t555 t569) = some (r1, r2, r3, r4) := H
 have A5 := Aside0.mk A50
 clear A50
 obtain ⟨y570, hy570⟩ : ∃ y_ : List Int, y_ = (([] : List Int)) := ⟨_, rfl⟩
 replace H : (spec_DrawSwapNeeds.l0 k t558 t562 t566 y570 0 t555 t569) = some (r1, r2, r3, r4) := by first | (rw [hy570]; with_reducible exact H) | (have H2_ := (Option.bind_some _ _).symm.trans H; rw [hy570]; with_reducible exact H2_) | (have H2_ := (Option.bind_some _ _).symm.trans H; with_reducible exact H2_) | with_reducible exact H | (rw [hy570]; exact H) | exact H
 have Ny570 := Aside0.mk hy570
 clear hy570
 have H' := Aside0.mk H
 clear H
 go_enter Try.func40, Try.ntmps40
 go_wp2_with (first | ((with_reducible refine gate_callee (f := 48) rfl ?_); refine goesL_ (some 13) rfl rfl Try.func48 pL rfl #[.slice A0 l0.length c0] rfl pM ?_; (with_reducible refine (spec_l6Open.calls _ _ l0 t555 t556 w _ ?side1 ?side2 ?side3 A2.out).mono ?_); (case side1 => exact pB); (case side2 => exact HR0.out); (case side3 => exact HC0.out); rintro e w6 ⟨g557, rfl, hi, hb, hb2⟩; refine ⟨_, rfl, ?_⟩; have n0_ := Aside0.mk (hb); have n1_ := Aside0.mk (hi); clear HB; have HB := n0_; have HI557 := n1_; clear n0_ n1_; (try clear hb); (try clear hb2); (try clear hk); (try clear hi)) | ((with_reducible refine gate_callee (f := 49) rfl ?_); refine goesL_ (some 15) rfl rfl Try.func49 pL rfl #[.pointer (some ⟨g557, 0, none⟩)] rfl pM ?_; (with_reducible refine (spec_l91Foods.calls k g557 t555 t556 t558 t561 w _ ?side1 ?side2 A3.out).mono ?_); (case side1 => repeat (first | (with_reducible first | exact HI557.out | apply IsS85.alloc | apply IsS85.drewN | apply IsS85.drew | apply IsS85.set_1) | exact HI557.out)); (case side2 => repeat (first | (with_reducible first | exact HB.out | apply below_alloc | apply pw_below_drewN | apply below_drew1 | refine below_set ?_ (IsS85.ge HI557.out)) | exact HB.out)); rintro e w7 ⟨v559, rfl, ho0, hi, hb, hk⟩; refine ⟨_, rfl, ?_⟩; have n0_ := Aside0.mk (Kd.R_lower ho0 (below_size (by repeat (first | (with_reducible first | exact HB.out | apply below_alloc | apply pw_below_drewN | apply below_drew1 | refine below_set ?_ (IsS85.ge HI557.out)) | exact HB.out)))); have n1_ := Aside0.mk (hb); have n2_ := Aside0.mk (hi); clear HB; clear HI557; have HO560 := n0_; have HB := n1_; have HI557 := n2_; clear n0_ n1_ n2_; (try clear hb); (try clear hb2); (try clear hk); (try clear hi); (try clear ho0); obtain ⟨Ao8, co8, eo8⟩ := Kd.R_slice HO560.out; subst eo8) | ((with_reducible refine gate_callee (f := 51) rfl ?_); refine goesL_ (some 18) rfl rfl Try.func51 pL rfl #[.pointer (some ⟨g557, 0, none⟩), .slice Ao8 t558.length co8] rfl pM ?_; (with_reducible refine (spec_l91Rules.calls k g557 t555 t561 _ _ t558 t562 t565 w _ ?side1 ?side2 ?side3 ?side4 A4.out).mono ?_); (case side1 => repeat (first | (with_reducible first | exact HI557.out | apply IsS85.alloc | apply IsS85.drewN | apply IsS85.drew | apply IsS85.set_1) | exact HI557.out)); (case side2 => repeat (first | (with_reducible first | exact HB.out | apply below_alloc | apply pw_below_drewN | apply below_drew1 | refine below_set ?_ (IsS85.ge HI557.out)) | exact HB.out)); (case side3 => exact Kd.C_foot_own (IsS85.apart (show IsS85 w _ g557 t555 t561 from by repeat (first | (with_reducible first | exact HI557.out | apply IsS85.alloc | apply IsS85.drewN | apply IsS85.drew | apply IsS85.set_1) | exact HI557.out)) (pR HO560) (by decide)) (fun _ h_ => h_.2)); (case side4 => exact (Kd.R_reads' HO560.out).2.1); rintro e w9 ⟨v563, rfl, ho0, hi, hb, hk⟩; refine ⟨_, rfl, ?_⟩; have n0_ := Aside0.mk (Kd.R_mono (Kd.R_keep (IsS85.apart (show IsS85 w _ g557 t555 t561 from by repeat (first | (with_reducible first | exact HI557.out | apply IsS85.alloc | apply IsS85.drewN | apply IsS85.drew | apply IsS85.set_1) | exact HI557.out)) (pR HO560) (by decide)) hk (fun _ h => h.2)) (fun _ h => h.1)); have n1_ := Aside0.mk (Kd.R_lower ho0 (below_size (by repeat (first | (with_reducible first | exact HB.out | apply below_alloc | apply pw_below_drewN | apply below_drew1 | refine below_set ?_ (IsS85.ge HI557.out)) | exact HB.out)))); have n2_ := Aside0.mk (hb); have n3_ := Aside0.mk (hi); clear HO560; clear HB; clear HI557; have HO560 := n0_; have HO564 := n1_; have HB := n2_; have HI557 := n3_; clear n0_ n1_ n2_ n3_; (try clear hb); (try clear hb2); (try clear hk); (try clear hi); (try clear ho0)) | ((with_reducible refine gate_callee (f := 50) rfl ?_); refine goesL_ (some 21) rfl rfl Try.func50 pL rfl #[.pointer (some ⟨g557, 0, none⟩), .slice Ao8 t558.length co8] rfl pM ?_; (with_reducible refine (spec_l91Needs.calls k g557 t555 t565 _ _ t558 t566 t569 w _ ?side1 ?side2 ?side3 ?side4 A5.out).mono ?_); (case side1 => repeat (first | (with_reducible first | exact HI557.out | apply IsS85.alloc | apply IsS85.drewN | apply IsS85.drew | apply IsS85.set_1) | exact HI557.out)); (case side2 => repeat (first | (with_reducible first | exact HB.out | apply below_alloc | apply pw_below_drewN | apply below_drew1 | refine below_set ?_ (IsS85.ge HI557.out)) | exact HB.out)); (case side3 => exact Kd.C_foot_own (IsS85.apart (show IsS85 w _ g557 t555 t565 from by repeat (first | (with_reducible first | exact HI557.out | apply IsS85.alloc | apply IsS85.drewN | apply IsS85.drew | apply IsS85.set_1) | exact HI557.out)) (pR HO560) (by decide)) (fun _ h_ => h_.2)); (case side4 => exact (Kd.R_reads' HO560.out).2.1); rintro e w10 ⟨v567, rfl, ho0, hi, hb, hk⟩; refine ⟨_, rfl, ?_⟩; have n0_ := Aside0.mk (Kd.R_mono (Kd.R_keep (IsS85.apart (show IsS85 w _ g557 t555 t565 from by repeat (first | (with_reducible first | exact HI557.out | apply IsS85.alloc | apply IsS85.drewN | apply IsS85.drew | apply IsS85.set_1) | exact HI557.out)) (pR HO560) (by decide)) hk (fun _ h => h.2)) (fun _ h => h.1)); have n1_ := Aside0.mk (Kd.R_mono (Kd.R_keep (IsS85.apart (show IsS85 w _ g557 t555 t565 from by repeat (first | (with_reducible first | exact HI557.out | apply IsS85.alloc | apply IsS85.drewN | apply IsS85.drew | apply IsS85.set_1) | exact HI557.out)) (pR HO564) (by decide)) hk (fun _ h => h.2)) (fun _ h => h.1)); have n2_ := Aside0.mk (Kd.R_lower ho0 (below_size (by repeat (first | (with_reducible first | exact HB.out | apply below_alloc | apply pw_below_drewN | apply below_drew1 | refine below_set ?_ (IsS85.ge HI557.out)) | exact HB.out)))); have n3_ := Aside0.mk (hb); have n4_ := Aside0.mk (hi); clear HO560; clear HO564; clear HB; clear HI557; have HO560 := n0_; have HO564 := n1_; have HO568 := n2_; have HB := n3_; have HI557 := n4_; clear n0_ n1_ n2_ n3_ n4_; (try clear hb); (try clear hb2); (try clear hk); (try clear hi); (try clear ho0)) | ((with_reducible refine gate_dst (N := 22) rfl ?_); refine Kd.R_lit (Kd.int .i64) _ 3 ?hg (N := 22) ?hd (xs := ([] : List Int)) (inner := []) (ok := fun _ => True) (okp := fun _ => True) ?hr ?hp (fun _ hk => hk) trivial (Below.refl _ _) (Nat.le_refl _) (by simp) ?_; (case hd => rfl); (case hg => rfl); (case hr => first | (go_simp; done) | (go_simp; rfl)); (case hp => exact (Reps.none _ _)); intro v571 w11 ho12 hb hg_ hnew_; clear hg_ hnew_; (first | rw [← Ny570.out] at ho12 | (simp only [Int.reduceToNat] at ho12; rw [← Ny570.out] at ho12)); have n0_ := Aside0.mk (Kd.R_below (pR HO560) hb); have n1_ := Aside0.mk (Kd.R_below (pR HO564) hb); have n2_ := Aside0.mk (Kd.R_elder' (pR HO568) (Kd.R_base ho12) hb); have n3_ := Aside0.mk (Kd.R_lower (Kd.R_new' ho12 (Kd.R_lt (pR HO568))) (below_size (by repeat (first | (with_reducible first | exact HB.out | apply below_alloc | apply pw_below_drewN | apply below_drew1 | refine below_set ?_ (IsS85.ge HI557.out)) | exact HB.out)))); have n4_ := Aside0.mk (IsS85.below (by repeat (first | (with_reducible first | exact HI557.out | apply IsS85.alloc | apply IsS85.drewN | apply IsS85.drew | apply IsS85.set_1) | exact HI557.out)) hb); have n5_ := Aside0.mk (below_step (by repeat (first | (with_reducible first | exact HB.out | apply below_alloc | apply pw_below_drewN | apply below_drew1 | refine below_set ?_ (IsS85.ge HI557.out)) | exact HB.out)) hb); clear HO560; clear HO564; clear HO568; clear HI557; clear HB; have HO560 := n0_; have HO564 := n1_; have HO568 := n2_; have HO572 := n3_; have HI557 := n4_; have HB := n5_; clear n0_ n1_ n2_ n3_ n4_ n5_; clear hb ho12))
 go_loopg [10, 11] k (fun kq v10 v11 w' => ∃ (x10_1 : List Int) (x11_1 : Int) (x558001_1 : Int), v11 = .int .i64 x11_1 ∧ Aside0 (spec_DrawSwapNeeds.l0 kq t558 t562 t566 x10_1 x11_1 t555 x558001_1 = some (r1, r2, r3, r4)) ∧ Aside0 (kq ≤ k) ∧ Aside0 (Kd.R k62 62 w' w.heap.size (fun _ => True) (.slice Ao8 t558.length co8) t558) ∧ Aside0 (Kd.R k41 41 w' w.heap.size (fun _ => True) v563 t562) ∧ Aside0 (Kd.R (Kd.int .i64) 3 w' w.heap.size (fun k_ => some k_ ≠ (v10 : Value).ownBlock) v567 t566) ∧ Aside0 (Kd.R (Kd.int .i64) 3 w' w.heap.size (fun k_ => some k_ ≠ (v567 : Value).ownBlock) v10 x10_1) ∧ Aside0 (IsS85 w w' g557 t555 x558001_1) ∧ Aside0 (Below w.heap.size w w'))
 case atStart => exact ⟨(y570), (0), (t569), pF, H', ⟨Nat.le_refl _⟩, ⟨pR HO560⟩, ⟨pR HO564⟩, ⟨by (with_reducible repeat (first | apply Kd.R_alloc | apply Kd.R_drewN | apply Kd.R_drew)); exact Kd.R_mono HO568.out (fun _ hk => hk.2)⟩, ⟨by (with_reducible repeat (first | apply Kd.R_alloc | apply Kd.R_drewN | apply Kd.R_drew)); exact Kd.R_mono HO572.out (fun _ hk => hk.2)⟩, ⟨by repeat (first | (with_reducible first | exact HI557.out | apply IsS85.alloc | apply IsS85.drewN | apply IsS85.drew | apply IsS85.set_1) | exact HI557.out)⟩, ⟨by repeat (first | (with_reducible first | exact HB.out | apply below_alloc | apply pw_below_drewN | apply below_drew1 | refine below_set ?_ (IsS85.ge HI557.out)) | exact HB.out)⟩⟩
 case round =>
  clear H'
  try clear p2
  try clear c4
  try clear c5
  obtain ⟨x10_1, x11_1, x558001_1, rfl, HA, HK1, HO_7, HO_8, HO_9, HO_10, HI557, HB⟩ := hrel
  cases gk with
  | zero => exact absurd HA.out (by simp [spec_DrawSwapNeeds.l0])
  | succ k1 =>
   have H := HA.out
   clear HA
   simp only [spec_DrawSwapNeeds.l0] at H
   by_cases c13 : x11_1 < (t558.length : Int)
   ·rw [if_pos c13] at H
    have c13b0 : decide (x11_1 < (t558.length : Int)) = true := decide_eq_true c13
    clear c13
    replace H := Option.bind_eq_some_iff.mp H
    obtain ⟨⟨t573, t574⟩, A140, H⟩ := H
    replace H : (if t573 = 0 then (if 0 ≤ x11_1 then (if x10_1.length < 17592186044416 then (spec_DrawSwapNeeds.l0 k1 t558 t562 t566 (x10_1 ++ [(rd_T62 t558 x11_1).f0]) (wrap64 (x11_1 + 1)) t555 t574) else (none)) else (none)) else (spec_DrawSwapNeeds.l0 k1 t558 t562 t566 x10_1 (wrap64 (x11_1 + 1)) t555 t574)) = some (r1, r2, r3, r4) := H
    have A14 := Aside0.mk A140
    clear A140
    by_cases c15 : t573 = 0
    ·rw [if_pos c15] at H
     have c15b0 : (t573 == 0) = true := beq_iff_eq.mpr c15
     have c15b1 : (t573 != 0) = false := bne_eq_false_iff_eq.mpr c15
     clear c15
     by_cases c16 : 0 ≤ x11_1
     ·rw [if_pos c16] at H
      have c16b0 : decide (0 ≤ x11_1) = true := decide_eq_true c16
      clear c16
      by_cases c17 : x10_1.length < 17592186044416
      ·rw [if_pos c17] at H
       have LMc17 := Aside0.mk c17
       clear c17
       obtain ⟨y576, hy576⟩ : ∃ y_ : List Int, y_ = (x10_1 ++ [(rd_T62 t558 x11_1).f0]) := ⟨_, rfl⟩
       replace H : (spec_DrawSwapNeeds.l0 k1 t558 t562 t566 y576 (wrap64 (x11_1 + 1)) t555 t574) = some (r1, r2, r3, r4) := by first | (rw [hy576]; with_reducible exact H) | (have H2_ := (Option.bind_some _ _).symm.trans H; rw [hy576]; with_reducible exact H2_) | (have H2_ := (Option.bind_some _ _).symm.trans H; with_reducible exact H2_) | with_reducible exact H | (rw [hy576]; exact H) | exact H
       have Ny576 := Aside0.mk hy576
       clear hy576
       have H' := Aside0.mk H
       clear H
       go_wp2_with (first | ((with_reducible refine gate_callee (f := 62) rfl ?_); refine goesL_ (some 30) rfl rfl Try.func62 pL rfl #[.pointer (some ⟨g557, 0, none⟩), .int .i64 4] rfl pM ?_; (with_reducible refine (spec_l6Rd_pick.calls k1 g557 t555 x558001_1 4 t573 t574 w _ ?side1 ?side2 A14.out).mono ?_); (case side1 => repeat (first | (with_reducible first | exact HI557.out | apply IsS85.alloc | apply IsS85.drewN | apply IsS85.drew | apply IsS85.set_1) | exact HI557.out)); (case side2 => repeat (first | (with_reducible first | exact HB.out | apply below_alloc | apply pw_below_drewN | apply below_drew1 | refine below_set ?_ (IsS85.ge HI557.out)) | exact HB.out)); rintro e w18 ⟨rfl, hi, hb, hk⟩; refine ⟨_, rfl, ?_⟩; have n0_ := Aside0.mk (Kd.R_mono (Kd.R_keep (IsS85.apart (show IsS85 w _ g557 t555 x558001_1 from by repeat (first | (with_reducible first | exact HI557.out | apply IsS85.alloc | apply IsS85.drewN | apply IsS85.drew | apply IsS85.set_1) | exact HI557.out)) (pR HO_7) (by decide)) hk (fun _ h => h.2)) (fun _ h => h.1)); have n1_ := Aside0.mk (Kd.R_mono (Kd.R_keep (IsS85.apart (show IsS85 w _ g557 t555 x558001_1 from by repeat (first | (with_reducible first | exact HI557.out | apply IsS85.alloc | apply IsS85.drewN | apply IsS85.drew | apply IsS85.set_1) | exact HI557.out)) (pR HO_8) (by decide)) hk (fun _ h => h.2)) (fun _ h => h.1)); have n2_ := Aside0.mk (Kd.R_mono (Kd.R_keep (IsS85.apart (show IsS85 w _ g557 t555 x558001_1 from by repeat (first | (with_reducible first | exact HI557.out | apply IsS85.alloc | apply IsS85.drewN | apply IsS85.drew | apply IsS85.set_1) | exact HI557.out)) (pR HO_9) (by decide)) hk (fun _ h => h.2)) (fun _ h => h.1)); have n3_ := Aside0.mk (Kd.R_mono (Kd.R_keep (IsS85.apart (show IsS85 w _ g557 t555 x558001_1 from by repeat (first | (with_reducible first | exact HI557.out | apply IsS85.alloc | apply IsS85.drewN | apply IsS85.drew | apply IsS85.set_1) | exact HI557.out)) (pR HO_10) (by decide)) hk (fun _ h => h.2)) (fun _ h => h.1)); have n4_ := Aside0.mk (hb); have n5_ := Aside0.mk (hi); clear HO_7; clear HO_8; clear HO_9; clear HO_10; clear HB; clear HI557; have HO_7 := n0_; have HO_8 := n1_; have HO_9 := n2_; have HO_10 := n3_; have HB := n4_; have HI557 := n5_; clear n0_ n1_ n2_ n3_ n4_ n5_; (try clear hb); (try clear hb2); (try clear hk); (try clear hi); have p575 : 0 ≤ (x11_1 : Int) := of_decide_eq_true pA; have q575 : x11_1 < (t558.length : Int) := of_decide_eq_true pA; obtain ⟨ad575, e575, hx575_0, hx575_1, hx575_2, hx575_3, hx575_4, hx575_5⟩ := at_T62 (Kd.R_reads' HO_7.out).2.2 x11_1 p575 q575; cases e575; replace p575 := eq_true p575; replace q575 := eq_true q575) | ((with_reducible refine gate_builtin (b := .append) (xs := #[.tmp 32, .tmp 38]) rfl ?_); at_builtin; refine Kd.R_append (Kd.int .i64) (w0 := w) w.heap.size rfl (.tmp 32) (.tmp 38) 23 3 (.int .i64 0) 8 rfl Try.underlying23 info3 rfl (by decide) (by omega) u10 x10_1 ((rd_T62 t558 x11_1).f0) [.int .i64 ((rd_T62 t558 x11_1).f0)] (fun k_ => some k_ ≠ (v567 : Value).ownBlock) (fun _ => False) rfl rfl ?aP (fun _ hk => hk.elim) ?aF ?aO ?aB ?aS ?aL ?_; (case aP => exact rfl); (case aB => exact (by repeat (first | (with_reducible first | exact HB.out | apply below_alloc | apply pw_below_drewN | apply below_drew1 | refine below_set ?_ (IsS85.ge HI557.out)) | exact HB.out))); (case aF => exact (fun k_ hk => Kd.fresh' (Kd.R_lt (pR HO_9)) k_ hk)); (case aO => exact (pR HO_10)); (case aS => exact (below_size (by repeat (first | (with_reducible first | exact HB.out | apply below_alloc | apply pw_below_drewN | apply below_drew1 | refine below_set ?_ (IsS85.ge HI557.out)) | exact HB.out)))); (case aL => have := LMc17.out; omega); intro v577 w19 ho hb hg hat; rw [← Ny576.out] at ho; have n0_ := Aside0.mk (Kd.R_over' (pR HO_7) (Kd.R_typed (pR HO_10)) (by decide) hg); have n1_ := Aside0.mk (Kd.R_over' (pR HO_8) (Kd.R_typed (pR HO_10)) (by decide) hg); have n2_ := Aside0.mk (Kd.R_after (ok := (fun _ => True)) (by (with_reducible repeat (first | apply Kd.R_alloc | apply Kd.R_drewN | apply Kd.R_drew)); exact Kd.R_mono HO_9.out (fun _ hk => ⟨trivial, hk⟩)) hg hat); have n3_ := Aside0.mk (IsS85.grown (by repeat (first | (with_reducible first | exact HI557.out | apply IsS85.alloc | apply IsS85.drewN | apply IsS85.drew | apply IsS85.set_1) | exact HI557.out)) hg (IsS85.own_ne HI557.out HO_10.out (by decide))); have n4_ := Aside0.mk (hb); have n5_ := Aside0.mk (ho); clear HO_7; clear HO_8; clear HO_9; clear HI557; clear HB; clear HO_10; have HO_7 := n0_; have HO_8 := n1_; have HO_9 := n2_; have HI557 := n3_; have HB := n4_; have HO578 := n5_; clear n0_ n1_ n2_ n3_ n4_ n5_; clear ho hb hg hat))
       go_roundg k1
       case measure => have := HK1.out; omega
       case rel => exact ⟨(y576), (wrap64 (x11_1 + 1)), (t574), pF, H', ⟨by have := HK1.out; omega⟩, ⟨pR HO_7⟩, ⟨pR HO_8⟩, ⟨by (with_reducible repeat (first | apply Kd.R_alloc | apply Kd.R_drewN | apply Kd.R_drew)); exact Kd.R_mono HO_9.out (fun _ hk => hk.2)⟩, ⟨pR HO578⟩, ⟨by repeat (first | (with_reducible first | exact HI557.out | apply IsS85.alloc | apply IsS85.drewN | apply IsS85.drew | apply IsS85.set_1) | exact HI557.out)⟩, ⟨by repeat (first | (with_reducible first | exact HB.out | apply below_alloc | apply pw_below_drewN | apply below_drew1 | refine below_set ?_ (IsS85.ge HI557.out)) | exact HB.out)⟩⟩
      ·rw [if_neg c17] at H
       exact absurd H (by simp)
     ·rw [if_neg c16] at H
      exact absurd H (by simp)
    ·rw [if_neg c15] at H
     have c15b0 : (t573 == 0) = false := beq_eq_false_iff_ne.mpr c15
     have c15b1 : (t573 != 0) = true := bne_iff_ne.mpr c15
     have H' := Aside0.mk H
     clear H
     go_wp2_with (first | ((with_reducible refine gate_callee (f := 62) rfl ?_); refine goesL_ (some 30) rfl rfl Try.func62 pL rfl #[.pointer (some ⟨g557, 0, none⟩), .int .i64 4] rfl pM ?_; (with_reducible refine (spec_l6Rd_pick.calls k1 g557 t555 x558001_1 4 t573 t574 w _ ?side1 ?side2 A14.out).mono ?_); (case side1 => repeat (first | (with_reducible first | exact HI557.out | apply IsS85.alloc | apply IsS85.drewN | apply IsS85.drew | apply IsS85.set_1) | exact HI557.out)); (case side2 => repeat (first | (with_reducible first | exact HB.out | apply below_alloc | apply pw_below_drewN | apply below_drew1 | refine below_set ?_ (IsS85.ge HI557.out)) | exact HB.out)); rintro e w20 ⟨rfl, hi, hb, hk⟩; refine ⟨_, rfl, ?_⟩; have n0_ := Aside0.mk (Kd.R_mono (Kd.R_keep (IsS85.apart (show IsS85 w _ g557 t555 x558001_1 from by repeat (first | (with_reducible first | exact HI557.out | apply IsS85.alloc | apply IsS85.drewN | apply IsS85.drew | apply IsS85.set_1) | exact HI557.out)) (pR HO_7) (by decide)) hk (fun _ h => h.2)) (fun _ h => h.1)); have n1_ := Aside0.mk (Kd.R_mono (Kd.R_keep (IsS85.apart (show IsS85 w _ g557 t555 x558001_1 from by repeat (first | (with_reducible first | exact HI557.out | apply IsS85.alloc | apply IsS85.drewN | apply IsS85.drew | apply IsS85.set_1) | exact HI557.out)) (pR HO_8) (by decide)) hk (fun _ h => h.2)) (fun _ h => h.1)); have n2_ := Aside0.mk (Kd.R_mono (Kd.R_keep (IsS85.apart (show IsS85 w _ g557 t555 x558001_1 from by repeat (first | (with_reducible first | exact HI557.out | apply IsS85.alloc | apply IsS85.drewN | apply IsS85.drew | apply IsS85.set_1) | exact HI557.out)) (pR HO_9) (by decide)) hk (fun _ h => h.2)) (fun _ h => h.1)); have n3_ := Aside0.mk (Kd.R_mono (Kd.R_keep (IsS85.apart (show IsS85 w _ g557 t555 x558001_1 from by repeat (first | (with_reducible first | exact HI557.out | apply IsS85.alloc | apply IsS85.drewN | apply IsS85.drew | apply IsS85.set_1) | exact HI557.out)) (pR HO_10) (by decide)) hk (fun _ h => h.2)) (fun _ h => h.1)); have n4_ := Aside0.mk (hb); have n5_ := Aside0.mk (hi); clear HO_7; clear HO_8; clear HO_9; clear HO_10; clear HB; clear HI557; have HO_7 := n0_; have HO_8 := n1_; have HO_9 := n2_; have HO_10 := n3_; have HB := n4_; have HI557 := n5_; clear n0_ n1_ n2_ n3_ n4_ n5_; (try clear hb); (try clear hb2); (try clear hk); (try clear hi)))
     go_roundg k1
     case measure => have := HK1.out; omega
     case rel => exact ⟨(x10_1), (wrap64 (x11_1 + 1)), (t574), pF, H', ⟨by have := HK1.out; omega⟩, ⟨pR HO_7⟩, ⟨pR HO_8⟩, ⟨pR HO_9⟩, ⟨pR HO_10⟩, ⟨by repeat (first | (with_reducible first | exact HI557.out | apply IsS85.alloc | apply IsS85.drewN | apply IsS85.drew | apply IsS85.set_1) | exact HI557.out)⟩, ⟨by repeat (first | (with_reducible first | exact HB.out | apply below_alloc | apply pw_below_drewN | apply below_drew1 | refine below_set ?_ (IsS85.ge HI557.out)) | exact HB.out)⟩⟩
   ·rw [if_neg c13] at H
    have c13b0 : decide (x11_1 < (t558.length : Int)) = false := decide_eq_false c13
    clear c13
    simp only [Option.some.injEq, Prod.mk.injEq] at H
    obtain ⟨rfl, rfl, rfl, rfl⟩ := H
    go_wp2
    refine bodyPost_ret (results_list (rs := [.tmp 2, .tmp 3, .tmp 4, .tmp 5]) rfl (by simp) (.tmp (.tmp (.tmp (.tmp .nil))))) rfl ?_
    exact ⟨_, _, _, _, pE, pR HO_8, pR HO_7, pR HO_9, pR HO_10, by repeat (first | (with_reducible first | exact HB.out | apply below_alloc | apply pw_below_drewN | apply below_drew1 | refine below_set ?_ (IsS85.ge HI557.out)) | exact HB.out)⟩

end Go.Proofs.Ytglddjbcaknnaaa.Q
