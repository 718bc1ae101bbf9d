-- Written by the kit's print.py for all laws of the seat at once (one namespace), by a program of this session.
import Derived.Test.YtehenjjaekkcfaaQx0
import Derived.Test.YtehenjjaekkcfaaQx4
import Derived.Test.YtehenjjaekkcfaaQx7
import Derived.Test.YtehenjjaekkcfaaQx12
import Derived.Test.YtehenjjaekkcfaaQx27
namespace Go.Proofs.Ytehenjjaekkcfaa.Q
open Go.RowKit Go.Proofs.YtehenjjaekkcfaaW.PrintWords Go.Proofs.YtehenjjaekkcfaaW.PrintLast Go.Proofs.YtehenjjaekkcfaaW.PrintMore
attribute [local go_sem] max2_int min2_int max_two min_two max_three min_three max_four min_four   -- for this text's walks alone
set_option linter.unusedVariables false
set_option linter.unusedSimpArgs false

/-! ### spec_DrawServeFits: function 45 -/
mutual
def spec_DrawServeFits.j0 : Nat → List (S43) → List (S32) → List Int → List Int → Int → Option ((List (S43)) × (List (S32)) × List Int)
 | 0, _, _, _, _, _ => none
 | k + 1, x6, x7, x8, x718000, x718001 => if (x8.length : Int) > 0 then ((spec_l6Rd_pick.f k x718000 x718001 3).bind fun bt732 => (spec_DrawServeFits.j1 k x6 x7 x8 (bt732.1 == 0) x718000 bt732.2)) else (spec_DrawServeFits.j1 k x6 x7 x8 false x718000 x718001)
def spec_DrawServeFits.j1 : Nat → List (S43) → List (S32) → List Int → Bool → List Int → Int → Option ((List (S43)) × (List (S32)) × List Int)
 | 0, _, _, _, _, _, _ => none
 | k + 1, x6, x7, x8, x35, x718000, x718001 => if x35 = true then ((spec_l6Rd_pick.f k x718000 x718001 (x8.length : Int)).bind fun bt734 => ((spec_l6Rd_pick.f k x718000 bt734.2 6).bind fun bt736 => (if 0 ≤ bt734.1 then (if bt734.1 < (x8.length : Int) then (some (x6, x7, (x8.set (bt734.1 : Int).toNat (wrap64 (bt736.1 - 1))))) else (none)) else (none)))) else (some (x6, x7, x8))
end
def spec_DrawServeFits.f (k : Nat) (l0 : List Int) : Option ((List (S43)) × (List (S32)) × List Int) := (spec_l6Open.f l0).bind fun bt715 => ((spec_l91Course.f k bt715.1 bt715.2).bind fun bt718 => ((spec_ServeRoom.f k bt718.1 bt718.2.1).bind fun bt725 => (if bt725.2 = true then (spec_DrawServeFits.j0 k bt718.1 bt718.2.1 bt725.1 bt715.1 bt718.2.2) else ((spec_ServeFirst.f k bt718.1 bt718.2.1).bind fun t729 => (spec_DrawServeFits.j0 k bt718.1 bt718.2.1 t729 bt715.1 bt718.2.2)))))
theorem spec_DrawServeFits.mono_l : ∀ k, (∀ y0 y1 y2 y3 y4, LeO (spec_DrawServeFits.j0 k y0 y1 y2 y3 y4) (spec_DrawServeFits.j0 (k + 1) y0 y1 y2 y3 y4)) ∧ (∀ y0 y1 y2 y3 y4 y5, LeO (spec_DrawServeFits.j1 k y0 y1 y2 y3 y4 y5) (spec_DrawServeFits.j1 (k + 1) y0 y1 y2 y3 y4 y5))
 | 0 => ⟨fun _ _ _ _ _ r h => by simp [spec_DrawServeFits.j0] at h, fun _ _ _ _ _ _ r h => by simp [spec_DrawServeFits.j1] at h⟩
 | k + 1 => by
  obtain ⟨ih0, ih1⟩ := spec_DrawServeFits.mono_l k
  refine ⟨?_, ?_⟩
  ·intro y0 y1 y2 y3 y4
   unfold spec_DrawServeFits.j0
   repeat' first
   | (with_reducible exact ih0 _ _ _ _ _)
   | (with_reducible exact ih1 _ _ _ _ _ _)
   | (with_reducible exact spec_ServeFirst.mono _ _ _)
   | (with_reducible exact spec_ServeRoom.mono _ _ _)
   | (with_reducible exact spec_l6Rd_pick.mono _ _ _ _)
   | (with_reducible exact spec_l91Course.mono _ _ _)
   | (with_reducible exact LeO.refl _)
   | (with_reducible exact LeO.none _)
   | (with_reducible refine LeO.ite ?_ ?_)
   | (with_reducible refine LeO.bind ?_ (fun _ => ?_))
   | exact ih0 _ _ _ _ _
   | exact ih1 _ _ _ _ _ _
   | exact spec_ServeFirst.mono _ _ _
   | exact spec_ServeRoom.mono _ _ _
   | exact spec_l6Rd_pick.mono _ _ _ _
   | exact spec_l91Course.mono _ _ _
   | exact LeO.none _
   | refine LeO.ite ?_ ?_
   | refine LeO.bind ?_ (fun _ => ?_)
  ·intro y0 y1 y2 y3 y4 y5
   unfold spec_DrawServeFits.j1
   repeat' first
   | (with_reducible exact ih0 _ _ _ _ _)
   | (with_reducible exact ih1 _ _ _ _ _ _)
   | (with_reducible exact spec_ServeFirst.mono _ _ _)
   | (with_reducible exact spec_ServeRoom.mono _ _ _)
   | (with_reducible exact spec_l6Rd_pick.mono _ _ _ _)
   | (with_reducible exact spec_l91Course.mono _ _ _)
   | (with_reducible exact LeO.refl _)
   | (with_reducible exact LeO.none _)
   | (with_reducible refine LeO.ite ?_ ?_)
   | (with_reducible refine LeO.bind ?_ (fun _ => ?_))
   | exact ih0 _ _ _ _ _
   | exact ih1 _ _ _ _ _ _
   | exact spec_ServeFirst.mono _ _ _
   | exact spec_ServeRoom.mono _ _ _
   | exact spec_l6Rd_pick.mono _ _ _ _
   | exact spec_l91Course.mono _ _ _
   | exact LeO.none _
   | refine LeO.ite ?_ ?_
   | refine LeO.bind ?_ (fun _ => ?_)
theorem spec_DrawServeFits.mono : ∀ a0 k, LeO (spec_DrawServeFits.f k a0) (spec_DrawServeFits.f (k + 1) a0) := by
 intro a0 k
 obtain ⟨ih0, ih1⟩ := spec_DrawServeFits.mono_l k
 unfold spec_DrawServeFits.f
 repeat' first
   | (with_reducible exact ih0 _ _ _ _ _)
   | (with_reducible exact ih1 _ _ _ _ _ _)
   | (with_reducible exact spec_ServeFirst.mono _ _ _)
   | (with_reducible exact spec_ServeRoom.mono _ _ _)
   | (with_reducible exact spec_l6Rd_pick.mono _ _ _ _)
   | (with_reducible exact spec_l91Course.mono _ _ _)
   | (with_reducible exact LeO.refl _)
   | (with_reducible exact LeO.none _)
   | (with_reducible refine LeO.ite ?_ ?_)
   | (with_reducible refine LeO.bind ?_ (fun _ => ?_))
   | exact ih0 _ _ _ _ _
   | exact ih1 _ _ _ _ _ _
   | exact spec_ServeFirst.mono _ _ _
   | exact spec_ServeRoom.mono _ _ _
   | exact spec_l6Rd_pick.mono _ _ _ _
   | exact spec_l91Course.mono _ _ _
   | exact LeO.none _
   | refine LeO.ite ?_ ?_
   | refine LeO.bind ?_ (fun _ => ?_)
set_option maxHeartbeats 8000000 in
set_option maxRecDepth 100000 in
theorem spec_DrawServeFits.calls (k : Nat) (A0 : Option Addr) (c0 : Nat) (l0 : List Int) (r1 : List (S43)) (r2 : List (S32)) (r3 : List Int) (w : World) (hr0 : Kd.C (Kd.int .u8) w A0 l0.length l0) (hc0 : l0.length ≤ c0) (h : spec_DrawServeFits.f k l0 = some (r1, r2, r3)) :
  Calls Try.prog 45 #[.slice A0 l0.length c0] w fun e w' => ∃ v0_ v1_ v2_ : Value, e = .returned (.tuple #[v0_, v1_, v2_]) ∧ Kd.R k43 43 w' w.heap.size (fun _ => True) v0_ r1 ∧ Kd.R k32 32 w' w.heap.size (fun _ => True) v1_ r2 ∧ Kd.R (Kd.int .i64) 3 w' w.heap.size (fun _ => True) v2_ r3 ∧ Below w.heap.size w w' := by
 have HR0 := Aside0.mk hr0
 have HC0 := Aside0.mk hc0
 clear hr0 hc0
 have HB := Aside0.mk (Below.refl w.heap.size w)
 have H : ((spec_l6Open.f l0).bind fun bt715 => ((spec_l91Course.f k bt715.1 bt715.2).bind fun bt718 => ((spec_ServeRoom.f k bt718.1 bt718.2.1).bind fun bt725 => (if bt725.2 = true then (spec_DrawServeFits.j0 k bt718.1 bt718.2.1 bt725.1 bt715.1 bt718.2.2) else ((spec_ServeFirst.f k bt718.1 bt718.2.1).bind fun t729 => (spec_DrawServeFits.j0 k bt718.1 bt718.2.1 t729 bt715.1 bt718.2.2)))))) = some (r1, r2, r3) := h
 clear h
 replace H := Option.bind_eq_some_iff.mp H
 obtain ⟨⟨t715, t716⟩, A20, H⟩ := H
 replace H : ((spec_l91Course.f k t715 t716).bind fun bt718 => ((spec_ServeRoom.f k bt718.1 bt718.2.1).bind fun bt725 => (if bt725.2 = true then (spec_DrawServeFits.j0 k bt718.1 bt718.2.1 bt725.1 t715 bt718.2.2) else ((spec_ServeFirst.f k bt718.1 bt718.2.1).bind fun t729 => (spec_DrawServeFits.j0 k bt718.1 bt718.2.1 t729 t715 bt718.2.2))))) = some (r1, r2, r3) := H
 have A2 := Aside0.mk A20
 clear A20
 replace H := Option.bind_eq_some_iff.mp H
 obtain ⟨⟨t718, t721, t724⟩, A30, H⟩ := H
 replace H : ((spec_ServeRoom.f k t718 t721).bind fun bt725 => (if bt725.2 = true then (spec_DrawServeFits.j0 k t718 t721 bt725.1 t715 t724) else ((spec_ServeFirst.f k t718 t721).bind fun t729 => (spec_DrawServeFits.j0 k t718 t721 t729 t715 t724)))) = some (r1, r2, r3) := H
 have A3 := Aside0.mk A30
 clear A30
 replace H := Option.bind_eq_some_iff.mp H
 obtain ⟨⟨t725, t726⟩, A40, H⟩ := H
 replace H : (if t726 = true then (spec_DrawServeFits.j0 k t718 t721 t725 t715 t724) else ((spec_ServeFirst.f k t718 t721).bind fun t729 => (spec_DrawServeFits.j0 k t718 t721 t729 t715 t724))) = some (r1, r2, r3) := H
 have A4 := Aside0.mk A40
 clear A40
 have HC5 := Aside0.mk H
 clear H
 go_enter Try.func45, Try.ntmps45
 go_upto_if 24 with (first | ((with_reducible refine gate_callee (f := 56) rfl ?_); refine goesL_ (some 11) rfl rfl Try.func56 pL rfl #[.slice A0 l0.length c0] rfl pM ?_; (with_reducible refine (spec_l6Open.calls _ _ l0 t715 t716 w _ ?side1 ?side2 ?side3 A2.out).mono ?_); (case side1 => exact pB); (case side2 => exact HR0.out); (case side3 => exact HC0.out); rintro e w6 ⟨g717, rfl, hi, hb, hb2⟩; refine ⟨_, rfl, ?_⟩; have n0_ := Aside0.mk (hb); have n1_ := Aside0.mk (hi); clear HB; have HB := n0_; have HI717 := n1_; clear n0_ n1_; (try clear hb); (try clear hb2); (try clear hk); (try clear hi)) | ((with_reducible refine gate_callee (f := 57) rfl ?_); refine goesL_ (some 14) rfl rfl Try.func57 pL rfl #[.pointer (some ⟨g717, 0, none⟩)] rfl pM ?_; (with_reducible refine (spec_l91Course.calls k g717 t715 t716 t718 t721 t724 w _ ?side1 ?side2 A3.out).mono ?_); (case side1 => repeat (first | (with_reducible first | exact HI717.out | apply IsS83.alloc | apply IsS83.drewN | apply IsS83.drew | apply IsS83.set_1) | exact HI717.out)); (case side2 => repeat (first | (with_reducible first | exact HB.out | apply below_alloc | apply pw_below_drewN | apply below_drew1 | refine below_set ?_ (IsS83.ge HI717.out)) | exact HB.out)); rintro e w7 ⟨v719, v722, rfl, ho0, ho1, hi, hb, hk⟩; refine ⟨_, rfl, ?_⟩; have n0_ := Aside0.mk (Kd.R_lower ho0 (below_size (by repeat (first | (with_reducible first | exact HB.out | apply below_alloc | apply pw_below_drewN | apply below_drew1 | refine below_set ?_ (IsS83.ge HI717.out)) | exact HB.out)))); have n1_ := Aside0.mk (Kd.R_lower ho1 (below_size (by repeat (first | (with_reducible first | exact HB.out | apply below_alloc | apply pw_below_drewN | apply below_drew1 | refine below_set ?_ (IsS83.ge HI717.out)) | exact HB.out)))); have n2_ := Aside0.mk (hb); have n3_ := Aside0.mk (hi); clear HB; clear HI717; have HO720 := n0_; have HO723 := n1_; have HB := n2_; have HI717 := n3_; clear n0_ n1_ n2_ n3_; (try clear hb); (try clear hb2); (try clear hk); (try clear hi); (try clear ho0); (try clear ho1); obtain ⟨Ao8, co8, eo8⟩ := Kd.R_slice HO720.out; subst eo8; obtain ⟨Ao9, co9, eo9⟩ := Kd.R_slice HO723.out; subst eo9) | ((with_reducible refine gate_callee (f := 44) rfl ?_); refine goesL_ (some 20) rfl rfl Try.func44 pL rfl #[.slice Ao8 t718.length co8, .slice Ao9 t721.length co9] rfl pM ?_; (with_reducible refine (spec_ServeRoom.calls k _ _ t718 _ _ t721 t725 t726 _ ?side1 ?side2 ?side3 ?side4 A4.out).mono ?_); (case side1 => exact pS ((Kd.R_reads' HO720.out).2.2)); (case side2 => exact (Kd.R_reads' HO720.out).2.1); (case side3 => exact pS ((Kd.R_reads' HO723.out).2.2)); (case side4 => exact (Kd.R_reads' HO723.out).2.1); rintro e w10 ⟨v727, rfl, ho0, hb⟩; refine ⟨_, rfl, ?_⟩; have n0_ := Aside0.mk (Kd.R_below (pR HO720) hb); have n1_ := Aside0.mk (Kd.R_below (pR HO723) hb); have n2_ := Aside0.mk (Kd.R_lower ho0 (below_size (by repeat (first | (with_reducible first | exact HB.out | apply below_alloc | apply pw_below_drewN | apply below_drew1 | refine below_set ?_ (IsS83.ge HI717.out)) | exact HB.out)))); have n3_ := Aside0.mk (IsS83.below (by repeat (first | (with_reducible first | exact HI717.out | apply IsS83.alloc | apply IsS83.drewN | apply IsS83.drew | apply IsS83.set_1) | exact HI717.out)) hb); have n4_ := Aside0.mk (below_step (by repeat (first | (with_reducible first | exact HB.out | apply below_alloc | apply pw_below_drewN | apply below_drew1 | refine below_set ?_ (IsS83.ge HI717.out)) | exact HB.out)) hb); clear HO720; clear HO723; clear HI717; clear HB; have HO720 := n0_; have HO723 := n1_; have HO728 := n2_; have HI717 := n3_; have HB := n4_; clear n0_ n1_ n2_ n3_ n4_; (try clear hb); (try clear hb2); (try clear hk); (try clear hi); (try clear ho0)))
 (try simp only [Act.put, List.setIfInBounds_toArray, List.set_cons_zero, List.set_cons_succ])
 go_cut [8] (fun v8 wc => ∃ (kq : Nat) (x8_4 : List Int), Aside0 (spec_DrawServeFits.j0 kq t718 t721 x8_4 t715 t724 = some (r1, r2, r3)) ∧ Aside0 (kq ≤ k) ∧ Aside0 (Kd.R k43 43 wc w.heap.size (fun _ => True) (.slice Ao8 t718.length co8) t718) ∧ Aside0 (Kd.R k32 32 wc w.heap.size (fun _ => True) (.slice Ao9 t721.length co9) t721) ∧ Aside0 (Kd.R (Kd.int .i64) 3 wc w.heap.size (fun _ => True) v8 x8_4) ∧ Aside0 (IsS83 w wc g717 t715 t724) ∧ Aside0 (Below w.heap.size w wc))
 case first =>
  have H := HC5.out
  clear HC5
  by_cases c11 : t726 = true
  ·subst c11
   have H1 : (spec_DrawServeFits.j0 k t718 t721 t725 t715 t724) = some (r1, r2, r3) := by rw [if_pos rfl] at H; exact H
   clear H
   have H := H1
   clear H1
   have H' := Aside0.mk H
   clear H
   go_wp2
   go_meet
   case rel => exact ⟨_, (t725), H', ⟨by first | omega | exact Nat.le_refl _⟩, ⟨pR HO720⟩, ⟨pR HO723⟩, ⟨pR HO728⟩, ⟨by repeat (first | (with_reducible first | exact HI717.out | apply IsS83.alloc | apply IsS83.drewN | apply IsS83.drew | apply IsS83.set_1) | exact HI717.out)⟩, ⟨by repeat (first | (with_reducible first | exact HB.out | apply below_alloc | apply pw_below_drewN | apply below_drew1 | refine below_set ?_ (IsS83.ge HI717.out)) | exact HB.out)⟩⟩
  ·replace c11 := Bool.eq_false_iff.mpr c11
   subst c11
   have H1 : ((spec_ServeFirst.f k t718 t721).bind fun t729 => (spec_DrawServeFits.j0 k t718 t721 t729 t715 t724)) = some (r1, r2, r3) := by rw [if_neg (show ¬ (false = true) by decide)] at H; exact H
   clear H
   have H := H1
   clear H1
   replace H := Option.bind_eq_some_iff.mp H
   obtain ⟨t729, A120, H⟩ := H
   replace H : (spec_DrawServeFits.j0 k t718 t721 t729 t715 t724) = some (r1, r2, r3) := H
   have A12 := Aside0.mk A120
   clear A120
   have H' := Aside0.mk H
   clear H
   go_wp2_with (first | ((with_reducible refine gate_callee (f := 24) rfl ?_); refine goesL_ (some 27) rfl rfl Try.func24 pL rfl #[.slice Ao8 t718.length co8, .slice Ao9 t721.length co9] rfl pM ?_; (with_reducible refine (spec_ServeFirst.calls k _ _ t718 _ _ t721 t729 _ ?side1 ?side2 ?side3 ?side4 A12.out).mono ?_); (case side1 => exact pS ((Kd.R_reads' HO720.out).2.2)); (case side2 => exact (Kd.R_reads' HO720.out).2.1); (case side3 => exact pS ((Kd.R_reads' HO723.out).2.2)); (case side4 => exact (Kd.R_reads' HO723.out).2.1); rintro e w13 ⟨v730, rfl, ho0, hb⟩; refine ⟨_, rfl, ?_⟩; have n0_ := Aside0.mk (Kd.R_below (pR HO720) hb); have n1_ := Aside0.mk (Kd.R_below (pR HO723) hb); have n2_ := Aside0.mk (Kd.R_elder' (pR HO728) (Kd.R_base ho0) hb); have n3_ := Aside0.mk (Kd.R_lower (Kd.R_new' ho0 (Kd.R_lt (pR HO728))) (below_size (by repeat (first | (with_reducible first | exact HB.out | apply below_alloc | apply pw_below_drewN | apply below_drew1 | refine below_set ?_ (IsS83.ge HI717.out)) | exact HB.out)))); have n4_ := Aside0.mk (IsS83.below (by repeat (first | (with_reducible first | exact HI717.out | apply IsS83.alloc | apply IsS83.drewN | apply IsS83.drew | apply IsS83.set_1) | exact HI717.out)) hb); have n5_ := Aside0.mk (below_step (by repeat (first | (with_reducible first | exact HB.out | apply below_alloc | apply pw_below_drewN | apply below_drew1 | refine below_set ?_ (IsS83.ge HI717.out)) | exact HB.out)) hb); clear HO720; clear HO723; clear HO728; clear HI717; clear HB; have HO720 := n0_; have HO723 := n1_; have HO728 := n2_; have HO731 := n3_; have HI717 := n4_; have HB := n5_; clear n0_ n1_ n2_ n3_ n4_ n5_; (try clear hb); (try clear hb2); (try clear hk); (try clear hi); (try clear ho0)))
   go_meet
   case rel => exact ⟨_, (t729), H', ⟨by first | omega | exact Nat.le_refl _⟩, ⟨pR HO720⟩, ⟨pR HO723⟩, ⟨by (with_reducible repeat (first | apply Kd.R_alloc | apply Kd.R_drewN | apply Kd.R_drew)); exact Kd.R_mono HO731.out (fun _ hk => trivial)⟩, ⟨by repeat (first | (with_reducible first | exact HI717.out | apply IsS83.alloc | apply IsS83.drewN | apply IsS83.drew | apply IsS83.set_1) | exact HI717.out)⟩, ⟨by repeat (first | (with_reducible first | exact HB.out | apply below_alloc | apply pw_below_drewN | apply below_drew1 | refine below_set ?_ (IsS83.ge HI717.out)) | exact HB.out)⟩⟩
 case rest =>
  clear HC5
  try clear c1
  try clear c2
  try clear p2
  try clear c4
  try clear c5
  try clear c11
  obtain ⟨kq, x8_4, HA, HJ4, HO_6, HO_7, HO_8, HI717, HB⟩ := hcut
  cases kq with
  | zero => exact absurd HA.out (by simp [spec_DrawServeFits.j0])
  | succ kj4 =>
   have H := HA.out
   clear HA
   simp only [spec_DrawServeFits.j0] at H
   have HC14 := Aside0.mk H
   clear H
   go_upto_region 6 with (fail)
   go_cut [35] (fun v35 wc => ∃ (kq : Nat) (x35_13 : Bool) (x718001_13 : Int), v35 = .bool x35_13 ∧ Aside0 (spec_DrawServeFits.j1 kq t718 t721 x8_4 x35_13 t715 x718001_13 = some (r1, r2, r3)) ∧ Aside0 (kq ≤ kj4) ∧ Aside0 (Kd.R k43 43 wc w.heap.size (fun _ => True) (.slice Ao8 t718.length co8) t718) ∧ Aside0 (Kd.R k32 32 wc w.heap.size (fun _ => True) (.slice Ao9 t721.length co9) t721) ∧ Aside0 (Kd.R (Kd.int .i64) 3 wc w.heap.size (fun _ => True) u8 x8_4) ∧ Aside0 (IsS83 w wc g717 t715 x718001_13) ∧ Aside0 (Below w.heap.size w wc))
   case first =>
    have H := HC14.out
    clear HC14
    by_cases c15 : (x8_4.length : Int) > 0
    ·rw [if_pos c15] at H
     have c15b0 : decide (0 < (x8_4.length : Int)) = true := decide_eq_true c15
     have c15b1 : decide (0 < x8_4.length) = true := decide_eq_true (by omega)
     clear c15
     (first | rw [c15b0] | (simp only [i64_w, i32_w]; rw [c15b0]) | skip)
     replace H := Option.bind_eq_some_iff.mp H
     obtain ⟨⟨t732, t733⟩, A160, H⟩ := H
     replace H : (spec_DrawServeFits.j1 kj4 t718 t721 x8_4 (t732 == 0) t715 t733) = some (r1, r2, r3) := H
     have A16 := Aside0.mk A160
     clear A160
     have H' := Aside0.mk H
     clear H
     obtain ⟨Ao17, co17, eo17⟩ := Kd.R_slice HO_8.out
     subst eo17
     go_wp2_with (first | (go_at_call 71; (with_reducible refine (spec_l6Rd_pick.calls kj4 g717 t715 t724 3 t732 t733 w _ ?side1 ?side2 A16.out).mono ?_); (case side1 => repeat (first | (with_reducible first | exact HI717.out | apply IsS83.alloc | apply IsS83.drewN | apply IsS83.drew | apply IsS83.set_1) | exact HI717.out)); (case side2 => repeat (first | (with_reducible first | exact HB.out | apply below_alloc | apply pw_below_drewN | apply below_drew1 | refine below_set ?_ (IsS83.ge HI717.out)) | exact HB.out)); rintro e w18 ⟨rfl, hi, hb, hk⟩; have n0_ := Aside0.mk (Kd.R_mono (Kd.R_keep (IsS83.apart (show IsS83 w _ g717 t715 t724 from by repeat (first | (with_reducible first | exact HI717.out | apply IsS83.alloc | apply IsS83.drewN | apply IsS83.drew | apply IsS83.set_1) | exact HI717.out)) (pR HO_6) (by decide)) hk (fun _ h => h.2)) (fun _ h => h.1)); have n1_ := Aside0.mk (Kd.R_mono (Kd.R_keep (IsS83.apart (show IsS83 w _ g717 t715 t724 from by repeat (first | (with_reducible first | exact HI717.out | apply IsS83.alloc | apply IsS83.drewN | apply IsS83.drew | apply IsS83.set_1) | exact HI717.out)) (pR HO_7) (by decide)) hk (fun _ h => h.2)) (fun _ h => h.1)); have n2_ := Aside0.mk (Kd.R_mono (Kd.R_keep (IsS83.apart (show IsS83 w _ g717 t715 t724 from by repeat (first | (with_reducible first | exact HI717.out | apply IsS83.alloc | apply IsS83.drewN | apply IsS83.drew | apply IsS83.set_1) | exact HI717.out)) (pR HO_8) (by decide)) hk (fun _ h => h.2)) (fun _ h => h.1)); have n3_ := Aside0.mk (hb); have n4_ := Aside0.mk (hi); clear HO_6; clear HO_7; clear HO_8; clear HB; clear HI717; have HO_6 := n0_; have HO_7 := n1_; have HO_8 := n2_; have HB := n3_; have HI717 := n4_; clear n0_ n1_ n2_ n3_ n4_; (try clear hb); (try clear hb2); (try clear hk); (try clear hi)))
     go_meet
     case rel => exact ⟨_, ((t732 == 0)), (t733), pF, H', ⟨by have := HJ4.out; first | omega | exact Nat.le_refl _⟩, ⟨pR HO_6⟩, ⟨pR HO_7⟩, ⟨pR HO_8⟩, ⟨by repeat (first | (with_reducible first | exact HI717.out | apply IsS83.alloc | apply IsS83.drewN | apply IsS83.drew | apply IsS83.set_1) | exact HI717.out)⟩, ⟨by repeat (first | (with_reducible first | exact HB.out | apply below_alloc | apply pw_below_drewN | apply below_drew1 | refine below_set ?_ (IsS83.ge HI717.out)) | exact HB.out)⟩⟩
    ·rw [if_neg c15] at H
     have c15b0 : decide (0 < (x8_4.length : Int)) = false := decide_eq_false c15
     have c15b1 : decide (0 < x8_4.length) = false := decide_eq_false (by omega)
     clear c15
     (first | rw [c15b0] | (simp only [i64_w, i32_w]; rw [c15b0]) | skip)
     have H' := Aside0.mk H
     clear H
     obtain ⟨Ao19, co19, eo19⟩ := Kd.R_slice HO_8.out
     subst eo19
     go_wp2
     go_meet
     case rel => exact ⟨_, (false), (t724), pF, H', ⟨by have := HJ4.out; first | omega | exact Nat.le_refl _⟩, ⟨pR HO_6⟩, ⟨pR HO_7⟩, ⟨pR HO_8⟩, ⟨by repeat (first | (with_reducible first | exact HI717.out | apply IsS83.alloc | apply IsS83.drewN | apply IsS83.drew | apply IsS83.set_1) | exact HI717.out)⟩, ⟨by repeat (first | (with_reducible first | exact HB.out | apply below_alloc | apply pw_below_drewN | apply below_drew1 | refine below_set ?_ (IsS83.ge HI717.out)) | exact HB.out)⟩⟩
   case rest =>
    clear HC14
    try clear c1
    try clear c2
    try clear p2
    try clear c4
    try clear c5
    try clear c11
    try clear c15
    try clear c15b0
    try clear c15b1
    try clear p2
    obtain ⟨kq, x35_13, x718001_13, rfl, HA, HJ13, HO_6, HO_7, HO_8, HI717, HB⟩ := hcut
    cases kq with
    | zero => exact absurd HA.out (by simp [spec_DrawServeFits.j1])
    | succ kj13 =>
     have H := HA.out
     clear HA
     simp only [spec_DrawServeFits.j1] at H
     by_cases c20 : x35_13 = true
     ·subst c20
      have H1 : ((spec_l6Rd_pick.f kj13 t715 x718001_13 (x8_4.length : Int)).bind fun bt734 => ((spec_l6Rd_pick.f kj13 t715 bt734.2 6).bind fun bt736 => (if 0 ≤ bt734.1 then (if bt734.1 < (x8_4.length : Int) then (some (t718, t721, (x8_4.set (bt734.1 : Int).toNat (wrap64 (bt736.1 - 1))))) else (none)) else (none)))) = some (r1, r2, r3) := by rw [if_pos rfl] at H; exact H
      clear H
      have H := H1
      clear H1
      replace H := Option.bind_eq_some_iff.mp H
      obtain ⟨⟨t734, t735⟩, A210, H⟩ := H
      replace H : ((spec_l6Rd_pick.f kj13 t715 t735 6).bind fun bt736 => (if 0 ≤ t734 then (if t734 < (x8_4.length : Int) then (some (t718, t721, (x8_4.set (t734 : Int).toNat (wrap64 (bt736.1 - 1))))) else (none)) else (none))) = some (r1, r2, r3) := H
      have A21 := Aside0.mk A210
      clear A210
      replace H := Option.bind_eq_some_iff.mp H
      obtain ⟨⟨t736, t737⟩, A220, H⟩ := H
      replace H : (if 0 ≤ t734 then (if t734 < (x8_4.length : Int) then (some (t718, t721, (x8_4.set (t734 : Int).toNat (wrap64 (t736 - 1))))) else (none)) else (none)) = some (r1, r2, r3) := H
      have A22 := Aside0.mk A220
      clear A220
      by_cases c23 : 0 ≤ t734
      ·rw [if_pos c23] at H
       have c23b0 : decide (0 ≤ t734) = true := decide_eq_true c23
       clear c23
       by_cases c24 : t734 < (x8_4.length : Int)
       ·rw [if_pos c24] at H
        have c24b0 : decide (t734 < (x8_4.length : Int)) = true := decide_eq_true c24
        clear c24
        obtain ⟨y738, hy738⟩ : ∃ y_ : List Int, y_ = (x8_4.set (t734 : Int).toNat (wrap64 (t736 - 1))) := ⟨_, rfl⟩
        replace H : (some (t718, t721, y738)) = some (r1, r2, r3) := by first | (rw [hy738]; with_reducible exact H) | (have H2_ := (Option.bind_some _ _).symm.trans H; rw [hy738]; with_reducible exact H2_) | (have H2_ := (Option.bind_some _ _).symm.trans H; with_reducible exact H2_) | with_reducible exact H | (rw [hy738]; exact H) | exact H
        have Ny738 := Aside0.mk hy738
        clear hy738
        simp only [Option.some.injEq, Prod.mk.injEq] at H
        obtain ⟨rfl, rfl, rfl⟩ := H
        obtain ⟨Ao26, co26, eo26⟩ := Kd.R_slice HO_8.out
        subst eo26
        go_wp2_with (first | ((with_reducible refine gate_callee (f := 71) rfl ?_); refine goesL_ (some 40) rfl rfl Try.func71 pL rfl #[.pointer (some ⟨g717, 0, none⟩), .int .i64 (x8_4.length : Int)] rfl pM ?_; (with_reducible refine (spec_l6Rd_pick.calls kj13 g717 t715 x718001_13 (x8_4.length : Int) t734 t735 w _ ?side1 ?side2 A21.out).mono ?_); (case side1 => repeat (first | (with_reducible first | exact HI717.out | apply IsS83.alloc | apply IsS83.drewN | apply IsS83.drew | apply IsS83.set_1) | exact HI717.out)); (case side2 => repeat (first | (with_reducible first | exact HB.out | apply below_alloc | apply pw_below_drewN | apply below_drew1 | refine below_set ?_ (IsS83.ge HI717.out)) | exact HB.out)); rintro e w27 ⟨rfl, hi, hb, hk⟩; refine ⟨_, rfl, ?_⟩; have n0_ := Aside0.mk (Kd.R_mono (Kd.R_keep (IsS83.apart (show IsS83 w _ g717 t715 x718001_13 from by repeat (first | (with_reducible first | exact HI717.out | apply IsS83.alloc | apply IsS83.drewN | apply IsS83.drew | apply IsS83.set_1) | exact HI717.out)) (pR HO_6) (by decide)) hk (fun _ h => h.2)) (fun _ h => h.1)); have n1_ := Aside0.mk (Kd.R_mono (Kd.R_keep (IsS83.apart (show IsS83 w _ g717 t715 x718001_13 from by repeat (first | (with_reducible first | exact HI717.out | apply IsS83.alloc | apply IsS83.drewN | apply IsS83.drew | apply IsS83.set_1) | exact HI717.out)) (pR HO_7) (by decide)) hk (fun _ h => h.2)) (fun _ h => h.1)); have n2_ := Aside0.mk (Kd.R_mono (Kd.R_keep (IsS83.apart (show IsS83 w _ g717 t715 x718001_13 from by repeat (first | (with_reducible first | exact HI717.out | apply IsS83.alloc | apply IsS83.drewN | apply IsS83.drew | apply IsS83.set_1) | exact HI717.out)) (pR HO_8) (by decide)) hk (fun _ h => h.2)) (fun _ h => h.1)); have n3_ := Aside0.mk (hb); have n4_ := Aside0.mk (hi); clear HO_6; clear HO_7; clear HO_8; clear HB; clear HI717; have HO_6 := n0_; have HO_7 := n1_; have HO_8 := n2_; have HB := n3_; have HI717 := n4_; clear n0_ n1_ n2_ n3_ n4_; (try clear hb); (try clear hb2); (try clear hk); (try clear hi)) | ((with_reducible refine gate_callee (f := 71) rfl ?_); refine goesL_ (some 42) rfl rfl Try.func71 pL rfl #[.pointer (some ⟨g717, 0, none⟩), .int .i64 6] rfl pM ?_; (with_reducible refine (spec_l6Rd_pick.calls kj13 g717 t715 t735 6 t736 t737 w _ ?side1 ?side2 A22.out).mono ?_); (case side1 => repeat (first | (with_reducible first | exact HI717.out | apply IsS83.alloc | apply IsS83.drewN | apply IsS83.drew | apply IsS83.set_1) | exact HI717.out)); (case side2 => repeat (first | (with_reducible first | exact HB.out | apply below_alloc | apply pw_below_drewN | apply below_drew1 | refine below_set ?_ (IsS83.ge HI717.out)) | exact HB.out)); rintro e w28 ⟨rfl, hi, hb, hk⟩; refine ⟨_, rfl, ?_⟩; have n0_ := Aside0.mk (Kd.R_mono (Kd.R_keep (IsS83.apart (show IsS83 w _ g717 t715 t735 from by repeat (first | (with_reducible first | exact HI717.out | apply IsS83.alloc | apply IsS83.drewN | apply IsS83.drew | apply IsS83.set_1) | exact HI717.out)) (pR HO_6) (by decide)) hk (fun _ h => h.2)) (fun _ h => h.1)); have n1_ := Aside0.mk (Kd.R_mono (Kd.R_keep (IsS83.apart (show IsS83 w _ g717 t715 t735 from by repeat (first | (with_reducible first | exact HI717.out | apply IsS83.alloc | apply IsS83.drewN | apply IsS83.drew | apply IsS83.set_1) | exact HI717.out)) (pR HO_7) (by decide)) hk (fun _ h => h.2)) (fun _ h => h.1)); have n2_ := Aside0.mk (Kd.R_mono (Kd.R_keep (IsS83.apart (show IsS83 w _ g717 t715 t735 from by repeat (first | (with_reducible first | exact HI717.out | apply IsS83.alloc | apply IsS83.drewN | apply IsS83.drew | apply IsS83.set_1) | exact HI717.out)) (pR HO_8) (by decide)) hk (fun _ h => h.2)) (fun _ h => h.1)); have n3_ := Aside0.mk (hb); have n4_ := Aside0.mk (hi); clear HO_6; clear HO_7; clear HO_8; clear HB; clear HI717; have HO_6 := n0_; have HO_7 := n1_; have HO_8 := n2_; have HB := n3_; have HI717 := n4_; clear n0_ n1_ n2_ n3_ n4_; (try clear hb); (try clear hb2); (try clear hk); (try clear hi); have p25 : 0 ≤ (t734 : Int) := of_decide_eq_true pA; have q25 : (t734 : Int) < ((x8_4.length : Int) : Int) := of_decide_eq_true pA; obtain ⟨go25, co25, eo25, gb25, gl25, cl25, HG25⟩ := Kd.R_form HO_8.out (by omega); (first | cases eo25 | (injection eo25 with ea_ en_ ec_; (first | subst ea_ | (injection ea_ with ea_; subst ea_)); subst ec_; clear en_)); have GB25 := Aside0.mk gb25; have GG25 := Aside0.mk HG25; clear gb25 gl25 HG25; obtain ⟨hx25_0, hf25_0⟩ := Kd.R_celln 0 HO_8.out (t734 : Int) p25 q25; replace p25 := eq_true p25; replace q25 := eq_true q25; obtain ⟨hy29_, hz29_⟩ := Kd.R_celln 0 HO_8.out (t734 : Int) (of_decide_eq_true pA) (of_decide_eq_true pA); have HP29 := Kd.R_putg HO_8.out (t734 : Int) (wrap64 (t736 - 1))) | ((with_reducible refine gate_store (t := 3) (p := 44) rfl ?_); refine store_event (t := 3) (p := 44) (v := ?vo_w30) (w1 := (w28.setCell ⟨go25, (t734 : Int).toNat, none⟩ (.int .i64 (wrap64 (t736 - 1))))) ?hg ?ho ?hn ?hr ?_; (case ho => rfl); (case hg => rfl); (case hn => rfl); (case hr => first | (go_simp; done) | (go_simp; rfl)); intro w30 hw; have hg : w28.grownBy w30 (some go25) := (by rw [hw]; exact HP29.2); have hp_ : Kd.R (Kd.int .i64) 3 w30 w.heap.size (fun _ => True) (.slice (some ⟨go25, 0, none⟩) x8_4.length co26) y738 := (by rw [hw, Ny738.out]; exact HP29.1); clear HP29; have n0_ := Aside0.mk (Kd.R_over' (v := (.slice (some ⟨go25, 0, none⟩) x8_4.length co26)) (pR HO_6) (Kd.R_typed HO_8.out) (by decide) hg); have n1_ := Aside0.mk (Kd.R_over' (v := (.slice (some ⟨go25, 0, none⟩) x8_4.length co26)) (pR HO_7) (Kd.R_typed HO_8.out) (by decide) hg); have n2_ := Aside0.mk (hp_); have n3_ := Aside0.mk (IsS83.grown (by repeat (first | (with_reducible first | exact HI717.out | apply IsS83.alloc | apply IsS83.drewN | apply IsS83.drew | apply IsS83.set_1) | exact HI717.out)) hg (IsS83.own_ne HI717.out HO_8.out (by decide))); have n4_ := Aside0.mk ((by rw [hw]; exact below_set (HB.out) GB25.out : Below w.heap.size w w30)); clear HO_6; clear HO_7; clear HO_8; clear HI717; clear HB; have HO_6 := n0_; have HO_7 := n1_; have HO_8 := n2_; have HI717 := n3_; have HB := n4_; clear n0_ n1_ n2_ n3_ n4_; clear hg hw hp_))
        go_ret3
        exact ⟨_, _, _, pE, pR HO_6, pR HO_7, pR HO_8, by repeat (first | (with_reducible first | exact HB.out | apply below_alloc | apply pw_below_drewN | apply below_drew1 | refine below_set ?_ (IsS83.ge HI717.out)) | exact HB.out)⟩
       ·rw [if_neg c24] at H
        exact absurd H (by simp)
      ·rw [if_neg c23] at H
       exact absurd H (by simp)
     ·replace c20 := Bool.eq_false_iff.mpr c20
      subst c20
      have H1 : (some (t718, t721, x8_4)) = some (r1, r2, r3) := by rw [if_neg (show ¬ (false = true) by decide)] at H; exact H
      clear H
      have H := H1
      clear H1
      simp only [Option.some.injEq, Prod.mk.injEq] at H
      obtain ⟨rfl, rfl, rfl⟩ := H
      go_wp2
      go_ret3
      exact ⟨_, _, _, pE, pR HO_6, pR HO_7, pR HO_8, by repeat (first | (with_reducible first | exact HB.out | apply below_alloc | apply pw_below_drewN | apply below_drew1 | refine below_set ?_ (IsS83.ge HI717.out)) | exact HB.out)⟩

end Go.Proofs.Ytehenjjaekkcfaa.Q
