-- Written by the kit's print.py for all laws of the seat at once (one namespace), by a program of this session.
import Derived.Test.YtehenjjaekkcfaaQx0
import Derived.Test.YtehenjjaekkcfaaQx13
import Derived.Test.YtehenjjaekkcfaaQx16
import Derived.Test.YtehenjjaekkcfaaQx21
import Derived.Test.YtehenjjaekkcfaaQx22
import Derived.Test.YtehenjjaekkcfaaQx26
import Derived.Test.YtehenjjaekkcfaaQx27
namespace Go.Proofs.Ytehenjjaekkcfaa.Q
open Go.RowKit Go.Proofs.YtehenjjaekkcfaaW.PrintWords Go.Proofs.YtehenjjaekkcfaaW.PrintLast Go.Proofs.YtehenjjaekkcfaaW.PrintMore
attribute [local go_sem] max2_int min2_int max_two min_two max_three min_three max_four min_four   -- for this text's walks alone
set_option linter.unusedVariables false
set_option linter.unusedSimpArgs false

/-! ### laws_FnServeRoom: function 13 -/
def laws_FnServeRoom.j0 : Nat → List (S43) → List (S32) → List Int → Bool → List Int → Bool → Bool → Option (Bool)
 | 0, _, _, _, _, _, _, _ => none
 | k + 1, x3, x4, x5, x6, x7, x8, x41 => if x41 = true then (if (x6 == x8) = true then ((laws_sameInts.f k x5 x7).bind fun t819 => (some t819)) else (some false)) else ((impl_ServeFits.f k x3 x4 x5).bind fun t820 => (if t820 = true then ((impl_ServeGaps.f k x3 x4).bind fun t821 => (some ((t821.length : Int) == 0))) else (some false)))
def laws_FnServeRoom.f (k : Nat) (l0 : List Int) : Option (Bool) := if (l0.length : Int) > 1048576 then (some true) else ((spec_DrawServeRoom.f k l0).bind fun bt804 => ((impl_ServeRoom.f k bt804.1 bt804.2).bind fun bt810 => ((spec_ServeRoom.f k bt804.1 bt804.2).bind fun bt814 => (if (bt810.2 != bt814.2) = true then (laws_FnServeRoom.j0 k bt804.1 bt804.2 bt810.1 bt810.2 bt814.1 bt814.2 true) else ((laws_sameInts.f k bt810.1 bt814.1).bind fun t818 => (if t818 = true then (laws_FnServeRoom.j0 k bt804.1 bt804.2 bt810.1 bt810.2 bt814.1 bt814.2 (!bt810.2)) else (laws_FnServeRoom.j0 k bt804.1 bt804.2 bt810.1 bt810.2 bt814.1 bt814.2 true)))))))
theorem laws_FnServeRoom.mono_l : ∀ k, (∀ y0 y1 y2 y3 y4 y5 y6, LeO (laws_FnServeRoom.j0 k y0 y1 y2 y3 y4 y5 y6) (laws_FnServeRoom.j0 (k + 1) y0 y1 y2 y3 y4 y5 y6))
 | 0 => fun _ _ _ _ _ _ _ r h => by simp [laws_FnServeRoom.j0] at h
 | k + 1 => by
  have ih0 := laws_FnServeRoom.mono_l k
  ·intro y0 y1 y2 y3 y4 y5 y6
   unfold laws_FnServeRoom.j0
   repeat' first
   | (with_reducible exact ih0 _ _ _ _ _ _ _)
   | (with_reducible exact impl_ServeFits.mono _ _ _ _)
   | (with_reducible exact impl_ServeGaps.mono _ _ _)
   | (with_reducible exact impl_ServeRoom.mono _ _ _)
   | (with_reducible exact laws_sameInts.mono _ _ _)
   | (with_reducible exact spec_DrawServeRoom.mono _ _)
   | (with_reducible exact spec_ServeRoom.mono _ _ _)
   | (with_reducible exact LeO.refl _)
   | (with_reducible exact LeO.none _)
   | (with_reducible refine LeO.ite ?_ ?_)
   | (with_reducible refine LeO.bind ?_ (fun _ => ?_))
   | exact ih0 _ _ _ _ _ _ _
   | exact impl_ServeFits.mono _ _ _ _
   | exact impl_ServeGaps.mono _ _ _
   | exact impl_ServeRoom.mono _ _ _
   | exact laws_sameInts.mono _ _ _
   | exact spec_DrawServeRoom.mono _ _
   | exact spec_ServeRoom.mono _ _ _
   | exact LeO.none _
   | refine LeO.ite ?_ ?_
   | refine LeO.bind ?_ (fun _ => ?_)
theorem laws_FnServeRoom.mono : ∀ a0 k, LeO (laws_FnServeRoom.f k a0) (laws_FnServeRoom.f (k + 1) a0) := by
 intro a0 k
 have ih0 := laws_FnServeRoom.mono_l k
 unfold laws_FnServeRoom.f
 repeat' first
   | (with_reducible exact ih0 _ _ _ _ _ _ _)
   | (with_reducible exact impl_ServeFits.mono _ _ _ _)
   | (with_reducible exact impl_ServeGaps.mono _ _ _)
   | (with_reducible exact impl_ServeRoom.mono _ _ _)
   | (with_reducible exact laws_sameInts.mono _ _ _)
   | (with_reducible exact spec_DrawServeRoom.mono _ _)
   | (with_reducible exact spec_ServeRoom.mono _ _ _)
   | (with_reducible exact LeO.refl _)
   | (with_reducible exact LeO.none _)
   | (with_reducible refine LeO.ite ?_ ?_)
   | (with_reducible refine LeO.bind ?_ (fun _ => ?_))
   | exact ih0 _ _ _ _ _ _ _
   | exact impl_ServeFits.mono _ _ _ _
   | exact impl_ServeGaps.mono _ _ _
   | exact impl_ServeRoom.mono _ _ _
   | exact laws_sameInts.mono _ _ _
   | exact spec_DrawServeRoom.mono _ _
   | exact spec_ServeRoom.mono _ _ _
   | exact LeO.none _
   | refine LeO.ite ?_ ?_
   | refine LeO.bind ?_ (fun _ => ?_)
set_option maxHeartbeats 8000000 in
set_option maxRecDepth 100000 in
theorem laws_FnServeRoom.calls (k : Nat) (A0 : Option Addr) (c0 : Nat) (l0 : List Int) (r : Bool) (w : World) (hr0 : Kd.C (Kd.int .u8) w A0 l0.length l0) (hc0 : l0.length ≤ c0) (h : laws_FnServeRoom.f k l0 = some r) :
  Calls Try.prog 13 #[.slice A0 l0.length c0] w fun e w' => e = .returned (.bool r) ∧ Below w.heap.size w w' := by
 have HR0 := Aside0.mk hr0
 have HC0 := Aside0.mk hc0
 clear hr0 hc0
 have HB := Aside0.mk (Below.refl w.heap.size w)
 have H : (if (l0.length : Int) > 1048576 then (some true) else ((spec_DrawServeRoom.f k l0).bind fun bt804 => ((impl_ServeRoom.f k bt804.1 bt804.2).bind fun bt810 => ((spec_ServeRoom.f k bt804.1 bt804.2).bind fun bt814 => (if (bt810.2 != bt814.2) = true then (laws_FnServeRoom.j0 k bt804.1 bt804.2 bt810.1 bt810.2 bt814.1 bt814.2 true) else ((laws_sameInts.f k bt810.1 bt814.1).bind fun t818 => (if t818 = true then (laws_FnServeRoom.j0 k bt804.1 bt804.2 bt810.1 bt810.2 bt814.1 bt814.2 (!bt810.2)) else (laws_FnServeRoom.j0 k bt804.1 bt804.2 bt810.1 bt810.2 bt814.1 bt814.2 true)))))))) = some r := h
 clear h
 by_cases c2 : (l0.length : Int) > 1048576
 ·rw [if_pos c2] at H
  have c2b0 : decide (1048576 < (l0.length : Int)) = true := decide_eq_true c2
  have c2b1 : decide (1048576 < l0.length) = true := decide_eq_true (by omega)
  clear c2
  obtain rfl := Option.some.inj H
  go_enter Try.func13, Try.ntmps13
  go_wp2
  go_ret
  exact ⟨pE, pB⟩
 ·rw [if_neg c2] at H
  have c2b0 : decide (1048576 < (l0.length : Int)) = false := decide_eq_false c2
  have c2b1 : decide (1048576 < l0.length) = false := decide_eq_false (by omega)
  clear c2
  replace H := Option.bind_eq_some_iff.mp H
  obtain ⟨⟨t804, t805⟩, A30, H⟩ := H
  replace H : ((impl_ServeRoom.f k t804 t805).bind fun bt810 => ((spec_ServeRoom.f k t804 t805).bind fun bt814 => (if (bt810.2 != bt814.2) = true then (laws_FnServeRoom.j0 k t804 t805 bt810.1 bt810.2 bt814.1 bt814.2 true) else ((laws_sameInts.f k bt810.1 bt814.1).bind fun t818 => (if t818 = true then (laws_FnServeRoom.j0 k t804 t805 bt810.1 bt810.2 bt814.1 bt814.2 (!bt810.2)) else (laws_FnServeRoom.j0 k t804 t805 bt810.1 bt810.2 bt814.1 bt814.2 true)))))) = some r := H
  have A3 := Aside0.mk A30
  clear A30
  replace H := Option.bind_eq_some_iff.mp H
  obtain ⟨⟨t810, t811⟩, A40, H⟩ := H
  replace H : ((spec_ServeRoom.f k t804 t805).bind fun bt814 => (if (t811 != bt814.2) = true then (laws_FnServeRoom.j0 k t804 t805 t810 t811 bt814.1 bt814.2 true) else ((laws_sameInts.f k t810 bt814.1).bind fun t818 => (if t818 = true then (laws_FnServeRoom.j0 k t804 t805 t810 t811 bt814.1 bt814.2 (!t811)) else (laws_FnServeRoom.j0 k t804 t805 t810 t811 bt814.1 bt814.2 true))))) = some r := H
  have A4 := Aside0.mk A40
  clear A40
  replace H := Option.bind_eq_some_iff.mp H
  obtain ⟨⟨t814, t815⟩, A50, H⟩ := H
  replace H : (if (t811 != t815) = true then (laws_FnServeRoom.j0 k t804 t805 t810 t811 t814 t815 true) else ((laws_sameInts.f k t810 t814).bind fun t818 => (if t818 = true then (laws_FnServeRoom.j0 k t804 t805 t810 t811 t814 t815 (!t811)) else (laws_FnServeRoom.j0 k t804 t805 t810 t811 t814 t815 true)))) = some r := H
  have A5 := Aside0.mk A50
  clear A50
  have HC6 := Aside0.mk H
  clear H
  go_enter Try.func13, Try.ntmps13
  go_upto_region 6 with (first | ((with_reducible refine gate_callee (f := 43) rfl ?_); refine goesL_ (some 14) rfl rfl Try.func43 pL rfl #[.slice A0 l0.length c0] rfl pM ?_; (with_reducible refine (spec_DrawServeRoom.calls k _ _ l0 t804 t805 _ ?side1 ?side2 A3.out).mono ?_); (case side1 => exact pS (HR0.out)); (case side2 => exact HC0.out); rintro e w7 ⟨v806, v808, rfl, ho0, ho1, hb⟩; refine ⟨_, rfl, ?_⟩; have n0_ := Aside0.mk (Kd.R_lower ho0 (below_size pB)); have n1_ := Aside0.mk (Kd.R_lower ho1 (below_size pB)); have n2_ := Aside0.mk (below_step pB hb); clear HB; have HO807 := n0_; have HO809 := n1_; have HB := n2_; clear n0_ n1_ n2_; (try clear hb); (try clear hb2); (try clear hk); (try clear hi); (try clear ho0); (try clear ho1); obtain ⟨Ao8, co8, eo8⟩ := Kd.R_slice HO807.out; subst eo8; obtain ⟨Ao9, co9, eo9⟩ := Kd.R_slice HO809.out; subst eo9) | ((with_reducible refine gate_callee (f := 38) rfl ?_); refine goesL_ (some 20) rfl rfl Try.func38 pL rfl #[.slice Ao8 t804.length co8, .slice Ao9 t805.length co9] rfl pM ?_; (with_reducible refine (impl_ServeRoom.calls k _ _ t804 _ _ t805 t810 t811 _ ?side1 ?side2 ?side3 ?side4 A4.out).mono ?_); (case side1 => exact pS ((Kd.R_reads' HO807.out).2.2)); (case side2 => exact (Kd.R_reads' HO807.out).2.1); (case side3 => exact pS ((Kd.R_reads' HO809.out).2.2)); (case side4 => exact (Kd.R_reads' HO809.out).2.1); rintro e w10 ⟨v812, rfl, ho0, hb⟩; refine ⟨_, rfl, ?_⟩; have n0_ := Aside0.mk (Kd.R_below (pR HO807) hb); have n1_ := Aside0.mk (Kd.R_below (pR HO809) hb); have n2_ := Aside0.mk (Kd.R_lower ho0 (below_size pB)); have n3_ := Aside0.mk (below_step pB hb); clear HO807; clear HO809; clear HB; have HO807 := n0_; have HO809 := n1_; have HO813 := n2_; have HB := n3_; clear n0_ n1_ n2_ n3_; (try clear hb); (try clear hb2); (try clear hk); (try clear hi); (try clear ho0)) | ((with_reducible refine gate_callee (f := 44) rfl ?_); refine goesL_ (some 26) rfl rfl Try.func44 pL rfl #[.slice Ao8 t804.length co8, .slice Ao9 t805.length co9] rfl pM ?_; (with_reducible refine (spec_ServeRoom.calls k _ _ t804 _ _ t805 t814 t815 _ ?side1 ?side2 ?side3 ?side4 A5.out).mono ?_); (case side1 => exact pS ((Kd.R_reads' HO807.out).2.2)); (case side2 => exact (Kd.R_reads' HO807.out).2.1); (case side3 => exact pS ((Kd.R_reads' HO809.out).2.2)); (case side4 => exact (Kd.R_reads' HO809.out).2.1); rintro e w11 ⟨v816, rfl, ho0, hb⟩; refine ⟨_, rfl, ?_⟩; have n0_ := Aside0.mk (Kd.R_below (pR HO807) hb); have n1_ := Aside0.mk (Kd.R_below (pR HO809) hb); have n2_ := Aside0.mk (Kd.R_elder' (pR HO813) (Kd.R_base ho0) hb); have n3_ := Aside0.mk (Kd.R_lower (Kd.R_new' ho0 (Kd.R_lt (pR HO813))) (below_size pB)); have n4_ := Aside0.mk (below_step pB hb); clear HO807; clear HO809; clear HO813; clear HB; have HO807 := n0_; have HO809 := n1_; have HO813 := n2_; have HO817 := n3_; have HB := n4_; clear n0_ n1_ n2_ n3_ n4_; (try clear hb); (try clear hb2); (try clear hk); (try clear hi); (try clear ho0)))
  (try simp only [Act.put, List.setIfInBounds_toArray, List.set_cons_zero, List.set_cons_succ])
  go_cut [41] (fun v41 wc => ∃ (kq : Nat) (x41_5 : Bool), v41 = .bool x41_5 ∧ Aside0 (laws_FnServeRoom.j0 kq t804 t805 t810 t811 t814 t815 x41_5 = some r) ∧ Aside0 (kq ≤ k) ∧ Aside0 (Kd.R k43 43 wc w.heap.size (fun _ => True) (.slice Ao8 t804.length co8) t804) ∧ Aside0 (Kd.R k32 32 wc w.heap.size (fun _ => True) (.slice Ao9 t805.length co9) t805) ∧ Aside0 (Kd.R (Kd.int .i64) 3 wc w.heap.size (fun k_ => some k_ ≠ (v816 : Value).ownBlock) v812 t810) ∧ Aside0 (Kd.R (Kd.int .i64) 3 wc w.heap.size (fun k_ => some k_ ≠ (v812 : Value).ownBlock) v816 t814) ∧ Aside0 (Below w.heap.size w wc))
  case first =>
   have H := HC6.out
   clear HC6
   by_cases c12 : (t811 != t815) = true
   ·rw [if_pos c12] at H
    have c12b0 : (t811 != t815) = true := c12
    (try (have c12b1 : decide (t811 = t815) = false := by simpa using c12))
    (try (have c12b2 : (t811 == t815) = false := by simpa using c12))
    (try (have c12b3 : ¬ (t811 = t815) := by simpa using c12))
    clear c12
    (first | rw [c12b0] | (simp only [i64_w, i32_w]; rw [c12b0]) | skip)
    have H' := Aside0.mk H
    clear H
    go_wp2
    go_meet
    case rel => exact ⟨_, (true), pF, H', ⟨by first | omega | exact Nat.le_refl _⟩, ⟨pR HO807⟩, ⟨pR HO809⟩, ⟨by (with_reducible repeat (first | apply Kd.R_alloc | apply Kd.R_drewN | apply Kd.R_drew)); exact Kd.R_mono HO813.out (fun _ hk => hk.2)⟩, ⟨by (with_reducible repeat (first | apply Kd.R_alloc | apply Kd.R_drewN | apply Kd.R_drew)); exact Kd.R_mono HO817.out (fun _ hk => hk.2)⟩, ⟨pB⟩⟩
   ·rw [if_neg c12] at H
    have c12b0 : (t811 != t815) = false := by simpa using c12
    (try (have c12b1 : decide (t811 = t815) = true := by simpa using c12))
    (try (have c12b2 : (t811 == t815) = true := by simpa using c12))
    clear c12
    (first | rw [c12b0] | (simp only [i64_w, i32_w]; rw [c12b0]) | skip)
    replace H := Option.bind_eq_some_iff.mp H
    obtain ⟨t818, A130, H⟩ := H
    replace H : (if t818 = true then (laws_FnServeRoom.j0 k t804 t805 t810 t811 t814 t815 (!t811)) else (laws_FnServeRoom.j0 k t804 t805 t810 t811 t814 t815 true)) = some r := H
    have A13 := Aside0.mk A130
    clear A130
    by_cases c14 : t818 = true
    ·subst c14
     have H1 : (laws_FnServeRoom.j0 k t804 t805 t810 t811 t814 t815 (!t811)) = some r := by rw [if_pos rfl] at H; exact H
     clear H
     have H := H1
     clear H1
     have H' := Aside0.mk H
     clear H
     obtain ⟨Ao15, co15, eo15⟩ := Kd.R_slice HO813.out
     subst eo15
     obtain ⟨Ao16, co16, eo16⟩ := Kd.R_slice HO817.out
     subst eo16
     go_wp2_with (first | (go_at_call 25; (with_reducible refine (laws_sameInts.calls k _ _ t810 _ _ t814 true _ ?side1 ?side2 ?side3 ?side4 A13.out).mono ?_); (case side1 => exact pS ((Kd.R_reads' HO813.out).2.2)); (case side2 => exact (Kd.R_reads' HO813.out).2.1); (case side3 => exact pS ((Kd.R_reads' HO817.out).2.2)); (case side4 => exact (Kd.R_reads' HO817.out).2.1); rintro e w' ⟨rfl, ⟨nd, rfl⟩⟩))
     go_meet
     case rel => exact ⟨_, (!t811), pF, H', ⟨by first | omega | exact Nat.le_refl _⟩, ⟨pR HO807⟩, ⟨pR HO809⟩, ⟨by (with_reducible repeat (first | apply Kd.R_alloc | apply Kd.R_drewN | apply Kd.R_drew)); exact Kd.R_mono HO813.out (fun _ hk => hk.2)⟩, ⟨by (with_reducible repeat (first | apply Kd.R_alloc | apply Kd.R_drewN | apply Kd.R_drew)); exact Kd.R_mono HO817.out (fun _ hk => hk.2)⟩, ⟨pB⟩⟩
    ·replace c14 := Bool.eq_false_iff.mpr c14
     subst c14
     have H1 : (laws_FnServeRoom.j0 k t804 t805 t810 t811 t814 t815 true) = some r := by rw [if_neg (show ¬ (false = true) by decide)] at H; exact H
     clear H
     have H := H1
     clear H1
     have H' := Aside0.mk H
     clear H
     obtain ⟨Ao17, co17, eo17⟩ := Kd.R_slice HO813.out
     subst eo17
     obtain ⟨Ao18, co18, eo18⟩ := Kd.R_slice HO817.out
     subst eo18
     go_wp2_with (first | (go_at_call 25; (with_reducible refine (laws_sameInts.calls k _ _ t810 _ _ t814 false _ ?side1 ?side2 ?side3 ?side4 A13.out).mono ?_); (case side1 => exact pS ((Kd.R_reads' HO813.out).2.2)); (case side2 => exact (Kd.R_reads' HO813.out).2.1); (case side3 => exact pS ((Kd.R_reads' HO817.out).2.2)); (case side4 => exact (Kd.R_reads' HO817.out).2.1); rintro e w' ⟨rfl, ⟨nd, rfl⟩⟩))
     go_meet
     case rel => exact ⟨_, (true), pF, H', ⟨by first | omega | exact Nat.le_refl _⟩, ⟨pR HO807⟩, ⟨pR HO809⟩, ⟨by (with_reducible repeat (first | apply Kd.R_alloc | apply Kd.R_drewN | apply Kd.R_drew)); exact Kd.R_mono HO813.out (fun _ hk => hk.2)⟩, ⟨by (with_reducible repeat (first | apply Kd.R_alloc | apply Kd.R_drewN | apply Kd.R_drew)); exact Kd.R_mono HO817.out (fun _ hk => hk.2)⟩, ⟨pB⟩⟩
  case rest =>
   clear HC6
   try clear c1
   try clear c2
   try clear c2b0
   try clear c2b1
   try clear p2
   try clear c3
   try clear c4
   try clear c12
   try clear c12b0
   try clear c12b1
   try clear c12b2
   try clear c13
   try clear c14
   obtain ⟨kq, x41_5, rfl, HA, HJ5, HO_3, HO_4, HO_5, HO_7, HB⟩ := hcut
   cases kq with
   | zero => exact absurd HA.out (by simp [laws_FnServeRoom.j0])
   | succ kj5 =>
    have H := HA.out
    clear HA
    simp only [laws_FnServeRoom.j0] at H
    by_cases c19 : x41_5 = true
    ·subst c19
     have H1 : (if (t811 == t815) = true then ((laws_sameInts.f kj5 t810 t814).bind fun t819 => (some t819)) else (some false)) = some r := by rw [if_pos rfl] at H; exact H
     clear H
     have H := H1
     clear H1
     by_cases c20 : (t811 == t815) = true
     ·rw [if_pos c20] at H
      have c20b0 : (t811 == t815) = true := c20
      (try (have c20b1 : decide (t811 = t815) = true := by simpa using c20))
      (try (have c20b2 : (t811 == t815) = true := by simpa using c20))
      clear c20
      replace H := Option.bind_eq_some_iff.mp H
      obtain ⟨t819, A210, H⟩ := H
      replace H : (some t819) = some r := H
      have A21 := Aside0.mk A210
      clear A210
      obtain rfl := Option.some.inj H
      obtain ⟨Ao22, co22, eo22⟩ := Kd.R_slice HO_5.out
      subst eo22
      obtain ⟨Ao23, co23, eo23⟩ := Kd.R_slice HO_7.out
      subst eo23
      go_wp2_with (first | (go_at_call 25; (with_reducible refine (laws_sameInts.calls kj5 _ _ t810 _ _ t814 t819 _ ?side1 ?side2 ?side3 ?side4 A21.out).mono ?_); (case side1 => exact pS ((Kd.R_reads' HO_5.out).2.2)); (case side2 => exact (Kd.R_reads' HO_5.out).2.1); (case side3 => exact pS ((Kd.R_reads' HO_7.out).2.2)); (case side4 => exact (Kd.R_reads' HO_7.out).2.1); rintro e w' ⟨rfl, ⟨nd, rfl⟩⟩))
      go_ret
      exact ⟨pE, pB⟩
     ·rw [if_neg c20] at H
      have c20b0 : (t811 == t815) = false := by simpa using c20
      (try (have c20b1 : decide (t811 = t815) = false := by simpa using c20))
      (try (have c20b2 : (t811 == t815) = false := by simpa using c20))
      (try (have c20b3 : ¬ (t811 = t815) := by simpa using c20))
      clear c20
      obtain rfl := Option.some.inj H
      go_wp2
      go_ret
      exact ⟨pE, pB⟩
    ·replace c19 := Bool.eq_false_iff.mpr c19
     subst c19
     have H1 : ((impl_ServeFits.f kj5 t804 t805 t810).bind fun t820 => (if t820 = true then ((impl_ServeGaps.f kj5 t804 t805).bind fun t821 => (some ((t821.length : Int) == 0))) else (some false))) = some r := by rw [if_neg (show ¬ (false = true) by decide)] at H; exact H
     clear H
     have H := H1
     clear H1
     replace H := Option.bind_eq_some_iff.mp H
     obtain ⟨t820, A240, H⟩ := H
     replace H : (if t820 = true then ((impl_ServeGaps.f kj5 t804 t805).bind fun t821 => (some ((t821.length : Int) == 0))) else (some false)) = some r := H
     have A24 := Aside0.mk A240
     clear A240
     by_cases c25 : t820 = true
     ·subst c25
      have H1 : ((impl_ServeGaps.f kj5 t804 t805).bind fun t821 => (some ((t821.length : Int) == 0))) = some r := by rw [if_pos rfl] at H; exact H
      clear H
      have H := H1
      clear H1
      replace H := Option.bind_eq_some_iff.mp H
      obtain ⟨t821, A260, H⟩ := H
      replace H : (some ((t821.length : Int) == 0)) = some r := H
      have A26 := Aside0.mk A260
      clear A260
      obtain rfl := Option.some.inj H
      obtain ⟨Ao27, co27, eo27⟩ := Kd.R_slice HO_5.out
      subst eo27
      go_wp2_with (first | ((with_reducible refine gate_callee (f := 35) rfl ?_); refine goesL_ (some 53) rfl rfl Try.func35 pL rfl #[.slice Ao8 t804.length co8, .slice Ao9 t805.length co9, .slice Ao27 t810.length co27] rfl pM ?_; (with_reducible refine (impl_ServeFits.calls kj5 _ _ t804 _ _ t805 _ _ t810 true _ ?side1 ?side2 ?side3 ?side4 ?side5 ?side6 A24.out).mono ?_); (case side1 => exact pS ((Kd.R_reads' HO_3.out).2.2)); (case side2 => exact (Kd.R_reads' HO_3.out).2.1); (case side3 => exact pS ((Kd.R_reads' HO_4.out).2.2)); (case side4 => exact (Kd.R_reads' HO_4.out).2.1); (case side5 => exact pS ((Kd.R_reads' HO_5.out).2.2)); (case side6 => exact (Kd.R_reads' HO_5.out).2.1); rintro e w28 ⟨rfl, hb⟩; refine ⟨_, rfl, ?_⟩; have n0_ := Aside0.mk (Kd.R_below (pR HO_3) hb); have n1_ := Aside0.mk (Kd.R_below (pR HO_4) hb); have n2_ := Aside0.mk (Kd.R_below (pR HO_5) hb); have n3_ := Aside0.mk (Kd.R_below (pR HO_7) hb); have n4_ := Aside0.mk (below_step pB hb); clear HO_3; clear HO_4; clear HO_5; clear HO_7; clear HB; have HO_3 := n0_; have HO_4 := n1_; have HO_5 := n2_; have HO_7 := n3_; have HB := n4_; clear n0_ n1_ n2_ n3_ n4_; (try clear hb); (try clear hb2); (try clear hk); (try clear hi)) | (go_at_call 29; (with_reducible refine (impl_ServeGaps.calls kj5 _ _ t804 _ _ t805 t821 _ ?side1 ?side2 ?side3 ?side4 A26.out).mono ?_); (case side1 => exact pS ((Kd.R_reads' HO_3.out).2.2)); (case side2 => exact (Kd.R_reads' HO_3.out).2.1); (case side3 => exact pS ((Kd.R_reads' HO_4.out).2.2)); (case side4 => exact (Kd.R_reads' HO_4.out).2.1); rintro e w29 ⟨v822, rfl, ho0, hb⟩; have n0_ := Aside0.mk (Kd.R_below (pR HO_3) hb); have n1_ := Aside0.mk (Kd.R_below (pR HO_4) hb); have n2_ := Aside0.mk (Kd.R_elder' (pR HO_5) (Kd.R_base ho0) hb); have n3_ := Aside0.mk (Kd.R_elder' (pR HO_7) (Kd.R_base ho0) hb); have n4_ := Aside0.mk (Kd.R_lower (Kd.R_new' (Kd.R_new' ho0 (Kd.R_lt (pR HO_5))) (Kd.R_lt (pR HO_7))) (below_size pB)); have n5_ := Aside0.mk (below_step pB hb); clear HO_3; clear HO_4; clear HO_5; clear HO_7; clear HB; have HO_3 := n0_; have HO_4 := n1_; have HO_5 := n2_; have HO_7 := n3_; have HO823 := n4_; have HB := n5_; clear n0_ n1_ n2_ n3_ n4_ n5_; (try clear hb); (try clear hb2); (try clear hk); (try clear hi); (try clear ho0); obtain ⟨Ao30, co30, eo30⟩ := Kd.R_slice HO823.out; subst eo30))
      go_ret
      exact ⟨pE, pB⟩
     ·replace c25 := Bool.eq_false_iff.mpr c25
      subst c25
      have H1 : (some false) = some r := by rw [if_neg (show ¬ (false = true) by decide)] at H; exact H
      clear H
      have H := H1
      clear H1
      obtain rfl := Option.some.inj H
      obtain ⟨Ao31, co31, eo31⟩ := Kd.R_slice HO_5.out
      subst eo31
      go_wp2_with (first | ((with_reducible refine gate_callee (f := 35) rfl ?_); refine goesL_ (some 53) rfl rfl Try.func35 pL rfl #[.slice Ao8 t804.length co8, .slice Ao9 t805.length co9, .slice Ao31 t810.length co31] rfl pM ?_; (with_reducible refine (impl_ServeFits.calls kj5 _ _ t804 _ _ t805 _ _ t810 false _ ?side1 ?side2 ?side3 ?side4 ?side5 ?side6 A24.out).mono ?_); (case side1 => exact pS ((Kd.R_reads' HO_3.out).2.2)); (case side2 => exact (Kd.R_reads' HO_3.out).2.1); (case side3 => exact pS ((Kd.R_reads' HO_4.out).2.2)); (case side4 => exact (Kd.R_reads' HO_4.out).2.1); (case side5 => exact pS ((Kd.R_reads' HO_5.out).2.2)); (case side6 => exact (Kd.R_reads' HO_5.out).2.1); rintro e w32 ⟨rfl, hb⟩; refine ⟨_, rfl, ?_⟩; have n0_ := Aside0.mk (Kd.R_below (pR HO_3) hb); have n1_ := Aside0.mk (Kd.R_below (pR HO_4) hb); have n2_ := Aside0.mk (Kd.R_below (pR HO_5) hb); have n3_ := Aside0.mk (Kd.R_below (pR HO_7) hb); have n4_ := Aside0.mk (below_step pB hb); clear HO_3; clear HO_4; clear HO_5; clear HO_7; clear HB; have HO_3 := n0_; have HO_4 := n1_; have HO_5 := n2_; have HO_7 := n3_; have HB := n4_; clear n0_ n1_ n2_ n3_ n4_; (try clear hb); (try clear hb2); (try clear hk); (try clear hi)))
      go_ret
      exact ⟨pE, pB⟩

/-- THE ONE PURE STATEMENT of laws_FnServeRoom: yours. -/
def laws_FnServeRoom.Pure : Prop := ∀ (l0 : List Int), l0.length ≤ maxLen → l0.length * 1 ≤ 140737488351232 → (∀ x ∈ l0, (Lit.int .u8 x).wf = true) → ∃ k, laws_FnServeRoom.f k l0 = some true
theorem laws_FnServeRoom.walk (P : laws_FnServeRoom.Pure) (a0 : Option Addr) (len0 cap0 : Nat) (z0 : List Int) (w : World) (w0 : (a0 = none ∧ len0 = 0 ∧ cap0 = 0 ∧ z0 = []) ∨ ∃ x, a0 = some x ∧ len0 ≤ cap0 ∧ cap0 ≤ maxLen ∧ z0.length = cap0 ∧ (∀ i, i < z0.length → w.cell? (x.add i) = some (.int .u8 (z0.getD i 0))) ∧ ∀ n ∈ z0, (Lit.int .u8 n).wf = true) (y0 : len0 * 1 ≤ 140737488351232) :
  Calls Try.prog 13 #[.slice a0 len0 cap0] w fun e w' => e = .returned (.bool true) ∧ Below w.heap.size w w' := by
 obtain ⟨l0, rfl, hr0, hm0, hw0, hc0⟩ := ReadsInt.ofRowC w0
 obtain ⟨k, h⟩ := P l0 hm0 y0 hw0
 refine (laws_FnServeRoom.calls k _ _ l0 true w (Kd.C_of_reads (d := (0 : Int)) (h1 := fun _ => rfl) hr0) hc0 h).mono ?_
 rintro e w' ⟨rfl, hd⟩
 exact ⟨rfl, hd⟩

end Go.Proofs.Ytehenjjaekkcfaa.Q
