-- Written by the kit's print.py for all laws of the seat at once (one namespace), by a program of this session.
import Derived.Test.YtehenjjaekkcfaaQx0
import Derived.Test.YtehenjjaekkcfaaQx13
import Derived.Test.YtehenjjaekkcfaaQx22
import Derived.Test.YtehenjjaekkcfaaQx26
import Derived.Test.YtehenjjaekkcfaaQx27
namespace Go.Proofs.Ytehenjjaekkcfaa.Q
open Go.RowKit Go.Proofs.YtehenjjaekkcfaaW.PrintWords Go.Proofs.YtehenjjaekkcfaaW.PrintLast Go.Proofs.YtehenjjaekkcfaaW.PrintMore
attribute [local go_sem] max2_int min2_int max_two min_two max_three min_three max_four min_four   -- for this text's walks alone
set_option linter.unusedVariables false
set_option linter.unusedSimpArgs false

/-! ### laws_FnServeRoomMore: function 10 -/
mutual
def laws_FnServeRoomMore.j0 : Nat → List Int → List Int → Bool → Option (Bool)
 | 0, _, _, _ => none
 | k + 1, x0, x1, x24 => if x24 = true then (some true) else ((spec_DrawServeRoom.f k x0).bind fun bt665 => ((impl_ServeRoom.f k bt665.1 bt665.2).bind fun bt671 => ((spec_ServeRoom.f k bt665.1 bt665.2).bind fun bt675 => (if (bt671.2 != bt675.2) = true then (laws_FnServeRoomMore.j1 k x1 bt665.1 bt665.2 bt671.1 bt671.2 bt675.1 bt675.2 true) else ((laws_sameInts.f k bt671.1 bt675.1).bind fun t679 => (if t679 = true then (laws_FnServeRoomMore.j1 k x1 bt665.1 bt665.2 bt671.1 bt671.2 bt675.1 bt675.2 (!bt671.2)) else (laws_FnServeRoomMore.j1 k x1 bt665.1 bt665.2 bt671.1 bt671.2 bt675.1 bt675.2 true)))))))
def laws_FnServeRoomMore.j1 : Nat → List Int → List (S43) → List (S32) → List Int → Bool → List Int → Bool → Bool → Option (Bool)
 | 0, _, _, _, _, _, _, _, _ => none
 | k + 1, x1, x5, x6, x7, x8, x9, x10, x54 => if x54 = true then (if (x8 == x10) = true then ((laws_sameInts.f k x7 x9).bind fun t680 => (some t680)) else (some false)) else (if (x6.length : Int) = 0 then (none) else ((some (([] : List (S32)) : List (S32))).bind fun y681 => (if y681.length + x6.length < 5864062014805 then ((some (y681 ++ x6 : List (S32))).bind fun y684 => (if 0 ≤ ((x1.length : Int) % (x6.length : Int)) then (if ((x1.length : Int) % (x6.length : Int)) < (y684.length : Int) then (if ((rd_T32 y684 ((x1.length : Int) % (x6.length : Int))).f2) < 10 then (laws_FnServeRoomMore.j2 k x1 x5 x6 (y684.set (((x1.length : Int) % (x6.length : Int)) : Int).toNat (⟨(rd_T32 y684 ((x1.length : Int) % (x6.length : Int))).f0, (rd_T32 y684 ((x1.length : Int) % (x6.length : Int))).f1, wrap64 (((rd_T32 y684 ((x1.length : Int) % (x6.length : Int))).f2) + 1)⟩ : S32))) else (laws_FnServeRoomMore.j2 k x1 x5 x6 y684)) else (none)) else (none))) else (none))))
def laws_FnServeRoomMore.j2 : Nat → List Int → List (S43) → List (S32) → List (S32) → Option (Bool)
 | 0, _, _, _, _ => none
 | k + 1, x1, x5, x6, x12 => (impl_ServeRoom.f k x5 x12).bind fun bt690 => (if (x5.length : Int) > 0 then (if (x5.length : Int) = 0 then (none) else ((some (([] : List (S43)) : List (S43))).bind fun y694 => (if 0 ≤ (Int.tmod (wrap64 ((x1.length : Int) / 7)) (x5.length : Int)) then (if (Int.tmod (wrap64 ((x1.length : Int) / 7)) (x5.length : Int)) ≤ (x5.length : Int) then ((some (x5.take ((Int.tmod (wrap64 ((x1.length : Int) / 7)) (x5.length : Int)) : Int).toNat : List (S43))).bind fun y697 => (if y694.length + y697.length < 5864062014805 then ((some (y694 ++ y697 : List (S43))).bind fun y701 => (if 0 ≤ (wrap64 ((Int.tmod (wrap64 ((x1.length : Int) / 7)) (x5.length : Int)) + 1)) then (if (wrap64 ((Int.tmod (wrap64 ((x1.length : Int) / 7)) (x5.length : Int)) + 1)) ≤ (x5.length : Int) then ((some (x5.drop ((wrap64 ((Int.tmod (wrap64 ((x1.length : Int) / 7)) (x5.length : Int)) + 1)) : Int).toNat : List (S43))).bind fun y704 => (if y701.length + y704.length < 5864062014805 then ((impl_ServeRoom.f k (y701 ++ y704) x6).bind fun bt711 => (if bt690.2 = true then (some bt711.2) else (some false))) else (none))) else (none)) else (none))) else (none))) else (none)) else (none)))) else (if bt690.2 = true then (some true) else (some false)))
end
def laws_FnServeRoomMore.f (k : Nat) (l0 : List Int) (l1 : List Int) : Option (Bool) := if (l0.length : Int) > 1048576 then (laws_FnServeRoomMore.j0 k l0 l1 true) else (laws_FnServeRoomMore.j0 k l0 l1 (decide ((l1.length : Int) > 1048576)))
theorem laws_FnServeRoomMore.mono_l : ∀ k, (∀ y0 y1 y2, LeO (laws_FnServeRoomMore.j0 k y0 y1 y2) (laws_FnServeRoomMore.j0 (k + 1) y0 y1 y2)) ∧ (∀ y0 y1 y2 y3 y4 y5 y6 y7, LeO (laws_FnServeRoomMore.j1 k y0 y1 y2 y3 y4 y5 y6 y7) (laws_FnServeRoomMore.j1 (k + 1) y0 y1 y2 y3 y4 y5 y6 y7)) ∧ (∀ y0 y1 y2 y3, LeO (laws_FnServeRoomMore.j2 k y0 y1 y2 y3) (laws_FnServeRoomMore.j2 (k + 1) y0 y1 y2 y3))
 | 0 => ⟨fun _ _ _ r h => by simp [laws_FnServeRoomMore.j0] at h, fun _ _ _ _ _ _ _ _ r h => by simp [laws_FnServeRoomMore.j1] at h, fun _ _ _ _ r h => by simp [laws_FnServeRoomMore.j2] at h⟩
 | k + 1 => by
  obtain ⟨ih0, ih1, ih2⟩ := laws_FnServeRoomMore.mono_l k
  refine ⟨?_, ?_, ?_⟩
  ·intro y0 y1 y2
   unfold laws_FnServeRoomMore.j0
   repeat' first
   | (with_reducible exact ih0 _ _ _)
   | (with_reducible exact ih1 _ _ _ _ _ _ _ _)
   | (with_reducible exact ih2 _ _ _ _)
   | (with_reducible exact impl_ServeRoom.mono _ _ _)
   | (with_reducible exact laws_sameInts.mono _ _ _)
   | (with_reducible exact spec_DrawServeRoom.mono _ _)
   | (with_reducible exact spec_ServeRoom.mono _ _ _)
   | (with_reducible exact LeO.refl _)
   | (with_reducible exact LeO.none _)
   | (with_reducible refine LeO.ite ?_ ?_)
   | (with_reducible refine LeO.bind ?_ (fun _ => ?_))
   | exact ih0 _ _ _
   | exact ih1 _ _ _ _ _ _ _ _
   | exact ih2 _ _ _ _
   | exact impl_ServeRoom.mono _ _ _
   | exact laws_sameInts.mono _ _ _
   | exact spec_DrawServeRoom.mono _ _
   | exact spec_ServeRoom.mono _ _ _
   | exact LeO.none _
   | refine LeO.ite ?_ ?_
   | refine LeO.bind ?_ (fun _ => ?_)
  ·intro y0 y1 y2 y3 y4 y5 y6 y7
   unfold laws_FnServeRoomMore.j1
   repeat' first
   | (with_reducible exact ih0 _ _ _)
   | (with_reducible exact ih1 _ _ _ _ _ _ _ _)
   | (with_reducible exact ih2 _ _ _ _)
   | (with_reducible exact impl_ServeRoom.mono _ _ _)
   | (with_reducible exact laws_sameInts.mono _ _ _)
   | (with_reducible exact spec_DrawServeRoom.mono _ _)
   | (with_reducible exact spec_ServeRoom.mono _ _ _)
   | (with_reducible exact LeO.refl _)
   | (with_reducible exact LeO.none _)
   | (with_reducible refine LeO.ite ?_ ?_)
   | (with_reducible refine LeO.bind ?_ (fun _ => ?_))
   | exact ih0 _ _ _
   | exact ih1 _ _ _ _ _ _ _ _
   | exact ih2 _ _ _ _
   | exact impl_ServeRoom.mono _ _ _
   | exact laws_sameInts.mono _ _ _
   | exact spec_DrawServeRoom.mono _ _
   | exact spec_ServeRoom.mono _ _ _
   | exact LeO.none _
   | refine LeO.ite ?_ ?_
   | refine LeO.bind ?_ (fun _ => ?_)
  ·intro y0 y1 y2 y3
   unfold laws_FnServeRoomMore.j2
   repeat' first
   | (with_reducible exact ih0 _ _ _)
   | (with_reducible exact ih1 _ _ _ _ _ _ _ _)
   | (with_reducible exact ih2 _ _ _ _)
   | (with_reducible exact impl_ServeRoom.mono _ _ _)
   | (with_reducible exact laws_sameInts.mono _ _ _)
   | (with_reducible exact spec_DrawServeRoom.mono _ _)
   | (with_reducible exact spec_ServeRoom.mono _ _ _)
   | (with_reducible exact LeO.refl _)
   | (with_reducible exact LeO.none _)
   | (with_reducible refine LeO.ite ?_ ?_)
   | (with_reducible refine LeO.bind ?_ (fun _ => ?_))
   | exact ih0 _ _ _
   | exact ih1 _ _ _ _ _ _ _ _
   | exact ih2 _ _ _ _
   | exact impl_ServeRoom.mono _ _ _
   | exact laws_sameInts.mono _ _ _
   | exact spec_DrawServeRoom.mono _ _
   | exact spec_ServeRoom.mono _ _ _
   | exact LeO.none _
   | refine LeO.ite ?_ ?_
   | refine LeO.bind ?_ (fun _ => ?_)
theorem laws_FnServeRoomMore.mono : ∀ a0 a1 k, LeO (laws_FnServeRoomMore.f k a0 a1) (laws_FnServeRoomMore.f (k + 1) a0 a1) := by
 intro a0 a1 k
 obtain ⟨ih0, ih1, ih2⟩ := laws_FnServeRoomMore.mono_l k
 unfold laws_FnServeRoomMore.f
 repeat' first
   | (with_reducible exact ih0 _ _ _)
   | (with_reducible exact ih1 _ _ _ _ _ _ _ _)
   | (with_reducible exact ih2 _ _ _ _)
   | (with_reducible exact impl_ServeRoom.mono _ _ _)
   | (with_reducible exact laws_sameInts.mono _ _ _)
   | (with_reducible exact spec_DrawServeRoom.mono _ _)
   | (with_reducible exact spec_ServeRoom.mono _ _ _)
   | (with_reducible exact LeO.refl _)
   | (with_reducible exact LeO.none _)
   | (with_reducible refine LeO.ite ?_ ?_)
   | (with_reducible refine LeO.bind ?_ (fun _ => ?_))
   | exact ih0 _ _ _
   | exact ih1 _ _ _ _ _ _ _ _
   | exact ih2 _ _ _ _
   | exact impl_ServeRoom.mono _ _ _
   | exact laws_sameInts.mono _ _ _
   | exact spec_DrawServeRoom.mono _ _
   | exact spec_ServeRoom.mono _ _ _
   | exact LeO.none _
   | refine LeO.ite ?_ ?_
   | refine LeO.bind ?_ (fun _ => ?_)
def laws_FnServeRoomMore.T16 : Bool × List (List Nat × List Nat) := (true, [([], []), ([], []), ([], []), ([1, 2], [1, 2]), ([0, 3], [0, 3]), ([], []), ([], []), ([6], [6]), ([5, 7], [5, 7]), ([4, 8, 4], [4, 8]), ([], []), ([9, 10, 9], [9, 10]), ([11], [11]), ([12], [12]), ([12], [12]), ([14, 11, 0, 1, 2, 3, 4, 5, 6, 7, 8, 9, 10, 11, 12, 13, 14], [14])])
def laws_FnServeRoomMore.B16 : List Nat := [0, 0, 0, 6, 15, 0, 0, 64, 224, 511, 0, 2047, 4095, 8191, 8191, 32767]
theorem laws_FnServeRoomMore.tab16 : rtab .any (opsOf Try.f10 16) = laws_FnServeRoomMore.T16 := by kernel_rfl
theorem laws_FnServeRoomMore.bits16 : waitsOk laws_FnServeRoomMore.T16.2 laws_FnServeRoomMore.B16 = true := by kernel_rfl
set_option maxHeartbeats 8000000 in
set_option maxRecDepth 100000 in
theorem laws_FnServeRoomMore.calls (k : Nat) (A0 : Option Addr) (c0 : Nat) (l0 : List Int) (A1 : Option Addr) (c1 : Nat) (l1 : List Int) (r : Bool) (w : World) (hr0 : Kd.C (Kd.int .u8) w A0 l0.length l0) (hc0 : l0.length ≤ c0) (hr1 : Kd.C (Kd.int .u8) w A1 l1.length l1) (hc1 : l1.length ≤ c1) (h : laws_FnServeRoomMore.f k l0 l1 = some r) :
  Calls Try.prog 10 #[.slice A0 l0.length c0, .slice A1 l1.length c1] w fun e w' => e = .returned (.bool r) ∧ Below w.heap.size w w' := by
 have HR0 := Aside0.mk hr0
 have HC0 := Aside0.mk hc0
 clear hr0 hc0
 have HR1 := Aside0.mk hr1
 have HC1 := Aside0.mk hc1
 clear hr1 hc1
 have HB := Aside0.mk (Below.refl w.heap.size w)
 have H : (if (l0.length : Int) > 1048576 then (laws_FnServeRoomMore.j0 k l0 l1 true) else (laws_FnServeRoomMore.j0 k l0 l1 (decide ((l1.length : Int) > 1048576)))) = some r := h
 clear h
 have HC3 := Aside0.mk H
 clear H
 go_enter Try.func10, Try.ntmps10
 go_upto_region 1 with (fail)
 go_cut [24] (fun v24 wc => ∃ (kq : Nat) (x24_2 : Bool), v24 = .bool x24_2 ∧ Aside0 (laws_FnServeRoomMore.j0 kq l0 l1 x24_2 = some r) ∧ Aside0 (kq ≤ k) ∧ Aside0 (Below w.heap.size w wc))
 case first =>
  have H := HC3.out
  clear HC3
  by_cases c4 : (l0.length : Int) > 1048576
  ·rw [if_pos c4] at H
   have c4b0 : decide (1048576 < (l0.length : Int)) = true := decide_eq_true c4
   have c4b1 : decide (1048576 < l0.length) = true := decide_eq_true (by omega)
   clear c4
   (first | rw [c4b0] | (simp only [i64_w, i32_w]; rw [c4b0]) | skip)
   have H' := Aside0.mk H
   clear H
   go_wp2
   go_meet
   case rel => exact ⟨_, (true), pF, H', ⟨by first | omega | exact Nat.le_refl _⟩, ⟨pB⟩⟩
  ·rw [if_neg c4] at H
   have c4b0 : decide (1048576 < (l0.length : Int)) = false := decide_eq_false c4
   have c4b1 : decide (1048576 < l0.length) = false := decide_eq_false (by omega)
   clear c4
   (first | rw [c4b0] | (simp only [i64_w, i32_w]; rw [c4b0]) | skip)
   have H' := Aside0.mk H
   clear H
   go_wp2
   go_meet
   case rel => exact ⟨_, (decide ((l1.length : Int) > 1048576)), pF, H', ⟨by first | omega | exact Nat.le_refl _⟩, ⟨pB⟩⟩
 case rest =>
  clear HC3
  try clear c1
  try clear p2
  try clear c4
  try clear c4b0
  try clear c4b1
  obtain ⟨kq, x24_2, rfl, HA, HJ2, HB⟩ := hcut
  cases kq with
  | zero => exact absurd HA.out (by simp [laws_FnServeRoomMore.j0])
  | succ kj2 =>
   have H := HA.out
   clear HA
   simp only [laws_FnServeRoomMore.j0] at H
   by_cases c5 : x24_2 = true
   ·subst c5
    have H1 : (some true) = some r := by rw [if_pos rfl] at H; exact H
    clear H
    have H := H1
    clear H1
    obtain rfl := Option.some.inj H
    go_wp2
    go_ret
    exact ⟨pE, pB⟩
   ·replace c5 := Bool.eq_false_iff.mpr c5
    subst c5
    have H1 : ((spec_DrawServeRoom.f kj2 l0).bind fun bt665 => ((impl_ServeRoom.f kj2 bt665.1 bt665.2).bind fun bt671 => ((spec_ServeRoom.f kj2 bt665.1 bt665.2).bind fun bt675 => (if (bt671.2 != bt675.2) = true then (laws_FnServeRoomMore.j1 kj2 l1 bt665.1 bt665.2 bt671.1 bt671.2 bt675.1 bt675.2 true) else ((laws_sameInts.f kj2 bt671.1 bt675.1).bind fun t679 => (if t679 = true then (laws_FnServeRoomMore.j1 kj2 l1 bt665.1 bt665.2 bt671.1 bt671.2 bt675.1 bt675.2 (!bt671.2)) else (laws_FnServeRoomMore.j1 kj2 l1 bt665.1 bt665.2 bt671.1 bt671.2 bt675.1 bt675.2 true))))))) = some r := by rw [if_neg (show ¬ (false = true) by decide)] at H; exact H
    clear H
    have H := H1
    clear H1
    replace H := Option.bind_eq_some_iff.mp H
    obtain ⟨⟨t665, t666⟩, A60, H⟩ := H
    replace H : ((impl_ServeRoom.f kj2 t665 t666).bind fun bt671 => ((spec_ServeRoom.f kj2 t665 t666).bind fun bt675 => (if (bt671.2 != bt675.2) = true then (laws_FnServeRoomMore.j1 kj2 l1 t665 t666 bt671.1 bt671.2 bt675.1 bt675.2 true) else ((laws_sameInts.f kj2 bt671.1 bt675.1).bind fun t679 => (if t679 = true then (laws_FnServeRoomMore.j1 kj2 l1 t665 t666 bt671.1 bt671.2 bt675.1 bt675.2 (!bt671.2)) else (laws_FnServeRoomMore.j1 kj2 l1 t665 t666 bt671.1 bt671.2 bt675.1 bt675.2 true)))))) = some r := H
    have A6 := Aside0.mk A60
    clear A60
    replace H := Option.bind_eq_some_iff.mp H
    obtain ⟨⟨t671, t672⟩, A70, H⟩ := H
    replace H : ((spec_ServeRoom.f kj2 t665 t666).bind fun bt675 => (if (t672 != bt675.2) = true then (laws_FnServeRoomMore.j1 kj2 l1 t665 t666 t671 t672 bt675.1 bt675.2 true) else ((laws_sameInts.f kj2 t671 bt675.1).bind fun t679 => (if t679 = true then (laws_FnServeRoomMore.j1 kj2 l1 t665 t666 t671 t672 bt675.1 bt675.2 (!t672)) else (laws_FnServeRoomMore.j1 kj2 l1 t665 t666 t671 t672 bt675.1 bt675.2 true))))) = some r := H
    have A7 := Aside0.mk A70
    clear A70
    replace H := Option.bind_eq_some_iff.mp H
    obtain ⟨⟨t675, t676⟩, A80, H⟩ := H
    replace H : (if (t672 != t676) = true then (laws_FnServeRoomMore.j1 kj2 l1 t665 t666 t671 t672 t675 t676 true) else ((laws_sameInts.f kj2 t671 t675).bind fun t679 => (if t679 = true then (laws_FnServeRoomMore.j1 kj2 l1 t665 t666 t671 t672 t675 t676 (!t672)) else (laws_FnServeRoomMore.j1 kj2 l1 t665 t666 t671 t672 t675 t676 true)))) = some r := H
    have A8 := Aside0.mk A80
    clear A80
    have HC9 := Aside0.mk H
    clear H
    go_upto_region 6 with (first | ((with_reducible refine gate_callee (f := 43) rfl ?_); refine goesL_ (some 27) rfl rfl Try.func43 pL rfl #[.slice A0 l0.length c0] rfl pM ?_; (with_reducible refine (spec_DrawServeRoom.calls kj2 _ _ l0 t665 t666 _ ?side1 ?side2 A6.out).mono ?_); (case side1 => exact pS ((Kd.C_below HR0.out HB.out))); (case side2 => exact HC0.out); rintro e w10 ⟨v667, v669, rfl, ho0, ho1, hb⟩; refine ⟨_, rfl, ?_⟩; have n0_ := Aside0.mk (Kd.R_lower ho0 (below_size pB)); have n1_ := Aside0.mk (Kd.R_lower ho1 (below_size pB)); have n2_ := Aside0.mk (below_step pB hb); clear HB; have HO668 := n0_; have HO670 := n1_; have HB := n2_; clear n0_ n1_ n2_; (try clear hb); (try clear hb2); (try clear hk); (try clear hi); (try clear ho0); (try clear ho1); obtain ⟨Ao11, co11, eo11⟩ := Kd.R_slice HO668.out; subst eo11; obtain ⟨Ao12, co12, eo12⟩ := Kd.R_slice HO670.out; subst eo12) | ((with_reducible refine gate_callee (f := 38) rfl ?_); refine goesL_ (some 33) rfl rfl Try.func38 pL rfl #[.slice Ao11 t665.length co11, .slice Ao12 t666.length co12] rfl pM ?_; (with_reducible refine (impl_ServeRoom.calls kj2 _ _ t665 _ _ t666 t671 t672 _ ?side1 ?side2 ?side3 ?side4 A7.out).mono ?_); (case side1 => exact pS ((Kd.R_reads' HO668.out).2.2)); (case side2 => exact (Kd.R_reads' HO668.out).2.1); (case side3 => exact pS ((Kd.R_reads' HO670.out).2.2)); (case side4 => exact (Kd.R_reads' HO670.out).2.1); rintro e w13 ⟨v673, rfl, ho0, hb⟩; refine ⟨_, rfl, ?_⟩; have n0_ := Aside0.mk (Kd.R_below (pR HO668) hb); have n1_ := Aside0.mk (Kd.R_below (pR HO670) hb); have n2_ := Aside0.mk (Kd.R_lower ho0 (below_size pB)); have n3_ := Aside0.mk (below_step pB hb); clear HO668; clear HO670; clear HB; have HO668 := n0_; have HO670 := n1_; have HO674 := n2_; have HB := n3_; clear n0_ n1_ n2_ n3_; (try clear hb); (try clear hb2); (try clear hk); (try clear hi); (try clear ho0)) | ((with_reducible refine gate_callee (f := 44) rfl ?_); refine goesL_ (some 39) rfl rfl Try.func44 pL rfl #[.slice Ao11 t665.length co11, .slice Ao12 t666.length co12] rfl pM ?_; (with_reducible refine (spec_ServeRoom.calls kj2 _ _ t665 _ _ t666 t675 t676 _ ?side1 ?side2 ?side3 ?side4 A8.out).mono ?_); (case side1 => exact pS ((Kd.R_reads' HO668.out).2.2)); (case side2 => exact (Kd.R_reads' HO668.out).2.1); (case side3 => exact pS ((Kd.R_reads' HO670.out).2.2)); (case side4 => exact (Kd.R_reads' HO670.out).2.1); rintro e w14 ⟨v677, rfl, ho0, hb⟩; refine ⟨_, rfl, ?_⟩; have n0_ := Aside0.mk (Kd.R_below (pR HO668) hb); have n1_ := Aside0.mk (Kd.R_below (pR HO670) hb); have n2_ := Aside0.mk (Kd.R_elder' (pR HO674) (Kd.R_base ho0) hb); have n3_ := Aside0.mk (Kd.R_lower (Kd.R_new' ho0 (Kd.R_lt (pR HO674))) (below_size pB)); have n4_ := Aside0.mk (below_step pB hb); clear HO668; clear HO670; clear HO674; clear HB; have HO668 := n0_; have HO670 := n1_; have HO674 := n2_; have HO678 := n3_; have HB := n4_; clear n0_ n1_ n2_ n3_ n4_; (try clear hb); (try clear hb2); (try clear hk); (try clear hi); (try clear ho0)))
    (try simp only [Act.put, List.setIfInBounds_toArray, List.set_cons_zero, List.set_cons_succ])
    go_cut [54] (fun v54 wc => ∃ (kq : Nat) (x54_8 : Bool), v54 = .bool x54_8 ∧ Aside0 (laws_FnServeRoomMore.j1 kq l1 t665 t666 t671 t672 t675 t676 x54_8 = some r) ∧ Aside0 (kq ≤ kj2) ∧ Aside0 (Kd.R k43 43 wc w.heap.size (fun _ => True) (.slice Ao11 t665.length co11) t665) ∧ Aside0 (Kd.R k32 32 wc w.heap.size (fun _ => True) (.slice Ao12 t666.length co12) t666) ∧ Aside0 (Kd.R (Kd.int .i64) 3 wc w.heap.size (fun k_ => some k_ ≠ (v677 : Value).ownBlock) v673 t671) ∧ Aside0 (Kd.R (Kd.int .i64) 3 wc w.heap.size (fun k_ => some k_ ≠ (v673 : Value).ownBlock) v677 t675) ∧ Aside0 (Below w.heap.size w wc))
    case first =>
     have H := HC9.out
     clear HC9
     by_cases c15 : (t672 != t676) = true
     ·rw [if_pos c15] at H
      have c15b0 : (t672 != t676) = true := c15
      (try (have c15b1 : decide (t672 = t676) = false := by simpa using c15))
      (try (have c15b2 : (t672 == t676) = false := by simpa using c15))
      (try (have c15b3 : ¬ (t672 = t676) := by simpa using c15))
      clear c15
      (first | rw [c15b0] | (simp only [i64_w, i32_w]; rw [c15b0]) | skip)
      have H' := Aside0.mk H
      clear H
      go_wp2
      go_meet
      case rel => exact ⟨_, (true), pF, H', ⟨by have := HJ2.out; first | omega | exact Nat.le_refl _⟩, ⟨pR HO668⟩, ⟨pR HO670⟩, ⟨by (with_reducible repeat (first | apply Kd.R_alloc | apply Kd.R_drewN | apply Kd.R_drew)); exact Kd.R_mono HO674.out (fun _ hk => hk.2)⟩, ⟨by (with_reducible repeat (first | apply Kd.R_alloc | apply Kd.R_drewN | apply Kd.R_drew)); exact Kd.R_mono HO678.out (fun _ hk => hk.2)⟩, ⟨pB⟩⟩
     ·rw [if_neg c15] at H
      have c15b0 : (t672 != t676) = false := by simpa using c15
      (try (have c15b1 : decide (t672 = t676) = true := by simpa using c15))
      (try (have c15b2 : (t672 == t676) = true := by simpa using c15))
      clear c15
      (first | rw [c15b0] | (simp only [i64_w, i32_w]; rw [c15b0]) | skip)
      replace H := Option.bind_eq_some_iff.mp H
      obtain ⟨t679, A160, H⟩ := H
      replace H : (if t679 = true then (laws_FnServeRoomMore.j1 kj2 l1 t665 t666 t671 t672 t675 t676 (!t672)) else (laws_FnServeRoomMore.j1 kj2 l1 t665 t666 t671 t672 t675 t676 true)) = some r := H
      have A16 := Aside0.mk A160
      clear A160
      by_cases c17 : t679 = true
      ·subst c17
       have H1 : (laws_FnServeRoomMore.j1 kj2 l1 t665 t666 t671 t672 t675 t676 (!t672)) = some r := by rw [if_pos rfl] at H; exact H
       clear H
       have H := H1
       clear H1
       have H' := Aside0.mk H
       clear H
       obtain ⟨Ao18, co18, eo18⟩ := Kd.R_slice HO674.out
       subst eo18
       obtain ⟨Ao19, co19, eo19⟩ := Kd.R_slice HO678.out
       subst eo19
       go_wp2_with (first | (go_at_call 25; (with_reducible refine (laws_sameInts.calls kj2 _ _ t671 _ _ t675 true _ ?side1 ?side2 ?side3 ?side4 A16.out).mono ?_); (case side1 => exact pS ((Kd.R_reads' HO674.out).2.2)); (case side2 => exact (Kd.R_reads' HO674.out).2.1); (case side3 => exact pS ((Kd.R_reads' HO678.out).2.2)); (case side4 => exact (Kd.R_reads' HO678.out).2.1); rintro e w' ⟨rfl, ⟨nd, rfl⟩⟩))
       go_meet
       case rel => exact ⟨_, (!t672), pF, H', ⟨by have := HJ2.out; first | omega | exact Nat.le_refl _⟩, ⟨pR HO668⟩, ⟨pR HO670⟩, ⟨by (with_reducible repeat (first | apply Kd.R_alloc | apply Kd.R_drewN | apply Kd.R_drew)); exact Kd.R_mono HO674.out (fun _ hk => hk.2)⟩, ⟨by (with_reducible repeat (first | apply Kd.R_alloc | apply Kd.R_drewN | apply Kd.R_drew)); exact Kd.R_mono HO678.out (fun _ hk => hk.2)⟩, ⟨pB⟩⟩
      ·replace c17 := Bool.eq_false_iff.mpr c17
       subst c17
       have H1 : (laws_FnServeRoomMore.j1 kj2 l1 t665 t666 t671 t672 t675 t676 true) = some r := by rw [if_neg (show ¬ (false = true) by decide)] at H; exact H
       clear H
       have H := H1
       clear H1
       have H' := Aside0.mk H
       clear H
       obtain ⟨Ao20, co20, eo20⟩ := Kd.R_slice HO674.out
       subst eo20
       obtain ⟨Ao21, co21, eo21⟩ := Kd.R_slice HO678.out
       subst eo21
       go_wp2_with (first | (go_at_call 25; (with_reducible refine (laws_sameInts.calls kj2 _ _ t671 _ _ t675 false _ ?side1 ?side2 ?side3 ?side4 A16.out).mono ?_); (case side1 => exact pS ((Kd.R_reads' HO674.out).2.2)); (case side2 => exact (Kd.R_reads' HO674.out).2.1); (case side3 => exact pS ((Kd.R_reads' HO678.out).2.2)); (case side4 => exact (Kd.R_reads' HO678.out).2.1); rintro e w' ⟨rfl, ⟨nd, rfl⟩⟩))
       go_meet
       case rel => exact ⟨_, (true), pF, H', ⟨by have := HJ2.out; first | omega | exact Nat.le_refl _⟩, ⟨pR HO668⟩, ⟨pR HO670⟩, ⟨by (with_reducible repeat (first | apply Kd.R_alloc | apply Kd.R_drewN | apply Kd.R_drew)); exact Kd.R_mono HO674.out (fun _ hk => hk.2)⟩, ⟨by (with_reducible repeat (first | apply Kd.R_alloc | apply Kd.R_drewN | apply Kd.R_drew)); exact Kd.R_mono HO678.out (fun _ hk => hk.2)⟩, ⟨pB⟩⟩
    case rest =>
     clear HC9
     try clear c1
     try clear p2
     try clear c3
     try clear c4
     try clear c4b0
     try clear c4b1
     try clear c5
     try clear c10
     try clear c15
     try clear c15b0
     try clear c15b1
     try clear c15b2
     try clear c17
     try clear p2
     obtain ⟨kq, x54_8, rfl, HA, HJ8, HO_5, HO_6, HO_7, HO_9, HB⟩ := hcut
     cases kq with
     | zero => exact absurd HA.out (by simp [laws_FnServeRoomMore.j1])
     | succ kj8 =>
      have H := HA.out
      clear HA
      simp only [laws_FnServeRoomMore.j1] at H
      by_cases c22 : x54_8 = true
      ·subst c22
       have H1 : (if (t672 == t676) = true then ((laws_sameInts.f kj8 t671 t675).bind fun t680 => (some t680)) else (some false)) = some r := by rw [if_pos rfl] at H; exact H
       clear H
       have H := H1
       clear H1
       by_cases c23 : (t672 == t676) = true
       ·rw [if_pos c23] at H
        have c23b0 : (t672 == t676) = true := c23
        (try (have c23b1 : decide (t672 = t676) = true := by simpa using c23))
        (try (have c23b2 : (t672 == t676) = true := by simpa using c23))
        clear c23
        replace H := Option.bind_eq_some_iff.mp H
        obtain ⟨t680, A240, H⟩ := H
        replace H : (some t680) = some r := H
        have A24 := Aside0.mk A240
        clear A240
        obtain rfl := Option.some.inj H
        obtain ⟨Ao25, co25, eo25⟩ := Kd.R_slice HO_7.out
        subst eo25
        obtain ⟨Ao26, co26, eo26⟩ := Kd.R_slice HO_9.out
        subst eo26
        go_wp2_with (first | (go_at_call 25; (with_reducible refine (laws_sameInts.calls kj8 _ _ t671 _ _ t675 t680 _ ?side1 ?side2 ?side3 ?side4 A24.out).mono ?_); (case side1 => exact pS ((Kd.R_reads' HO_7.out).2.2)); (case side2 => exact (Kd.R_reads' HO_7.out).2.1); (case side3 => exact pS ((Kd.R_reads' HO_9.out).2.2)); (case side4 => exact (Kd.R_reads' HO_9.out).2.1); rintro e w' ⟨rfl, ⟨nd, rfl⟩⟩))
        go_ret
        exact ⟨pE, pB⟩
       ·rw [if_neg c23] at H
        have c23b0 : (t672 == t676) = false := by simpa using c23
        (try (have c23b1 : decide (t672 = t676) = false := by simpa using c23))
        (try (have c23b2 : (t672 == t676) = false := by simpa using c23))
        (try (have c23b3 : ¬ (t672 = t676) := by simpa using c23))
        clear c23
        obtain rfl := Option.some.inj H
        go_wp2
        go_ret
        exact ⟨pE, pB⟩
      ·replace c22 := Bool.eq_false_iff.mpr c22
       subst c22
       have H1 : (if (t666.length : Int) = 0 then (none) else ((some (([] : List (S32)) : List (S32))).bind fun y681 => (if y681.length + t666.length < 5864062014805 then ((some (y681 ++ t666 : List (S32))).bind fun y684 => (if 0 ≤ ((l1.length : Int) % (t666.length : Int)) then (if ((l1.length : Int) % (t666.length : Int)) < (y684.length : Int) then (if ((rd_T32 y684 ((l1.length : Int) % (t666.length : Int))).f2) < 10 then (laws_FnServeRoomMore.j2 kj8 l1 t665 t666 (y684.set (((l1.length : Int) % (t666.length : Int)) : Int).toNat (⟨(rd_T32 y684 ((l1.length : Int) % (t666.length : Int))).f0, (rd_T32 y684 ((l1.length : Int) % (t666.length : Int))).f1, wrap64 (((rd_T32 y684 ((l1.length : Int) % (t666.length : Int))).f2) + 1)⟩ : S32))) else (laws_FnServeRoomMore.j2 kj8 l1 t665 t666 y684)) else (none)) else (none))) else (none)))) = some r := by rw [if_neg (show ¬ (false = true) by decide)] at H; exact H
       clear H
       have H := H1
       clear H1
       by_cases c27 : (t666.length : Int) = 0
       ·rw [if_pos c27] at H
        exact absurd H (by simp)
       ·rw [if_neg c27] at H
        have c27b0 : ((t666.length : Int) == 0) = false := beq_eq_false_iff_ne.mpr c27
        have c27b1 : ((t666.length : Int) != 0) = true := bne_iff_ne.mpr c27
        have c27b2 : ¬ (t666 = []) := fun h_ => c27 (by rw [h_]; rfl)
        obtain ⟨y681, hy681⟩ : ∃ y_ : List (S32), y_ = (([] : List (S32))) := ⟨_, rfl⟩
        replace H : (if y681.length + t666.length < 5864062014805 then ((some (y681 ++ t666 : List (S32))).bind fun y684 => (if 0 ≤ ((l1.length : Int) % (t666.length : Int)) then (if ((l1.length : Int) % (t666.length : Int)) < (y684.length : Int) then (if ((rd_T32 y684 ((l1.length : Int) % (t666.length : Int))).f2) < 10 then (laws_FnServeRoomMore.j2 kj8 l1 t665 t666 (y684.set (((l1.length : Int) % (t666.length : Int)) : Int).toNat (⟨(rd_T32 y684 ((l1.length : Int) % (t666.length : Int))).f0, (rd_T32 y684 ((l1.length : Int) % (t666.length : Int))).f1, wrap64 (((rd_T32 y684 ((l1.length : Int) % (t666.length : Int))).f2) + 1)⟩ : S32))) else (laws_FnServeRoomMore.j2 kj8 l1 t665 t666 y684)) else (none)) else (none))) else (none)) = some r := by first | (rw [hy681]; with_reducible exact H) | (have H2_ := (Option.bind_some _ _).symm.trans H; rw [hy681]; with_reducible exact H2_) | (have H2_ := (Option.bind_some _ _).symm.trans H; with_reducible exact H2_) | with_reducible exact H | (rw [hy681]; exact H) | exact H
        have Ny681 := Aside0.mk hy681
        clear hy681
        by_cases c28 : y681.length + t666.length < 5864062014805
        ·rw [if_pos c28] at H
         have LMc28 := Aside0.mk c28
         clear c28
         obtain ⟨y684, hy684⟩ : ∃ y_ : List (S32), y_ = (y681 ++ t666) := ⟨_, rfl⟩
         replace H : (if 0 ≤ ((l1.length : Int) % (t666.length : Int)) then (if ((l1.length : Int) % (t666.length : Int)) < (y684.length : Int) then (if ((rd_T32 y684 ((l1.length : Int) % (t666.length : Int))).f2) < 10 then (laws_FnServeRoomMore.j2 kj8 l1 t665 t666 (y684.set (((l1.length : Int) % (t666.length : Int)) : Int).toNat (⟨(rd_T32 y684 ((l1.length : Int) % (t666.length : Int))).f0, (rd_T32 y684 ((l1.length : Int) % (t666.length : Int))).f1, wrap64 (((rd_T32 y684 ((l1.length : Int) % (t666.length : Int))).f2) + 1)⟩ : S32))) else (laws_FnServeRoomMore.j2 kj8 l1 t665 t666 y684)) else (none)) else (none)) = some r := by first | (rw [hy684]; with_reducible exact H) | (have H2_ := (Option.bind_some _ _).symm.trans H; rw [hy684]; with_reducible exact H2_) | (have H2_ := (Option.bind_some _ _).symm.trans H; with_reducible exact H2_) | with_reducible exact H | (rw [hy684]; exact H) | exact H
         have Ny684 := Aside0.mk hy684
         clear hy684
         obtain ⟨ji29, hji29⟩ : ∃ j_ : Int, ((l1.length : Int) % (t666.length : Int)) = j_ := ⟨_, rfl⟩
         replace H : (if 0 ≤ (ji29) then (if (ji29) < (y684.length : Int) then (if ((rd_T32 y684 (ji29)).f2) < 10 then (laws_FnServeRoomMore.j2 kj8 l1 t665 t666 (y684.set ((ji29) : Int).toNat (⟨(rd_T32 y684 (ji29)).f0, (rd_T32 y684 (ji29)).f1, wrap64 (((rd_T32 y684 (ji29)).f2) + 1)⟩ : S32))) else (laws_FnServeRoomMore.j2 kj8 l1 t665 t666 y684)) else (none)) else (none)) = some r := by first | (rw [hji29] at H; exact H) | (simp only [hji29] at H ⊢; exact H)
         by_cases c30 : 0 ≤ (ji29)
         ·rw [if_pos c30] at H
          have c30b0 : decide (0 ≤ (ji29)) = true := decide_eq_true c30
          clear c30
          by_cases c31 : (ji29) < (y684.length : Int)
          ·rw [if_pos c31] at H
           have c31b0 : decide ((ji29) < (y684.length : Int)) = true := decide_eq_true c31
           clear c31
           have HC32 := Aside0.mk H
           clear H
           go_upto_if 76 with (first | ((with_reducible refine gate_dst (N := 68) rfl ?_); (try (refine gate_guard (by rfl) ?_; dsimp only)); refine Kd.R_lit k32 _ 32 ?hg (N := 68) ?hd (xs := ([] : List (S32))) (inner := []) (ok := fun _ => True) (okp := fun _ => True) ?hr ?hp (fun _ hk => hk) trivial (Below.refl _ _) (Nat.le_refl _) (by simp) ?_; (case hd => rfl); (case hg => rfl); (case hr => first | (go_simp; done) | (go_simp; rfl)); (case hp => exact (Reps.none _ _)); intro v682 w33 ho34 hb hg_ hnew_; clear hg_ hnew_; (first | rw [← Ny681.out] at ho34 | (simp only [Int.reduceToNat] at ho34; rw [← Ny681.out] at ho34)); have n0_ := Aside0.mk (Kd.R_below (pR HO_5) hb); have n1_ := Aside0.mk (Kd.R_elder' (pR HO_6) (Kd.R_base ho34) hb); have n2_ := Aside0.mk (Kd.R_below (pR HO_7) hb); have n3_ := Aside0.mk (Kd.R_below (pR HO_9) hb); have n4_ := Aside0.mk (Kd.R_lower (Kd.R_new' ho34 (Kd.R_lt (pR HO_6))) (below_size pB)); have n5_ := Aside0.mk (below_step pB hb); clear HO_5; clear HO_6; clear HO_7; clear HO_9; clear HB; have HO_5 := n0_; have HO_6 := n1_; have HO_7 := n2_; have HO_9 := n3_; have HO683 := n4_; have HB := n5_; clear n0_ n1_ n2_ n3_ n4_ n5_; clear hb ho34) | ((with_reducible refine gate_builtin (b := .append) (xs := #[.tmp 68, .tmp 69]) rfl ?_); (try (refine gate_guard (by rfl) ?_; dsimp only)); at_builtin; refine Kd.R_append_rows k32 (w0 := w) w.heap.size rfl (.tmp 68) (.tmp 69) 25 32 (.agg #[(.int .i64 0), (.int .i64 0), (.int .i64 0)]) 24 rfl Try.underlying25 info32 rfl (by decide) (by omega) v682 y681 t666 _ _ _ (fun k_ => some k_ ≠ (.slice Ao12 t666.length co12 : Value).ownBlock) (fun _ => False) rfl rfl ?aO ?aR (fun _ _ h => h) (fun _ h => h.elim) ?aF ?aB ?aS ?aL ?_; (case aR => exact pS ((Kd.R_reads' HO_6.out).2.2)); (case aB => exact pB); (case aF => exact (fun k_ hk => Kd.fresh' (Kd.R_lt (pR HO_6)) k_ hk)); (case aO => exact (by (with_reducible repeat (first | apply Kd.R_alloc | apply Kd.R_drewN | apply Kd.R_drew)); exact Kd.R_mono HO683.out (fun _ hk => hk.2))); (case aS => exact (below_size pB)); (case aL => have := LMc28.out; omega); intro v685 w35 ho hb hg hat; rw [← Ny684.out] at ho; have n0_ := Aside0.mk (Kd.R_over' (pR HO_5) (Kd.R_typed (pR HO683)) (by decide) hg); have n1_ := Aside0.mk (Kd.R_after (ok := (fun _ => True)) (pR HO_6) hg hat); have n2_ := Aside0.mk (Kd.R_over' (pR HO_7) (Kd.R_typed (pR HO683)) (by decide) hg); have n3_ := Aside0.mk (Kd.R_over' (pR HO_9) (Kd.R_typed (pR HO683)) (by decide) hg); have n4_ := Aside0.mk (hb); have n5_ := Aside0.mk (ho); clear HO_5; clear HO_6; clear HO_7; clear HO_9; clear HB; clear HO683; have HO_5 := n0_; have HO_6 := n1_; have HO_7 := n2_; have HO_9 := n3_; have HB := n4_; have HO686 := n5_; clear n0_ n1_ n2_ n3_ n4_ n5_; clear ho hb hg hat; obtain ⟨Ao36, co36, eo36⟩ := Kd.R_slice HO686.out; subst eo36; have p687 : 0 ≤ ((ji29) : Int) := of_decide_eq_true pA; have q687 : (ji29) < (y684.length : Int) := of_decide_eq_true pA; obtain ⟨ad687, e687, hx687_0, hx687_1, hx687_2⟩ := at_T32 (Kd.R_reads' HO686.out).2.2 (ji29) p687 q687; cases e687; replace p687 := eq_true p687; replace q687 := eq_true q687))
           (try simp only [Act.put, List.setIfInBounds_toArray, List.set_cons_zero, List.set_cons_succ])
           go_cut [] (fun wc => ∃ (kq : Nat) (x12_31 : List (S32)), Aside0 (laws_FnServeRoomMore.j2 kq l1 t665 t666 x12_31 = some r) ∧ Aside0 (kq ≤ kj8) ∧ Aside0 (Kd.R k43 43 wc w.heap.size (fun _ => True) (.slice Ao11 t665.length co11) t665) ∧ Aside0 (Kd.R k32 32 wc w.heap.size (fun k_ => some k_ ≠ ((.slice (some ad687) y684.length co36) : Value).ownBlock) (.slice Ao12 t666.length co12) t666) ∧ Aside0 (Kd.R k32 32 wc w.heap.size (fun k_ => some k_ ≠ ((.slice Ao12 t666.length co12) : Value).ownBlock) (.slice (some ad687) y684.length co36) x12_31) ∧ Aside0 (Below w.heap.size w wc))
           case first =>
            have H := HC32.out
            clear HC32
            by_cases c37 : ((rd_T32 y684 (ji29)).f2) < 10
            ·rw [if_pos c37] at H
             have c37b0 : decide (((rd_T32 y684 (ji29)).f2) < 10) = true := decide_eq_true c37
             clear c37
             (first | rw [c37b0] | (simp only [i64_w, i32_w]; rw [c37b0]) | skip)
             obtain ⟨y689, hy689⟩ : ∃ y_ : List (S32), y_ = (y684.set ((ji29) : Int).toNat (⟨(rd_T32 y684 (ji29)).f0, (rd_T32 y684 (ji29)).f1, wrap64 (((rd_T32 y684 (ji29)).f2) + 1)⟩ : S32)) := ⟨_, rfl⟩
             replace H : (laws_FnServeRoomMore.j2 kj8 l1 t665 t666 y689) = some r := by first | (rw [hy689]; with_reducible exact H) | (have H2_ := (Option.bind_some _ _).symm.trans H; rw [hy689]; with_reducible exact H2_) | (have H2_ := (Option.bind_some _ _).symm.trans H; with_reducible exact H2_) | with_reducible exact H | (rw [hy689]; exact H) | exact H
             have Ny689 := Aside0.mk hy689
             clear hy689
             have H' := Aside0.mk H
             clear H
             have p688 : 0 ≤ ((ji29) : Int) := of_decide_eq_true pA
             have q688 : (ji29) < (y684.length : Int) := of_decide_eq_true pA
             obtain ⟨ad688, e688, hx688_0, hx688_1, hx688_2⟩ := at_T32 (Kd.R_reads' HO686.out).2.2 (ji29) p688 q688
             obtain rfl : ad687 = ad688 := (by injection e688)
             replace p688 := eq_true p688
             replace q688 := eq_true q688
             have p38 : 0 ≤ ((ji29) : Int) := of_decide_eq_true pA
             have q38 : ((ji29) : Int) < ((y684.length : Int) : Int) := of_decide_eq_true pA
             obtain ⟨go38, co38, eo38, gb38, gl38, cl38, HG38⟩ := Kd.R_form HO686.out (by omega)
             (first | cases eo38 | (injection eo38 with ea_ en_ ec_; (first | subst ea_ | (injection ea_ with ea_; subst ea_)); subst ec_; clear en_))
             have GB38 := Aside0.mk gb38
             have GG38 := Aside0.mk HG38
             clear gb38 gl38 HG38
             (first | simp only [add_plain] at hx687_0 | skip)
             (first | simp only [add_plain] at hx687_1 | skip)
             (first | simp only [add_plain] at hx687_2 | skip)
             (first | simp only [add_plain] at hx688_0 | skip)
             (first | simp only [add_plain] at hx688_1 | skip)
             (first | simp only [add_plain] at hx688_2 | skip)
             obtain ⟨ce38, hcl38, hM38, hcc38, hfr38⟩ := Kd.R_elem HO686.out z32 ((ji29) : Int) p38 q38
             obtain rfl := k32_openM hM38
             have hx38_0 : w35.cell? ⟨go38, ((ji29) : Int).toNat * 3, none⟩ = some (.int .i64 ((rd_T32 y684 (ji29)).f0)) := hcc38 0 _ rfl
             have hx38_1 : w35.cell? ⟨go38, ((ji29) : Int).toNat * 3 + 1, none⟩ = some (.int .i64 ((rd_T32 y684 (ji29)).f1)) := hcc38 1 _ rfl
             have hx38_2 : w35.cell? ⟨go38, ((ji29) : Int).toNat * 3 + 2, none⟩ = some (.int .i64 ((rd_T32 y684 (ji29)).f2)) := hcc38 2 _ rfl
             have hf38_0 : w35.frozen? ⟨go38, ((ji29) : Int).toNat * 3, none⟩ = false := hfr38 0
             have hf38_1 : w35.frozen? ⟨go38, ((ji29) : Int).toNat * 3 + 1, none⟩ = false := hfr38 1
             have hf38_2 : w35.frozen? ⟨go38, ((ji29) : Int).toNat * 3 + 2, none⟩ = false := hfr38 2
             clear hcl38 hcc38 hfr38 hM38
             replace p38 := eq_true p38
             replace q38 := eq_true q38
             have HX39 := Aside0.mk (show Kd.R k32 32 w35 w.heap.size (fun k_ => some k_ ≠ (.slice Ao12 t666.length co12 : Value).ownBlock) (.slice (some ⟨go38, 0, none⟩) y684.length co36) y684 from (pR HO686))
             obtain ⟨ce39, hcl39, hM39, hcc39, hfr39⟩ := Kd.R_elem HX39.out z32 ((ji29) : Int) (of_decide_eq_true pA) (by have h_ : ((ji29) : Int) < ((y684.length : Int) : Int) := of_decide_eq_true pA; first | exact h_ | (have e_ := (Kd.R_reads' HO686.out).1; omega) | simpa using h_)
             obtain rfl := k32_openM hM39
             have HP39 := Kd.R_seg HX39.out ((ji29) : Int) (of_decide_eq_true pA) (by have h_ : ((ji29) : Int) < ((y684.length : Int) : Int) := of_decide_eq_true pA; first | exact h_ | (have e_ := (Kd.R_reads' HO686.out).1; omega) | simpa using h_) (seg := [.int .i64 (wrap64 (((rd_T32 y684 (ji29)).f2) + 1))]) (j := 2) hcl39 hcc39 (show 3 ≤ 3 from by decide) (x' := (⟨(rd_T32 y684 (ji29)).f0, (rd_T32 y684 (ji29)).f1, wrap64 (((rd_T32 y684 (ji29)).f2) + 1)⟩ : S32)) (k32_mkM _ _ _ (⟨(rd_T32 y684 (ji29)).f0, (rd_T32 y684 (ji29)).f1, wrap64 (((rd_T32 y684 (ji29)).f2) + 1)⟩ : S32) ) (fun _ hk => hk)
             have hx39_2 := hcc39 2 _ rfl
             (try simp only [show (k32).sz = 3 from rfl, Nat.mul_one, Nat.add_zero] at hx39_2)
             have hf39_2 := hfr39 2
             (try simp only [show (k32).sz = 3 from rfl, Nat.mul_one, Nat.add_zero] at hf39_2)
             clear hcl39 hcc39 hfr39 hM39
             go_wp2_with (first | ((with_reducible refine gate_store (t := 3) (p := 86) rfl ?_); refine store_event (t := 3) (p := 86) (v := ?vo_w40) (w1 := (w35.setCell ⟨go38, ((ji29) : Int).toNat * 3 + 2, none⟩ (.int .i64 (wrap64 (((rd_T32 y684 (ji29)).f2) + 1))))) ?hg ?ho ?hn ?hr ?_; (case ho => rfl); (case hg => rfl); (case hn => rfl); (case hr => first | (go_simp; done) | (go_simp; rfl)); intro w40 hw; have hg : w35.grownBy w40 (some go38) := (by rw [hw]; exact HP39.2); have hp_ : Kd.R k32 32 w40 w.heap.size (fun k_ => some k_ ≠ (.slice Ao12 t666.length co12 : Value).ownBlock) (.slice (some ⟨go38, 0, none⟩) y684.length co36) y689 := (by rw [hw, Ny689.out]; exact HP39.1); clear HP39; have n0_ := Aside0.mk (Kd.R_over' (v := (.slice (some ⟨go38, 0, none⟩) y684.length co36)) (pR HO_5) (Kd.R_typed HO686.out) (by decide) hg); have n1_ := Aside0.mk (Kd.R_after (v := (.slice (some ⟨go38, 0, none⟩) y684.length co36)) (v1 := (.slice (some ⟨go38, 0, none⟩) y684.length co36)) (ok := (fun _ => True)) (pR HO_6) hg (.inl rfl)); have n2_ := Aside0.mk (Kd.R_over' (v := (.slice (some ⟨go38, 0, none⟩) y684.length co36)) (pR HO_7) (Kd.R_typed HO686.out) (by decide) hg); have n3_ := Aside0.mk (Kd.R_over' (v := (.slice (some ⟨go38, 0, none⟩) y684.length co36)) (pR HO_9) (Kd.R_typed HO686.out) (by decide) hg); have n4_ := Aside0.mk (hp_); have n5_ := Aside0.mk ((by rw [hw]; exact below_set (HB.out) GB38.out : Below w.heap.size w w40)); clear HO_5; clear HO_6; clear HO_7; clear HO_9; clear HO686; clear HB; have HO_5 := n0_; have HO_6 := n1_; have HO_7 := n2_; have HO_9 := n3_; have HO686 := n4_; have HB := n5_; clear n0_ n1_ n2_ n3_ n4_ n5_; clear hg hw hp_))
             go_meet
             case rel => exact ⟨_, (y689), H', ⟨by have := HJ2.out; have := HJ8.out; first | omega | exact Nat.le_refl _⟩, ⟨pR HO_5⟩, ⟨by (with_reducible repeat (first | apply Kd.R_alloc | apply Kd.R_drewN | apply Kd.R_drew)); exact Kd.R_mono HO_6.out (fun _ hk => hk.2)⟩, ⟨pR HO686⟩, ⟨pB⟩⟩
            ·rw [if_neg c37] at H
             have c37b0 : decide (((rd_T32 y684 (ji29)).f2) < 10) = false := decide_eq_false c37
             clear c37
             (first | rw [c37b0] | (simp only [i64_w, i32_w]; rw [c37b0]) | skip)
             have H' := Aside0.mk H
             clear H
             go_wp2
             go_meet
             case rel => exact ⟨_, (y684), H', ⟨by have := HJ2.out; have := HJ8.out; first | omega | exact Nat.le_refl _⟩, ⟨pR HO_5⟩, ⟨by (with_reducible repeat (first | apply Kd.R_alloc | apply Kd.R_drewN | apply Kd.R_drew)); exact Kd.R_mono HO_6.out (fun _ hk => hk.2)⟩, ⟨pR HO686⟩, ⟨pB⟩⟩
           case rest =>
            clear HC32
            try clear c1
            try clear c2
            try clear p2
            try clear c3
            try clear p3
            try clear q3
            try clear hx3
            try clear hf3
            try clear c4
            try clear c4b0
            try clear c4b1
            try clear c5
            try clear p6
            try clear q6
            try clear hx6
            try clear c10
            try clear c15
            try clear c15b0
            try clear c15b1
            try clear c15b2
            try clear c17
            try clear c22
            try clear c23
            try clear c23b0
            try clear c23b1
            try clear c23b2
            try clear c27
            try clear c27b0
            try clear c27b1
            try clear c27b2
            try clear c28
            try clear c30
            try clear c30b0
            try clear c31
            try clear c31b0
            try clear c37
            try clear c37b0
            try clear c38
            try clear p38
            try clear q38
            try clear hx38
            try clear hf38
            try clear c39
            try clear hx39
            try clear hf39
            try clear hx38_0
            try clear hx38_1
            try clear hx38_2
            try clear hx39_2
            try clear hx687_0
            try clear hx687_1
            try clear hx687_2
            try clear hx688_0
            try clear hx688_1
            try clear hx688_2
            try clear p2
            try clear p38
            try clear p687
            try clear p688
            try clear q38
            try clear q687
            try clear q688
            obtain ⟨kq, x12_31, HA, HJ31, HO_5, HO_6, HO_12, HB⟩ := hcut
            have hl12_31 := (Kd.R_reads' HO_12.out).1
            rw [hl12_31] at HO_12
            (try simp only [hl12_31])
            (try simp only [hl12_31] at HO_5)
            (try simp only [hl12_31] at HO_6)
            cases kq with
            | zero => exact absurd HA.out (by simp [laws_FnServeRoomMore.j2])
            | succ kj31 =>
             have H := HA.out
             clear HA
             simp only [laws_FnServeRoomMore.j2] at H
             replace H := Option.bind_eq_some_iff.mp H
             obtain ⟨⟨t690, t691⟩, A410, H⟩ := H
             replace H : (if (t665.length : Int) > 0 then (if (t665.length : Int) = 0 then (none) else ((some (([] : List (S43)) : List (S43))).bind fun y694 => (if 0 ≤ (Int.tmod (wrap64 ((l1.length : Int) / 7)) (t665.length : Int)) then (if (Int.tmod (wrap64 ((l1.length : Int) / 7)) (t665.length : Int)) ≤ (t665.length : Int) then ((some (t665.take ((Int.tmod (wrap64 ((l1.length : Int) / 7)) (t665.length : Int)) : Int).toNat : List (S43))).bind fun y697 => (if y694.length + y697.length < 5864062014805 then ((some (y694 ++ y697 : List (S43))).bind fun y701 => (if 0 ≤ (wrap64 ((Int.tmod (wrap64 ((l1.length : Int) / 7)) (t665.length : Int)) + 1)) then (if (wrap64 ((Int.tmod (wrap64 ((l1.length : Int) / 7)) (t665.length : Int)) + 1)) ≤ (t665.length : Int) then ((some (t665.drop ((wrap64 ((Int.tmod (wrap64 ((l1.length : Int) / 7)) (t665.length : Int)) + 1)) : Int).toNat : List (S43))).bind fun y704 => (if y701.length + y704.length < 5864062014805 then ((impl_ServeRoom.f kj31 (y701 ++ y704) t666).bind fun bt711 => (if t691 = true then (some bt711.2) else (some false))) else (none))) else (none)) else (none))) else (none))) else (none)) else (none)))) else (if t691 = true then (some true) else (some false))) = some r := H
             have A41 := Aside0.mk A410
             clear A410
             by_cases c42 : (t665.length : Int) > 0
             ·rw [if_pos c42] at H
              have c42b0 : decide (0 < (t665.length : Int)) = true := decide_eq_true c42
              have c42b1 : decide (0 < t665.length) = true := decide_eq_true (by omega)
              clear c42
              by_cases c43 : (t665.length : Int) = 0
              ·rw [if_pos c43] at H
               exact absurd H (by simp)
              ·rw [if_neg c43] at H
               have c43b0 : ((t665.length : Int) == 0) = false := beq_eq_false_iff_ne.mpr c43
               have c43b1 : ((t665.length : Int) != 0) = true := bne_iff_ne.mpr c43
               have c43b2 : ¬ (t665 = []) := fun h_ => c43 (by rw [h_]; rfl)
               obtain ⟨y694, hy694⟩ : ∃ y_ : List (S43), y_ = (([] : List (S43))) := ⟨_, rfl⟩
               replace H : (if 0 ≤ (Int.tmod (wrap64 ((l1.length : Int) / 7)) (t665.length : Int)) then (if (Int.tmod (wrap64 ((l1.length : Int) / 7)) (t665.length : Int)) ≤ (t665.length : Int) then ((some (t665.take ((Int.tmod (wrap64 ((l1.length : Int) / 7)) (t665.length : Int)) : Int).toNat : List (S43))).bind fun y697 => (if y694.length + y697.length < 5864062014805 then ((some (y694 ++ y697 : List (S43))).bind fun y701 => (if 0 ≤ (wrap64 ((Int.tmod (wrap64 ((l1.length : Int) / 7)) (t665.length : Int)) + 1)) then (if (wrap64 ((Int.tmod (wrap64 ((l1.length : Int) / 7)) (t665.length : Int)) + 1)) ≤ (t665.length : Int) then ((some (t665.drop ((wrap64 ((Int.tmod (wrap64 ((l1.length : Int) / 7)) (t665.length : Int)) + 1)) : Int).toNat : List (S43))).bind fun y704 => (if y701.length + y704.length < 5864062014805 then ((impl_ServeRoom.f kj31 (y701 ++ y704) t666).bind fun bt711 => (if t691 = true then (some bt711.2) else (some false))) else (none))) else (none)) else (none))) else (none))) else (none)) else (none)) = some r := by first | (rw [hy694]; with_reducible exact H) | (have H2_ := (Option.bind_some _ _).symm.trans H; rw [hy694]; with_reducible exact H2_) | (have H2_ := (Option.bind_some _ _).symm.trans H; with_reducible exact H2_) | with_reducible exact H | (rw [hy694]; exact H) | exact H
               have Ny694 := Aside0.mk hy694
               clear hy694
               obtain ⟨ji44, hji44⟩ : ∃ j_ : Int, (Int.tmod (wrap64 ((l1.length : Int) / 7)) (t665.length : Int)) = j_ := ⟨_, rfl⟩
               replace H : (if 0 ≤ (ji44) then (if (ji44) ≤ (t665.length : Int) then ((some (t665.take ((ji44) : Int).toNat : List (S43))).bind fun y697 => (if y694.length + y697.length < 5864062014805 then ((some (y694 ++ y697 : List (S43))).bind fun y701 => (if 0 ≤ (wrap64 ((ji44) + 1)) then (if (wrap64 ((ji44) + 1)) ≤ (t665.length : Int) then ((some (t665.drop ((wrap64 ((ji44) + 1)) : Int).toNat : List (S43))).bind fun y704 => (if y701.length + y704.length < 5864062014805 then ((impl_ServeRoom.f kj31 (y701 ++ y704) t666).bind fun bt711 => (if t691 = true then (some bt711.2) else (some false))) else (none))) else (none)) else (none))) else (none))) else (none)) else (none)) = some r := by first | (rw [hji44] at H; exact H) | (simp only [hji44] at H ⊢; exact H)
               (try rw [hji44] at A41)
               by_cases c45 : 0 ≤ (ji44)
               ·rw [if_pos c45] at H
                have c45b0 := eq_true c45
                have c45b1 : decide (0 ≤ (ji44)) = true := decide_eq_true c45
                clear c45
                by_cases c46 : (ji44) ≤ (t665.length : Int)
                ·rw [if_pos c46] at H
                 have c46b0 := eq_true c46
                 have c46b1 : decide ((ji44) ≤ (t665.length : Int)) = true := decide_eq_true c46
                 clear c46
                 obtain ⟨y697, hy697⟩ : ∃ y_ : List (S43), y_ = (t665.take ((ji44) : Int).toNat) := ⟨_, rfl⟩
                 replace H : (if y694.length + y697.length < 5864062014805 then ((some (y694 ++ y697 : List (S43))).bind fun y701 => (if 0 ≤ (wrap64 ((ji44) + 1)) then (if (wrap64 ((ji44) + 1)) ≤ (t665.length : Int) then ((some (t665.drop ((wrap64 ((ji44) + 1)) : Int).toNat : List (S43))).bind fun y704 => (if y701.length + y704.length < 5864062014805 then ((impl_ServeRoom.f kj31 (y701 ++ y704) t666).bind fun bt711 => (if t691 = true then (some bt711.2) else (some false))) else (none))) else (none)) else (none))) else (none)) = some r := by first | (rw [hy697]; with_reducible exact H) | (have H2_ := (Option.bind_some _ _).symm.trans H; rw [hy697]; with_reducible exact H2_) | (have H2_ := (Option.bind_some _ _).symm.trans H; with_reducible exact H2_) | with_reducible exact H | (rw [hy697]; exact H) | exact H
                 have Ny697 := Aside0.mk hy697
                 clear hy697
                 by_cases c47 : y694.length + y697.length < 5864062014805
                 ·rw [if_pos c47] at H
                  have LMc47 := Aside0.mk c47
                  clear c47
                  obtain ⟨y701, hy701⟩ : ∃ y_ : List (S43), y_ = (y694 ++ y697) := ⟨_, rfl⟩
                  replace H : (if 0 ≤ (wrap64 ((ji44) + 1)) then (if (wrap64 ((ji44) + 1)) ≤ (t665.length : Int) then ((some (t665.drop ((wrap64 ((ji44) + 1)) : Int).toNat : List (S43))).bind fun y704 => (if y701.length + y704.length < 5864062014805 then ((impl_ServeRoom.f kj31 (y701 ++ y704) t666).bind fun bt711 => (if t691 = true then (some bt711.2) else (some false))) else (none))) else (none)) else (none)) = some r := by first | (rw [hy701]; with_reducible exact H) | (have H2_ := (Option.bind_some _ _).symm.trans H; rw [hy701]; with_reducible exact H2_) | (have H2_ := (Option.bind_some _ _).symm.trans H; with_reducible exact H2_) | with_reducible exact H | (rw [hy701]; exact H) | exact H
                  have Ny701 := Aside0.mk hy701
                  clear hy701
                  obtain ⟨ji48, hji48⟩ : ∃ j_ : Int, (wrap64 ((ji44) + 1)) = j_ := ⟨_, rfl⟩
                  replace H : (if 0 ≤ (ji48) then (if (ji48) ≤ (t665.length : Int) then ((some (t665.drop ((ji48) : Int).toNat : List (S43))).bind fun y704 => (if y701.length + y704.length < 5864062014805 then ((impl_ServeRoom.f kj31 (y701 ++ y704) t666).bind fun bt711 => (if t691 = true then (some bt711.2) else (some false))) else (none))) else (none)) else (none)) = some r := by first | (rw [hji48] at H; exact H) | (simp only [hji48] at H ⊢; exact H)
                  (try rw [hji48] at A41)
                  have hji48w : (IntKind.i64.wrap ((ji44) + 1)) = ji48 := (i64_w _).trans hji48
                  by_cases c49 : 0 ≤ (ji48)
                  ·rw [if_pos c49] at H
                   have c49b0 := eq_true c49
                   have c49b1 : decide (0 ≤ (ji48)) = true := decide_eq_true c49
                   clear c49
                   by_cases c50 : (ji48) ≤ (t665.length : Int)
                   ·rw [if_pos c50] at H
                    have c50b0 := eq_true c50
                    have c50b1 : decide ((ji48) ≤ (t665.length : Int)) = true := decide_eq_true c50
                    clear c50
                    obtain ⟨y704, hy704⟩ : ∃ y_ : List (S43), y_ = (t665.drop ((ji48) : Int).toNat) := ⟨_, rfl⟩
                    replace H : (if y701.length + y704.length < 5864062014805 then ((impl_ServeRoom.f kj31 (y701 ++ y704) t666).bind fun bt711 => (if t691 = true then (some bt711.2) else (some false))) else (none)) = some r := by first | (rw [hy704]; with_reducible exact H) | (have H2_ := (Option.bind_some _ _).symm.trans H; rw [hy704]; with_reducible exact H2_) | (have H2_ := (Option.bind_some _ _).symm.trans H; with_reducible exact H2_) | with_reducible exact H | (rw [hy704]; exact H) | exact H
                    have Ny704 := Aside0.mk hy704
                    clear hy704
                    by_cases c51 : y701.length + y704.length < 5864062014805
                    ·rw [if_pos c51] at H
                     have LMc51 := Aside0.mk c51
                     clear c51
                     obtain ⟨y708, hy708⟩ : ∃ y_ : List (S43), y_ = (y701 ++ y704) := ⟨_, rfl⟩
                     replace H : ((impl_ServeRoom.f kj31 y708 t666).bind fun bt711 => (if t691 = true then (some bt711.2) else (some false))) = some r := by first | (rw [hy708]; with_reducible exact H) | (have H2_ := (Option.bind_some _ _).symm.trans H; rw [hy708]; with_reducible exact H2_) | (have H2_ := (Option.bind_some _ _).symm.trans H; with_reducible exact H2_) | with_reducible exact H | (rw [hy708]; exact H) | exact H
                     have Ny708 := Aside0.mk hy708
                     clear hy708
                     replace H := Option.bind_eq_some_iff.mp H
                     obtain ⟨⟨t711, t712⟩, A520, H⟩ := H
                     replace H : (if t691 = true then (some t712) else (some false)) = some r := H
                     have A52 := Aside0.mk A520
                     clear A520
                     by_cases c53 : t691 = true
                     ·subst c53
                      have H1 : (some t712) = some r := by rw [if_pos rfl] at H; exact H
                      clear H
                      have H := H1
                      clear H1
                      obtain rfl := Option.some.inj H
                      try go_wp2_with (first | ((with_reducible refine gate_callee (f := 38) rfl ?_); refine goesL_ (some 90) rfl rfl Try.func38 pL rfl #[.slice Ao11 t665.length co11, .slice (some ad687) x12_31.length co36] rfl pM ?_; (with_reducible refine (impl_ServeRoom.calls kj31 _ _ t665 _ _ x12_31 t690 true _ ?side1 ?side2 ?side3 ?side4 A41.out).mono ?_); (case side1 => exact pS ((Kd.R_reads' HO_5.out).2.2)); (case side2 => exact (Kd.R_reads' HO_5.out).2.1); (case side3 => exact pS ((Kd.R_reads' HO_12.out).2.2)); (case side4 => exact (Kd.R_reads' HO_12.out).2.1); rintro e w54 ⟨v692, rfl, ho0, hb⟩; refine ⟨_, rfl, ?_⟩; have n0_ := Aside0.mk (Kd.R_below (pR HO_5) hb); have n1_ := Aside0.mk (Kd.R_below (pR HO_6) hb); have n2_ := Aside0.mk (Kd.R_below (pR HO_12) hb); have n3_ := Aside0.mk (Kd.R_lower ho0 (below_size pB)); have n4_ := Aside0.mk (below_step pB hb); clear HO_5; clear HO_6; clear HO_12; clear HB; have HO_5 := n0_; have HO_6 := n1_; have HO_12 := n2_; have HO693 := n3_; have HB := n4_; clear n0_ n1_ n2_ n3_ n4_; (try clear hb); (try clear hb2); (try clear hk); (try clear hi); (try clear ho0)))
                      have n0_ := Aside0.mk (Kd.R_drew HO_5.out)
                      have n1_ := Aside0.mk (Kd.R_drew HO_6.out)
                      have n2_ := Aside0.mk (Kd.R_drew HO_12.out)
                      have n3_ := Aside0.mk (Kd.R_drew HO693.out)
                      have n4_ := Aside0.mk (below_drew1 HB.out)
                      clear HO_5
                      clear HO_6
                      clear HO_12
                      clear HO693
                      clear HB
                      have HO_5 := n0_
                      have HO_6 := n1_
                      have HO_12 := n2_
                      have HO693 := n3_
                      have HB := n4_
                      clear n0_ n1_ n2_ n3_ n4_
                      have q56 : ((ji44) : Int) ≤ ((t665.length : Int) : Int) := of_decide_eq_true pA
                      obtain ⟨i056, hi056, _, hsz56, _⟩ := info_parts info43
                      have hroom56 : t665.length ≤ co11 := (Kd.R_reads' HO_5.out).2.1
                      have hC56 : Kd.C k43 _ Ao11 t665.length t665 := (Kd.R_reads' HO_5.out).2.2
                      have hcut56 := cut_to (P := Try.prog) 34 43 .i64 Try.underlying34 hi056 Ao11 t665.length co11 (ji44) (of_decide_eq_true pA) q56 hroom56
                      have hr56 := Kd.C_take (m := ((ji44) : Int).toNat) hC56 (by omega)
                      have hy56 : y697.length = ((ji44) : Int).toNat := (by rw [Ny697.out, List.length_take]; omega)
                      rw [← Ny697.out] at hr56
                      rw [← hy56] at hcut56
                      have HR700 := Aside0.mk hr56
                      have HC700 := Aside0.mk (show y697.length ≤ co11 from by omega)
                      clear hr56 hC56 hroom56 hi056 hsz56
                      have KY56 := Aside0.mk hy56
                      clear hy56
                      have KL56 := Aside0.mk (show ((ji44) : Int).toNat ≤ t665.length from by omega)
                      replace q56 := eq_true q56
                      have q57 : ((ji48) : Int) ≤ ((t665.length : Int) : Int) := of_decide_eq_true pA
                      obtain ⟨i057, hi057, _, hsz57, _⟩ := info_parts info43
                      have hroom57 : t665.length ≤ co11 := (Kd.R_reads' HO_5.out).2.1
                      have hC57 : Kd.C k43 _ Ao11 t665.length t665 := (Kd.R_reads' HO_5.out).2.2
                      have q057 : (0 : Int) ≤ ((ji48) : Int) := of_decide_eq_true pA
                      have hcut57 := cut_from (P := Try.prog) 34 43 .i64 Try.underlying34 hi057 3 hsz57 Ao11 t665.length co11 (ji48) q057 q57
                      have hr57 := Kd.C_drop (m := ((ji48) : Int).toNat) (c := co11) hC57 (by omega) hroom57
                      obtain ⟨A57, hA57⟩ : ∃ A1, A1 = (if co11 = ((ji48) : Int).toNat then Ao11 else (Ao11 : Option Addr).map (·.add (((ji48) : Int).toNat * 3))) := ⟨_, rfl⟩
                      obtain ⟨c57, hc57⟩ : ∃ c1, c1 = co11 - ((ji48) : Int).toNat := ⟨_, rfl⟩
                      have hy57 : y704.length = t665.length - ((ji48) : Int).toNat := (by rw [Ny704.out, List.length_drop] <;> omega)
                      rw [show (t665).drop ((ji48) : Int).toNat = y704 from Ny704.out.symm] at hr57
                      replace hr57 : Kd.C k43 _ A57 y704.length y704 := (by rw [hA57]; exact hr57)
                      rw [← hy57, ← hA57, ← hc57] at hcut57
                      have HR707 := Aside0.mk hr57
                      have HC707 := Aside0.mk (show y704.length ≤ c57 from by rw [hy57, hc57]; exact Nat.sub_le_sub_right hroom57 _)
                      clear hr57 hC57 hroom57 hi057 hsz57 hc57
                      have KY57 := Aside0.mk hy57
                      have KA57 := Aside0.mk hA57
                      clear hy57 hA57
                      have KL57 := Aside0.mk (show ((ji48) : Int).toNat ≤ t665.length from by omega)
                      replace q57 := eq_true q57
                      refine start_ (n := 16) (S := fun w' => True) (ds := []) #[false, false, false, false, false, false, false, false, false, false, false, false, false, false, false, false] pL rfl rfl trivial (fun hHeld => ?_); refine with_tabW laws_FnServeRoomMore.tab16 laws_FnServeRoomMore.bits16 (fun HT_ HW_ => ?_)
                      generalize w54.drew = w55 at HO_5 HO_6 HO_12 HO693 HB HR700 HR707 hHeld ⊢
                      refine pure_ (i := 1) (N := some 104) (v := ?_) (a' := ?_) #[false, true, false, false, false, false, false, false, false, false, false, false, false, false, false, false] rfl rfl (any_of HT_.out pL) (fun _ _ _ h => h) (Or.inl ⟨by rfl, ?_⟩) ?_ ?_
                      rotate_left
                      ·intro w'
                       go_simp
                       with_reducible rfl
                      rotate_left
                      ·exact pP
                      refine pure_ (i := 2) (N := some 105) (v := ?_) (a' := ?_) #[false, true, true, false, false, false, false, false, false, false, false, false, false, false, false, false] rfl rfl (any_of HT_.out pL) (fun _ _ _ h => h) (Or.inl ⟨by rfl, ?_⟩) ?_ ?_
                      rotate_left
                      ·intro w'
                       go_simp
                       with_reducible rfl
                      rotate_left
                      ·exact pP
                      refine pure_ (i := 3) (N := some 106) (v := ?_) (a' := ?_) #[false, true, true, true, false, false, false, false, false, false, false, false, false, false, false, false] rfl rfl (any_of HT_.out pL) (fun _ _ _ h => h) (Or.inl ⟨by rfl, ?_⟩) ?_ ?_
                      rotate_left
                      ·intro w'
                       go_simp
                       with_reducible rfl
                      rotate_left
                      ·exact pP
                      refine pure_ (i := 5) (N := some 108) (v := ?_) (a' := ?_) #[false, true, true, true, false, true, false, false, false, false, false, false, false, false, false, false] rfl rfl (any_of HT_.out pL) (fun _ _ _ h => h) (Or.inl ⟨by rfl, ?_⟩) ?_ ?_
                      rotate_left
                      ·intro w'
                       go_simp
                       with_reducible rfl
                      rotate_left
                      ·exact pP
                      refine pure_ (i := 6) (N := some 109) (v := ?_) (a' := ?_) #[false, true, true, true, false, true, true, false, false, false, false, false, false, false, false, false] rfl rfl (any_of HT_.out pL) (fun _ _ _ h => h) (Or.inl ⟨by rfl, ?_⟩) ?_ ?_
                      rotate_left
                      ·intro w'
                       go_simp
                       with_reducible rfl
                      rotate_left
                      ·exact pP
                      refine pure_ (i := 7) (N := some 110) (v := ?_) (a' := ?_) #[false, true, true, true, false, true, true, true, false, false, false, false, false, false, false, false] rfl rfl (any_of HT_.out pL) (fun _ _ _ h => h) (Or.inl ⟨by rfl, ?_⟩) ?_ ?_
                      rotate_left
                      ·intro w'
                       go_simp
                       with_reducible rfl
                      rotate_left
                      ·exact pP
                      refine pure_ (i := 8) (N := some 111) (v := ?_) (a' := ?_) #[false, true, true, true, false, true, true, true, true, false, false, false, false, false, false, false] rfl rfl (any_of HT_.out pL) (fun _ _ _ h => h) (Or.inl ⟨by rfl, ?_⟩) ?_ ?_
                      rotate_left
                      ·intro w'
                       go_simp
                       with_reducible rfl
                      rotate_left
                      ·exact pP
                      refine pure_ (i := 10) (N := some 113) (v := ?_) (a' := ?_) #[false, true, true, true, false, true, true, true, true, false, true, false, false, false, false, false] rfl rfl (any_of HT_.out pL) (fun _ _ _ h => h) (Or.inl ⟨by rfl, ?_⟩) ?_ ?_
                      rotate_left
                      ·intro w'
                       go_simp
                       with_reducible rfl
                      rotate_left
                      ·exact pP
                      refine one_ (i := 0) (N := some 103) #[true, true, true, true, false, true, true, true, true, false, true, false, false, false, false, false] rfl rfl (one_of HT_.out pL) (by decide) (fun K hK => ?_)
                      refine Kd.R_lit_step k43 _ 43 ?hg (N := 103) ?hd (xs := ([] : List (S43))) (inner := []) (ok := fun _ => True) (okp := fun _ => True) ?hr ?hp (fun _ hk => hk) trivial (Below.refl _ _) (Nat.le_refl _) (by simp) ?_; (case hd => rfl); (case hg => rfl); (case hr => first | (go_simp; done) | (go_simp; rfl)); (case hp => exact (Reps.none _ _))
                      intro v695 w58 ho59 hb hg_ hnew_
                      clear hg_ hnew_
                      (first | rw [← Ny694.out] at ho59 | (simp only [Int.reduceToNat] at ho59; rw [← Ny694.out] at ho59))
                      have n0_ := Aside0.mk (Kd.R_elder' (pR HO_5) (Kd.R_base ho59) hb)
                      have n1_ := Aside0.mk (Kd.R_below (pR HO_6) hb)
                      have n2_ := Aside0.mk (Kd.R_below (pR HO_12) hb)
                      have n3_ := Aside0.mk (Kd.R_below (pR HO693) hb)
                      have n4_ := Aside0.mk (Kd.R_lower (Kd.R_new' ho59 (Kd.R_lt (pR HO_5))) (below_size pB))
                      have n5_ := Aside0.mk (Kd.C_below (by repeat (first | (with_reducible exact HR700.out) | (with_reducible refine Kd.C_alloc ?_ _) | (with_reducible refine Kd.C_drewN ?_ _) | (with_reducible refine Kd.C_drew ?_) | exact HR700.out)) hb)
                      have n6_ := Aside0.mk (Kd.C_below (by repeat (first | (with_reducible exact HR707.out) | (with_reducible refine Kd.C_alloc ?_ _) | (with_reducible refine Kd.C_drewN ?_ _) | (with_reducible refine Kd.C_drew ?_) | exact HR707.out)) hb)
                      have n7_ := Aside0.mk (below_step pB hb)
                      clear HO_5
                      clear HO_6
                      clear HO_12
                      clear HO693
                      clear HR700
                      clear HR707
                      clear HB
                      have HO_5 := n0_
                      have HO_6 := n1_
                      have HO_12 := n2_
                      have HO693 := n3_
                      have HO696 := n4_
                      have HR700 := n5_
                      have HR707 := n6_
                      have HB := n7_
                      clear n0_ n1_ n2_ n3_ n4_ n5_ n6_ n7_
                      clear hb ho59
                      refine hK.out _ _ trivial (fun hHeld => ?_)
                      clear hK K
                      refine norm_ (a' := ?_) ?_ ?_
                      rotate_left
                      ·show Act.put _ (some 103) _ = _
                       exact pP
                      refine one_ (i := 4) (N := some 107) #[true, true, true, true, true, true, true, true, true, false, true, false, false, false, false, false] rfl rfl (one_of HT_.out pL) (by decide) (fun K hK => ?_)
                      refine Kd.R_append_rows_step k43 (w0 := w) w.heap.size (by rfl) (.tmp 103) (.tmp 106) 34 43 (.agg #[(.int .i64 0), (.int .i64 0), (.int .i64 0)]) 24 rfl Try.underlying34 info43 rfl (by decide) (by omega) v695 y694 y697 _ _ _ (fun k_ => some k_ ≠ (.slice Ao11 t665.length co11 : Value).ownBlock) (fun _ => False) rfl rfl ?aO ?aR (fun _ _ h => h) (fun _ h => h.elim) ?aF ?aB ?aS ?aL ?_
                      (case aR => repeat (first | exact (by repeat (first | (with_reducible exact HR700.out) | (with_reducible refine Kd.C_alloc ?_ _) | (with_reducible refine Kd.C_drewN ?_ _) | (with_reducible refine Kd.C_drew ?_) | exact HR700.out)) | (with_reducible refine Kd.C_alloc ?_ _) | (with_reducible refine Kd.C_drewN ?_ _) | (with_reducible refine Kd.C_drew ?_)))
                      (case aB => exact pB)
                      (case aF => exact (fun k_ hk => Kd.fresh' (Kd.R_lt (pR HO_5)) k_ hk))
                      (case aO => exact (by (with_reducible repeat (first | apply Kd.R_alloc | apply Kd.R_drewN | apply Kd.R_drew)); exact Kd.R_mono HO696.out (fun _ hk => hk.2)))
                      (case aS => exact (below_size pB))
                      (case aL => have := LMc47.out; omega)
                      intro v702 w60 ho hb hg hat
                      rw [← Ny701.out] at ho
                      have n0_ := Aside0.mk (Kd.R_after (ok := (fun _ => True)) (pR HO_5) hg hat)
                      have n1_ := Aside0.mk (Kd.R_over' (pR HO_6) (Kd.R_typed (pR HO696)) (by decide) hg)
                      have n2_ := Aside0.mk (Kd.R_over' (pR HO_12) (Kd.R_typed (pR HO696)) (by decide) hg)
                      have n3_ := Aside0.mk (Kd.R_over' (pR HO693) (Kd.R_typed (pR HO696)) (by decide) hg)
                      have n4_ := Aside0.mk (hb)
                      have n5_ := Aside0.mk ((show Kd.C k43 w60 Ao11 y697.length y697 from by rw [Ny697.out]; exact Kd.C_take (m := ((ji44) : Int).toNat) ((Kd.R_reads' (Kd.R_after (ok := (fun _ => True)) (pR HO_5) hg hat)).2.2) KL56.out))
                      have n6_ := Aside0.mk ((show Kd.C k43 w60 A57 y704.length y704 from by rw [Ny704.out, KA57.out]; exact Kd.C_drop (m := ((ji48) : Int).toNat) (c := co11) ((Kd.R_reads' (Kd.R_after (ok := (fun _ => True)) (pR HO_5) hg hat)).2.2) KL57.out ((Kd.R_reads' (Kd.R_after (ok := (fun _ => True)) (pR HO_5) hg hat)).2.1)))
                      have n7_ := Aside0.mk (ho)
                      clear HO_5
                      clear HO_6
                      clear HO_12
                      clear HO693
                      clear HB
                      clear HR700
                      clear HR707
                      clear HO696
                      have HO_5 := n0_
                      have HO_6 := n1_
                      have HO_12 := n2_
                      have HO693 := n3_
                      have HB := n4_
                      have HR700 := n5_
                      have HR707 := n6_
                      have HO703 := n7_
                      clear n0_ n1_ n2_ n3_ n4_ n5_ n6_ n7_
                      clear ho hb hg hat
                      refine hK.out _ _ trivial (fun hHeld => ?_)
                      clear hK K
                      refine norm_ (a' := ?_) ?_ ?_
                      rotate_left
                      ·show Act.put _ (some 107) _ = _
                       exact pP
                      refine one_ (i := 9) (N := some 112) #[true, true, true, true, true, true, true, true, true, true, true, false, false, false, false, false] rfl rfl (one_of HT_.out pL) (by decide) (fun K hK => ?_)
                      refine Kd.R_append_rows_step k43 (w0 := w) w.heap.size (by rfl) (.tmp 107) (.tmp 111) 34 43 (.agg #[(.int .i64 0), (.int .i64 0), (.int .i64 0)]) 24 rfl Try.underlying34 info43 rfl (by decide) (by omega) v702 y701 y704 _ _ _ (fun k_ => some k_ ≠ (.slice Ao11 t665.length co11 : Value).ownBlock) (fun _ => False) rfl rfl ?aO ?aR (fun _ _ h => h) (fun _ h => h.elim) ?aF ?aB ?aS ?aL ?_
                      (case aR => repeat (first | exact (by repeat (first | (with_reducible exact HR707.out) | (with_reducible refine Kd.C_alloc ?_ _) | (with_reducible refine Kd.C_drewN ?_ _) | (with_reducible refine Kd.C_drew ?_) | exact HR707.out)) | (with_reducible refine Kd.C_alloc ?_ _) | (with_reducible refine Kd.C_drewN ?_ _) | (with_reducible refine Kd.C_drew ?_)))
                      (case aB => exact pB)
                      (case aF => exact (fun k_ hk => Kd.fresh' (Kd.R_lt (pR HO_5)) k_ hk))
                      (case aO => exact (pR HO703))
                      (case aS => exact (below_size pB))
                      (case aL => have := LMc51.out; omega)
                      intro v709 w61 ho hb hg hat
                      rw [← Ny708.out] at ho
                      have n0_ := Aside0.mk (Kd.R_after (ok := (fun _ => True)) (pR HO_5) hg hat)
                      have n1_ := Aside0.mk (Kd.R_over' (pR HO_6) (Kd.R_typed (pR HO703)) (by decide) hg)
                      have n2_ := Aside0.mk (Kd.R_over' (pR HO_12) (Kd.R_typed (pR HO703)) (by decide) hg)
                      have n3_ := Aside0.mk (Kd.R_over' (pR HO693) (Kd.R_typed (pR HO703)) (by decide) hg)
                      have n4_ := Aside0.mk (hb)
                      have n5_ := Aside0.mk ((show Kd.C k43 w61 Ao11 y697.length y697 from by rw [Ny697.out]; exact Kd.C_take (m := ((ji44) : Int).toNat) ((Kd.R_reads' (Kd.R_after (ok := (fun _ => True)) (pR HO_5) hg hat)).2.2) KL56.out))
                      have n6_ := Aside0.mk ((show Kd.C k43 w61 A57 y704.length y704 from by rw [Ny704.out, KA57.out]; exact Kd.C_drop (m := ((ji48) : Int).toNat) (c := co11) ((Kd.R_reads' (Kd.R_after (ok := (fun _ => True)) (pR HO_5) hg hat)).2.2) KL57.out ((Kd.R_reads' (Kd.R_after (ok := (fun _ => True)) (pR HO_5) hg hat)).2.1)))
                      have n7_ := Aside0.mk (ho)
                      clear HO_5
                      clear HO_6
                      clear HO_12
                      clear HO693
                      clear HB
                      clear HR700
                      clear HR707
                      clear HO703
                      have HO_5 := n0_
                      have HO_6 := n1_
                      have HO_12 := n2_
                      have HO693 := n3_
                      have HB := n4_
                      have HR700 := n5_
                      have HR707 := n6_
                      have HO710 := n7_
                      clear n0_ n1_ n2_ n3_ n4_ n5_ n6_ n7_
                      clear ho hb hg hat
                      obtain ⟨Ao62, co62, eo62⟩ := Kd.R_slice HO710.out
                      (first | subst eo62 | (injection eo62 with f1_ f2_ f3_; have f4_ := f1_.symm; have f5_ := f3_.symm; clear f1_ f2_ f3_; subst f4_; subst f5_))
                      refine hK.out _ _ trivial (fun hHeld => ?_)
                      clear hK K
                      refine norm_ (a' := ?_) ?_ ?_
                      rotate_left
                      ·show Act.put _ (some 112) _ = _
                       exact pP
                      refine one_ (i := 11) (N := some 114) #[true, true, true, true, true, true, true, true, true, true, true, true, false, false, false, false] rfl rfl (one_of HT_.out pL) (by decide) (fun K hK => ?_)
                      refine goes_ Try.func38 pL rfl #[.slice Ao62 y708.length co62, .slice Ao12 t666.length co12] (by rfl) rfl rfl pM ?_
                      with_reducible refine (impl_ServeRoom.calls kj31 _ _ y708 _ _ t666 t711 t712 _ ?side1 ?side2 ?side3 ?side4 A52.out).mono ?_
                      (case side1 => exact pS ((Kd.R_reads' HO710.out).2.2))
                      (case side2 => exact (Kd.R_reads' HO710.out).2.1)
                      (case side3 => exact pS ((Kd.R_reads' HO_6.out).2.2))
                      (case side4 => exact (Kd.R_reads' HO_6.out).2.1)
                      rintro e w63 ⟨v713, rfl, ho0, hb⟩
                      refine ⟨_, rfl, ?_⟩
                      have n0_ := Aside0.mk (Kd.R_below (pR HO_5) hb)
                      have n1_ := Aside0.mk (Kd.R_below (pR HO_6) hb)
                      have n2_ := Aside0.mk (Kd.R_below (pR HO_12) hb)
                      have n3_ := Aside0.mk (Kd.R_elder' (pR HO693) (Kd.R_base ho0) hb)
                      have n4_ := Aside0.mk (Kd.R_below (pR HO710) hb)
                      have n5_ := Aside0.mk (Kd.R_lower (Kd.R_new' ho0 (Kd.R_lt (pR HO693))) (below_size pB))
                      have n6_ := Aside0.mk (Kd.C_below (by repeat (first | (with_reducible exact HR700.out) | (with_reducible refine Kd.C_alloc ?_ _) | (with_reducible refine Kd.C_drewN ?_ _) | (with_reducible refine Kd.C_drew ?_) | exact HR700.out)) hb)
                      have n7_ := Aside0.mk (Kd.C_below (by repeat (first | (with_reducible exact HR707.out) | (with_reducible refine Kd.C_alloc ?_ _) | (with_reducible refine Kd.C_drewN ?_ _) | (with_reducible refine Kd.C_drew ?_) | exact HR707.out)) hb)
                      have n8_ := Aside0.mk (below_step pB hb)
                      clear HO_5
                      clear HO_6
                      clear HO_12
                      clear HO693
                      clear HO710
                      clear HR700
                      clear HR707
                      clear HB
                      have HO_5 := n0_
                      have HO_6 := n1_
                      have HO_12 := n2_
                      have HO693 := n3_
                      have HO710 := n4_
                      have HO714 := n5_
                      have HR700 := n6_
                      have HR707 := n7_
                      have HB := n8_
                      clear n0_ n1_ n2_ n3_ n4_ n5_ n6_ n7_ n8_
                      (try clear hb)
                      (try clear hb2)
                      (try clear hk)
                      (try clear hi)
                      (try clear ho0)
                      refine hK.out _ _ trivial (fun hHeld => ?_)
                      clear hK K
                      refine norm_ (a' := ?_) ?_ ?_
                      rotate_left
                      ·show Act.put _ (some 114) _ = _
                       exact pP
                      refine pure_ (i := 12) (N := some 102) (v := ?_) (a' := ?_) #[true, true, true, true, true, true, true, true, true, true, true, true, true, false, false, false] rfl rfl (any_of HT_.out pL) (fun _ _ _ h => h) (Or.inl ⟨by rfl, ?_⟩) ?_ ?_
                      rotate_left
                      ·intro w'
                       go_simp
                       with_reducible rfl
                      rotate_left
                      ·exact pP
                      refine pure_ (i := 13) (N := some 115) (v := ?_) (a' := ?_) #[true, true, true, true, true, true, true, true, true, true, true, true, true, true, false, false] rfl rfl (any_of HT_.out pL) (fun _ _ _ h => h) (Or.inl ⟨by rfl, ?_⟩) ?_ ?_
                      rotate_left
                      ·intro w'
                       go_simp
                       with_reducible rfl
                      rotate_left
                      ·exact pP
                      refine pure_ (i := 14) (N := some 116) (v := ?_) (a' := ?_) #[true, true, true, true, true, true, true, true, true, true, true, true, true, true, true, false] rfl rfl (any_of HT_.out pL) (fun _ _ _ h => h) (Or.inl ⟨by rfl, ?_⟩) ?_ ?_
                      rotate_left
                      ·intro w'
                       go_simp
                       with_reducible rfl
                      rotate_left
                      ·exact pP
                      refine pure_ (i := 15) (N := some 15) (v := ?_) (a' := ?_) #[true, true, true, true, true, true, true, true, true, true, true, true, true, true, true, true] rfl rfl (any_of HT_.out pL) (fun _ _ _ h => h) (Or.inl ⟨by rfl, ?_⟩) ?_ ?_
                      rotate_left
                      ·intro w'
                       go_simp
                       with_reducible rfl
                      rotate_left
                      ·exact pP
                      refine done_ (done_of HT_.out pL) ?_
                      try go_wp2
                      go_ret
                      exact ⟨by first | rfl | (simp [errW_none, errW_some] <;> rfl) | (simp only [← hji29, ← hji44, ← hji48]; first | rfl | (simp [errW_none, errW_some] <;> rfl)) | (simp [*, errW_none, errW_some] <;> rfl), pB⟩
                     ·replace c53 := Bool.eq_false_iff.mpr c53
                      subst c53
                      have H1 : (some false) = some r := by rw [if_neg (show ¬ (false = true) by decide)] at H; exact H
                      clear H
                      have H := H1
                      clear H1
                      obtain rfl := Option.some.inj H
                      try go_wp2_with (first | ((with_reducible refine gate_callee (f := 38) rfl ?_); refine goesL_ (some 90) rfl rfl Try.func38 pL rfl #[.slice Ao11 t665.length co11, .slice (some ad687) x12_31.length co36] rfl pM ?_; (with_reducible refine (impl_ServeRoom.calls kj31 _ _ t665 _ _ x12_31 t690 false _ ?side1 ?side2 ?side3 ?side4 A41.out).mono ?_); (case side1 => exact pS ((Kd.R_reads' HO_5.out).2.2)); (case side2 => exact (Kd.R_reads' HO_5.out).2.1); (case side3 => exact pS ((Kd.R_reads' HO_12.out).2.2)); (case side4 => exact (Kd.R_reads' HO_12.out).2.1); rintro e w64 ⟨v692, rfl, ho0, hb⟩; refine ⟨_, rfl, ?_⟩; have n0_ := Aside0.mk (Kd.R_below (pR HO_5) hb); have n1_ := Aside0.mk (Kd.R_below (pR HO_6) hb); have n2_ := Aside0.mk (Kd.R_below (pR HO_12) hb); have n3_ := Aside0.mk (Kd.R_lower ho0 (below_size pB)); have n4_ := Aside0.mk (below_step pB hb); clear HO_5; clear HO_6; clear HO_12; clear HB; have HO_5 := n0_; have HO_6 := n1_; have HO_12 := n2_; have HO693 := n3_; have HB := n4_; clear n0_ n1_ n2_ n3_ n4_; (try clear hb); (try clear hb2); (try clear hk); (try clear hi); (try clear ho0)))
                      have n0_ := Aside0.mk (Kd.R_drew HO_5.out)
                      have n1_ := Aside0.mk (Kd.R_drew HO_6.out)
                      have n2_ := Aside0.mk (Kd.R_drew HO_12.out)
                      have n3_ := Aside0.mk (Kd.R_drew HO693.out)
                      have n4_ := Aside0.mk (below_drew1 HB.out)
                      clear HO_5
                      clear HO_6
                      clear HO_12
                      clear HO693
                      clear HB
                      have HO_5 := n0_
                      have HO_6 := n1_
                      have HO_12 := n2_
                      have HO693 := n3_
                      have HB := n4_
                      clear n0_ n1_ n2_ n3_ n4_
                      have q66 : ((ji44) : Int) ≤ ((t665.length : Int) : Int) := of_decide_eq_true pA
                      obtain ⟨i066, hi066, _, hsz66, _⟩ := info_parts info43
                      have hroom66 : t665.length ≤ co11 := (Kd.R_reads' HO_5.out).2.1
                      have hC66 : Kd.C k43 _ Ao11 t665.length t665 := (Kd.R_reads' HO_5.out).2.2
                      have hcut66 := cut_to (P := Try.prog) 34 43 .i64 Try.underlying34 hi066 Ao11 t665.length co11 (ji44) (of_decide_eq_true pA) q66 hroom66
                      have hr66 := Kd.C_take (m := ((ji44) : Int).toNat) hC66 (by omega)
                      have hy66 : y697.length = ((ji44) : Int).toNat := (by rw [Ny697.out, List.length_take]; omega)
                      rw [← Ny697.out] at hr66
                      rw [← hy66] at hcut66
                      have HR700 := Aside0.mk hr66
                      have HC700 := Aside0.mk (show y697.length ≤ co11 from by omega)
                      clear hr66 hC66 hroom66 hi066 hsz66
                      have KY66 := Aside0.mk hy66
                      clear hy66
                      have KL66 := Aside0.mk (show ((ji44) : Int).toNat ≤ t665.length from by omega)
                      replace q66 := eq_true q66
                      have q67 : ((ji48) : Int) ≤ ((t665.length : Int) : Int) := of_decide_eq_true pA
                      obtain ⟨i067, hi067, _, hsz67, _⟩ := info_parts info43
                      have hroom67 : t665.length ≤ co11 := (Kd.R_reads' HO_5.out).2.1
                      have hC67 : Kd.C k43 _ Ao11 t665.length t665 := (Kd.R_reads' HO_5.out).2.2
                      have q067 : (0 : Int) ≤ ((ji48) : Int) := of_decide_eq_true pA
                      have hcut67 := cut_from (P := Try.prog) 34 43 .i64 Try.underlying34 hi067 3 hsz67 Ao11 t665.length co11 (ji48) q067 q67
                      have hr67 := Kd.C_drop (m := ((ji48) : Int).toNat) (c := co11) hC67 (by omega) hroom67
                      obtain ⟨A67, hA67⟩ : ∃ A1, A1 = (if co11 = ((ji48) : Int).toNat then Ao11 else (Ao11 : Option Addr).map (·.add (((ji48) : Int).toNat * 3))) := ⟨_, rfl⟩
                      obtain ⟨c67, hc67⟩ : ∃ c1, c1 = co11 - ((ji48) : Int).toNat := ⟨_, rfl⟩
                      have hy67 : y704.length = t665.length - ((ji48) : Int).toNat := (by rw [Ny704.out, List.length_drop] <;> omega)
                      rw [show (t665).drop ((ji48) : Int).toNat = y704 from Ny704.out.symm] at hr67
                      replace hr67 : Kd.C k43 _ A67 y704.length y704 := (by rw [hA67]; exact hr67)
                      rw [← hy67, ← hA67, ← hc67] at hcut67
                      have HR707 := Aside0.mk hr67
                      have HC707 := Aside0.mk (show y704.length ≤ c67 from by rw [hy67, hc67]; exact Nat.sub_le_sub_right hroom67 _)
                      clear hr67 hC67 hroom67 hi067 hsz67 hc67
                      have KY67 := Aside0.mk hy67
                      have KA67 := Aside0.mk hA67
                      clear hy67 hA67
                      have KL67 := Aside0.mk (show ((ji48) : Int).toNat ≤ t665.length from by omega)
                      replace q67 := eq_true q67
                      refine start_ (n := 16) (S := fun w' => True) (ds := []) #[false, false, false, false, false, false, false, false, false, false, false, false, false, false, false, false] pL rfl rfl trivial (fun hHeld => ?_); refine with_tabW laws_FnServeRoomMore.tab16 laws_FnServeRoomMore.bits16 (fun HT_ HW_ => ?_)
                      generalize w64.drew = w65 at HO_5 HO_6 HO_12 HO693 HB HR700 HR707 hHeld ⊢
                      refine pure_ (i := 1) (N := some 104) (v := ?_) (a' := ?_) #[false, true, false, false, false, false, false, false, false, false, false, false, false, false, false, false] rfl rfl (any_of HT_.out pL) (fun _ _ _ h => h) (Or.inl ⟨by rfl, ?_⟩) ?_ ?_
                      rotate_left
                      ·intro w'
                       go_simp
                       with_reducible rfl
                      rotate_left
                      ·exact pP
                      refine pure_ (i := 2) (N := some 105) (v := ?_) (a' := ?_) #[false, true, true, false, false, false, false, false, false, false, false, false, false, false, false, false] rfl rfl (any_of HT_.out pL) (fun _ _ _ h => h) (Or.inl ⟨by rfl, ?_⟩) ?_ ?_
                      rotate_left
                      ·intro w'
                       go_simp
                       with_reducible rfl
                      rotate_left
                      ·exact pP
                      refine pure_ (i := 3) (N := some 106) (v := ?_) (a' := ?_) #[false, true, true, true, false, false, false, false, false, false, false, false, false, false, false, false] rfl rfl (any_of HT_.out pL) (fun _ _ _ h => h) (Or.inl ⟨by rfl, ?_⟩) ?_ ?_
                      rotate_left
                      ·intro w'
                       go_simp
                       with_reducible rfl
                      rotate_left
                      ·exact pP
                      refine pure_ (i := 5) (N := some 108) (v := ?_) (a' := ?_) #[false, true, true, true, false, true, false, false, false, false, false, false, false, false, false, false] rfl rfl (any_of HT_.out pL) (fun _ _ _ h => h) (Or.inl ⟨by rfl, ?_⟩) ?_ ?_
                      rotate_left
                      ·intro w'
                       go_simp
                       with_reducible rfl
                      rotate_left
                      ·exact pP
                      refine pure_ (i := 6) (N := some 109) (v := ?_) (a' := ?_) #[false, true, true, true, false, true, true, false, false, false, false, false, false, false, false, false] rfl rfl (any_of HT_.out pL) (fun _ _ _ h => h) (Or.inl ⟨by rfl, ?_⟩) ?_ ?_
                      rotate_left
                      ·intro w'
                       go_simp
                       with_reducible rfl
                      rotate_left
                      ·exact pP
                      refine pure_ (i := 7) (N := some 110) (v := ?_) (a' := ?_) #[false, true, true, true, false, true, true, true, false, false, false, false, false, false, false, false] rfl rfl (any_of HT_.out pL) (fun _ _ _ h => h) (Or.inl ⟨by rfl, ?_⟩) ?_ ?_
                      rotate_left
                      ·intro w'
                       go_simp
                       with_reducible rfl
                      rotate_left
                      ·exact pP
                      refine pure_ (i := 8) (N := some 111) (v := ?_) (a' := ?_) #[false, true, true, true, false, true, true, true, true, false, false, false, false, false, false, false] rfl rfl (any_of HT_.out pL) (fun _ _ _ h => h) (Or.inl ⟨by rfl, ?_⟩) ?_ ?_
                      rotate_left
                      ·intro w'
                       go_simp
                       with_reducible rfl
                      rotate_left
                      ·exact pP
                      refine pure_ (i := 10) (N := some 113) (v := ?_) (a' := ?_) #[false, true, true, true, false, true, true, true, true, false, true, false, false, false, false, false] rfl rfl (any_of HT_.out pL) (fun _ _ _ h => h) (Or.inl ⟨by rfl, ?_⟩) ?_ ?_
                      rotate_left
                      ·intro w'
                       go_simp
                       with_reducible rfl
                      rotate_left
                      ·exact pP
                      refine one_ (i := 0) (N := some 103) #[true, true, true, true, false, true, true, true, true, false, true, false, false, false, false, false] rfl rfl (one_of HT_.out pL) (by decide) (fun K hK => ?_)
                      refine Kd.R_lit_step k43 _ 43 ?hg (N := 103) ?hd (xs := ([] : List (S43))) (inner := []) (ok := fun _ => True) (okp := fun _ => True) ?hr ?hp (fun _ hk => hk) trivial (Below.refl _ _) (Nat.le_refl _) (by simp) ?_; (case hd => rfl); (case hg => rfl); (case hr => first | (go_simp; done) | (go_simp; rfl)); (case hp => exact (Reps.none _ _))
                      intro v695 w68 ho69 hb hg_ hnew_
                      clear hg_ hnew_
                      (first | rw [← Ny694.out] at ho69 | (simp only [Int.reduceToNat] at ho69; rw [← Ny694.out] at ho69))
                      have n0_ := Aside0.mk (Kd.R_elder' (pR HO_5) (Kd.R_base ho69) hb)
                      have n1_ := Aside0.mk (Kd.R_below (pR HO_6) hb)
                      have n2_ := Aside0.mk (Kd.R_below (pR HO_12) hb)
                      have n3_ := Aside0.mk (Kd.R_below (pR HO693) hb)
                      have n4_ := Aside0.mk (Kd.R_lower (Kd.R_new' ho69 (Kd.R_lt (pR HO_5))) (below_size pB))
                      have n5_ := Aside0.mk (Kd.C_below (by repeat (first | (with_reducible exact HR700.out) | (with_reducible refine Kd.C_alloc ?_ _) | (with_reducible refine Kd.C_drewN ?_ _) | (with_reducible refine Kd.C_drew ?_) | exact HR700.out)) hb)
                      have n6_ := Aside0.mk (Kd.C_below (by repeat (first | (with_reducible exact HR707.out) | (with_reducible refine Kd.C_alloc ?_ _) | (with_reducible refine Kd.C_drewN ?_ _) | (with_reducible refine Kd.C_drew ?_) | exact HR707.out)) hb)
                      have n7_ := Aside0.mk (below_step pB hb)
                      clear HO_5
                      clear HO_6
                      clear HO_12
                      clear HO693
                      clear HR700
                      clear HR707
                      clear HB
                      have HO_5 := n0_
                      have HO_6 := n1_
                      have HO_12 := n2_
                      have HO693 := n3_
                      have HO696 := n4_
                      have HR700 := n5_
                      have HR707 := n6_
                      have HB := n7_
                      clear n0_ n1_ n2_ n3_ n4_ n5_ n6_ n7_
                      clear hb ho69
                      refine hK.out _ _ trivial (fun hHeld => ?_)
                      clear hK K
                      refine norm_ (a' := ?_) ?_ ?_
                      rotate_left
                      ·show Act.put _ (some 103) _ = _
                       exact pP
                      refine one_ (i := 4) (N := some 107) #[true, true, true, true, true, true, true, true, true, false, true, false, false, false, false, false] rfl rfl (one_of HT_.out pL) (by decide) (fun K hK => ?_)
                      refine Kd.R_append_rows_step k43 (w0 := w) w.heap.size (by rfl) (.tmp 103) (.tmp 106) 34 43 (.agg #[(.int .i64 0), (.int .i64 0), (.int .i64 0)]) 24 rfl Try.underlying34 info43 rfl (by decide) (by omega) v695 y694 y697 _ _ _ (fun k_ => some k_ ≠ (.slice Ao11 t665.length co11 : Value).ownBlock) (fun _ => False) rfl rfl ?aO ?aR (fun _ _ h => h) (fun _ h => h.elim) ?aF ?aB ?aS ?aL ?_
                      (case aR => repeat (first | exact (by repeat (first | (with_reducible exact HR700.out) | (with_reducible refine Kd.C_alloc ?_ _) | (with_reducible refine Kd.C_drewN ?_ _) | (with_reducible refine Kd.C_drew ?_) | exact HR700.out)) | (with_reducible refine Kd.C_alloc ?_ _) | (with_reducible refine Kd.C_drewN ?_ _) | (with_reducible refine Kd.C_drew ?_)))
                      (case aB => exact pB)
                      (case aF => exact (fun k_ hk => Kd.fresh' (Kd.R_lt (pR HO_5)) k_ hk))
                      (case aO => exact (by (with_reducible repeat (first | apply Kd.R_alloc | apply Kd.R_drewN | apply Kd.R_drew)); exact Kd.R_mono HO696.out (fun _ hk => hk.2)))
                      (case aS => exact (below_size pB))
                      (case aL => have := LMc47.out; omega)
                      intro v702 w70 ho hb hg hat
                      rw [← Ny701.out] at ho
                      have n0_ := Aside0.mk (Kd.R_after (ok := (fun _ => True)) (pR HO_5) hg hat)
                      have n1_ := Aside0.mk (Kd.R_over' (pR HO_6) (Kd.R_typed (pR HO696)) (by decide) hg)
                      have n2_ := Aside0.mk (Kd.R_over' (pR HO_12) (Kd.R_typed (pR HO696)) (by decide) hg)
                      have n3_ := Aside0.mk (Kd.R_over' (pR HO693) (Kd.R_typed (pR HO696)) (by decide) hg)
                      have n4_ := Aside0.mk (hb)
                      have n5_ := Aside0.mk ((show Kd.C k43 w70 Ao11 y697.length y697 from by rw [Ny697.out]; exact Kd.C_take (m := ((ji44) : Int).toNat) ((Kd.R_reads' (Kd.R_after (ok := (fun _ => True)) (pR HO_5) hg hat)).2.2) KL66.out))
                      have n6_ := Aside0.mk ((show Kd.C k43 w70 A67 y704.length y704 from by rw [Ny704.out, KA67.out]; exact Kd.C_drop (m := ((ji48) : Int).toNat) (c := co11) ((Kd.R_reads' (Kd.R_after (ok := (fun _ => True)) (pR HO_5) hg hat)).2.2) KL67.out ((Kd.R_reads' (Kd.R_after (ok := (fun _ => True)) (pR HO_5) hg hat)).2.1)))
                      have n7_ := Aside0.mk (ho)
                      clear HO_5
                      clear HO_6
                      clear HO_12
                      clear HO693
                      clear HB
                      clear HR700
                      clear HR707
                      clear HO696
                      have HO_5 := n0_
                      have HO_6 := n1_
                      have HO_12 := n2_
                      have HO693 := n3_
                      have HB := n4_
                      have HR700 := n5_
                      have HR707 := n6_
                      have HO703 := n7_
                      clear n0_ n1_ n2_ n3_ n4_ n5_ n6_ n7_
                      clear ho hb hg hat
                      refine hK.out _ _ trivial (fun hHeld => ?_)
                      clear hK K
                      refine norm_ (a' := ?_) ?_ ?_
                      rotate_left
                      ·show Act.put _ (some 107) _ = _
                       exact pP
                      refine one_ (i := 9) (N := some 112) #[true, true, true, true, true, true, true, true, true, true, true, false, false, false, false, false] rfl rfl (one_of HT_.out pL) (by decide) (fun K hK => ?_)
                      refine Kd.R_append_rows_step k43 (w0 := w) w.heap.size (by rfl) (.tmp 107) (.tmp 111) 34 43 (.agg #[(.int .i64 0), (.int .i64 0), (.int .i64 0)]) 24 rfl Try.underlying34 info43 rfl (by decide) (by omega) v702 y701 y704 _ _ _ (fun k_ => some k_ ≠ (.slice Ao11 t665.length co11 : Value).ownBlock) (fun _ => False) rfl rfl ?aO ?aR (fun _ _ h => h) (fun _ h => h.elim) ?aF ?aB ?aS ?aL ?_
                      (case aR => repeat (first | exact (by repeat (first | (with_reducible exact HR707.out) | (with_reducible refine Kd.C_alloc ?_ _) | (with_reducible refine Kd.C_drewN ?_ _) | (with_reducible refine Kd.C_drew ?_) | exact HR707.out)) | (with_reducible refine Kd.C_alloc ?_ _) | (with_reducible refine Kd.C_drewN ?_ _) | (with_reducible refine Kd.C_drew ?_)))
                      (case aB => exact pB)
                      (case aF => exact (fun k_ hk => Kd.fresh' (Kd.R_lt (pR HO_5)) k_ hk))
                      (case aO => exact (pR HO703))
                      (case aS => exact (below_size pB))
                      (case aL => have := LMc51.out; omega)
                      intro v709 w71 ho hb hg hat
                      rw [← Ny708.out] at ho
                      have n0_ := Aside0.mk (Kd.R_after (ok := (fun _ => True)) (pR HO_5) hg hat)
                      have n1_ := Aside0.mk (Kd.R_over' (pR HO_6) (Kd.R_typed (pR HO703)) (by decide) hg)
                      have n2_ := Aside0.mk (Kd.R_over' (pR HO_12) (Kd.R_typed (pR HO703)) (by decide) hg)
                      have n3_ := Aside0.mk (Kd.R_over' (pR HO693) (Kd.R_typed (pR HO703)) (by decide) hg)
                      have n4_ := Aside0.mk (hb)
                      have n5_ := Aside0.mk ((show Kd.C k43 w71 Ao11 y697.length y697 from by rw [Ny697.out]; exact Kd.C_take (m := ((ji44) : Int).toNat) ((Kd.R_reads' (Kd.R_after (ok := (fun _ => True)) (pR HO_5) hg hat)).2.2) KL66.out))
                      have n6_ := Aside0.mk ((show Kd.C k43 w71 A67 y704.length y704 from by rw [Ny704.out, KA67.out]; exact Kd.C_drop (m := ((ji48) : Int).toNat) (c := co11) ((Kd.R_reads' (Kd.R_after (ok := (fun _ => True)) (pR HO_5) hg hat)).2.2) KL67.out ((Kd.R_reads' (Kd.R_after (ok := (fun _ => True)) (pR HO_5) hg hat)).2.1)))
                      have n7_ := Aside0.mk (ho)
                      clear HO_5
                      clear HO_6
                      clear HO_12
                      clear HO693
                      clear HB
                      clear HR700
                      clear HR707
                      clear HO703
                      have HO_5 := n0_
                      have HO_6 := n1_
                      have HO_12 := n2_
                      have HO693 := n3_
                      have HB := n4_
                      have HR700 := n5_
                      have HR707 := n6_
                      have HO710 := n7_
                      clear n0_ n1_ n2_ n3_ n4_ n5_ n6_ n7_
                      clear ho hb hg hat
                      obtain ⟨Ao72, co72, eo72⟩ := Kd.R_slice HO710.out
                      (first | subst eo72 | (injection eo72 with f1_ f2_ f3_; have f4_ := f1_.symm; have f5_ := f3_.symm; clear f1_ f2_ f3_; subst f4_; subst f5_))
                      refine hK.out _ _ trivial (fun hHeld => ?_)
                      clear hK K
                      refine norm_ (a' := ?_) ?_ ?_
                      rotate_left
                      ·show Act.put _ (some 112) _ = _
                       exact pP
                      refine one_ (i := 11) (N := some 114) #[true, true, true, true, true, true, true, true, true, true, true, true, false, false, false, false] rfl rfl (one_of HT_.out pL) (by decide) (fun K hK => ?_)
                      refine goes_ Try.func38 pL rfl #[.slice Ao72 y708.length co72, .slice Ao12 t666.length co12] (by rfl) rfl rfl pM ?_
                      with_reducible refine (impl_ServeRoom.calls kj31 _ _ y708 _ _ t666 t711 t712 _ ?side1 ?side2 ?side3 ?side4 A52.out).mono ?_
                      (case side1 => exact pS ((Kd.R_reads' HO710.out).2.2))
                      (case side2 => exact (Kd.R_reads' HO710.out).2.1)
                      (case side3 => exact pS ((Kd.R_reads' HO_6.out).2.2))
                      (case side4 => exact (Kd.R_reads' HO_6.out).2.1)
                      rintro e w73 ⟨v713, rfl, ho0, hb⟩
                      refine ⟨_, rfl, ?_⟩
                      have n0_ := Aside0.mk (Kd.R_below (pR HO_5) hb)
                      have n1_ := Aside0.mk (Kd.R_below (pR HO_6) hb)
                      have n2_ := Aside0.mk (Kd.R_below (pR HO_12) hb)
                      have n3_ := Aside0.mk (Kd.R_elder' (pR HO693) (Kd.R_base ho0) hb)
                      have n4_ := Aside0.mk (Kd.R_below (pR HO710) hb)
                      have n5_ := Aside0.mk (Kd.R_lower (Kd.R_new' ho0 (Kd.R_lt (pR HO693))) (below_size pB))
                      have n6_ := Aside0.mk (Kd.C_below (by repeat (first | (with_reducible exact HR700.out) | (with_reducible refine Kd.C_alloc ?_ _) | (with_reducible refine Kd.C_drewN ?_ _) | (with_reducible refine Kd.C_drew ?_) | exact HR700.out)) hb)
                      have n7_ := Aside0.mk (Kd.C_below (by repeat (first | (with_reducible exact HR707.out) | (with_reducible refine Kd.C_alloc ?_ _) | (with_reducible refine Kd.C_drewN ?_ _) | (with_reducible refine Kd.C_drew ?_) | exact HR707.out)) hb)
                      have n8_ := Aside0.mk (below_step pB hb)
                      clear HO_5
                      clear HO_6
                      clear HO_12
                      clear HO693
                      clear HO710
                      clear HR700
                      clear HR707
                      clear HB
                      have HO_5 := n0_
                      have HO_6 := n1_
                      have HO_12 := n2_
                      have HO693 := n3_
                      have HO710 := n4_
                      have HO714 := n5_
                      have HR700 := n6_
                      have HR707 := n7_
                      have HB := n8_
                      clear n0_ n1_ n2_ n3_ n4_ n5_ n6_ n7_ n8_
                      (try clear hb)
                      (try clear hb2)
                      (try clear hk)
                      (try clear hi)
                      (try clear ho0)
                      refine hK.out _ _ trivial (fun hHeld => ?_)
                      clear hK K
                      refine norm_ (a' := ?_) ?_ ?_
                      rotate_left
                      ·show Act.put _ (some 114) _ = _
                       exact pP
                      refine pure_ (i := 12) (N := some 102) (v := ?_) (a' := ?_) #[true, true, true, true, true, true, true, true, true, true, true, true, true, false, false, false] rfl rfl (any_of HT_.out pL) (fun _ _ _ h => h) (Or.inl ⟨by rfl, ?_⟩) ?_ ?_
                      rotate_left
                      ·intro w'
                       go_simp
                       with_reducible rfl
                      rotate_left
                      ·exact pP
                      refine pure_ (i := 13) (N := some 115) (v := ?_) (a' := ?_) #[true, true, true, true, true, true, true, true, true, true, true, true, true, true, false, false] rfl rfl (any_of HT_.out pL) (fun _ _ _ h => h) (Or.inl ⟨by rfl, ?_⟩) ?_ ?_
                      rotate_left
                      ·intro w'
                       go_simp
                       with_reducible rfl
                      rotate_left
                      ·exact pP
                      refine pure_ (i := 14) (N := some 116) (v := ?_) (a' := ?_) #[true, true, true, true, true, true, true, true, true, true, true, true, true, true, true, false] rfl rfl (any_of HT_.out pL) (fun _ _ _ h => h) (Or.inl ⟨by rfl, ?_⟩) ?_ ?_
                      rotate_left
                      ·intro w'
                       go_simp
                       with_reducible rfl
                      rotate_left
                      ·exact pP
                      refine pure_ (i := 15) (N := some 15) (v := ?_) (a' := ?_) #[true, true, true, true, true, true, true, true, true, true, true, true, true, true, true, true] rfl rfl (any_of HT_.out pL) (fun _ _ _ h => h) (Or.inl ⟨by rfl, ?_⟩) ?_ ?_
                      rotate_left
                      ·intro w'
                       go_simp
                       with_reducible rfl
                      rotate_left
                      ·exact pP
                      refine done_ (done_of HT_.out pL) ?_
                      try go_wp2
                      go_ret
                      exact ⟨by first | rfl | (simp [errW_none, errW_some] <;> rfl) | (simp only [← hji29, ← hji44, ← hji48]; first | rfl | (simp [errW_none, errW_some] <;> rfl)) | (simp [*, errW_none, errW_some] <;> rfl), pB⟩
                    ·rw [if_neg c51] at H
                     exact absurd H (by simp)
                   ·rw [if_neg c50] at H
                    exact absurd H (by simp)
                  ·rw [if_neg c49] at H
                   exact absurd H (by simp)
                 ·rw [if_neg c47] at H
                  exact absurd H (by simp)
                ·rw [if_neg c46] at H
                 exact absurd H (by simp)
               ·rw [if_neg c45] at H
                exact absurd H (by simp)
             ·rw [if_neg c42] at H
              have c42b0 : decide (0 < (t665.length : Int)) = false := decide_eq_false c42
              have c42b1 : decide (0 < t665.length) = false := decide_eq_false (by omega)
              clear c42
              by_cases c74 : t691 = true
              ·subst c74
               have H1 : (some true) = some r := by rw [if_pos rfl] at H; exact H
               clear H
               have H := H1
               clear H1
               obtain rfl := Option.some.inj H
               go_wp2_with (first | ((with_reducible refine gate_callee (f := 38) rfl ?_); refine goesL_ (some 90) rfl rfl Try.func38 pL rfl #[.slice Ao11 t665.length co11, .slice (some ad687) x12_31.length co36] rfl pM ?_; (with_reducible refine (impl_ServeRoom.calls kj31 _ _ t665 _ _ x12_31 t690 true _ ?side1 ?side2 ?side3 ?side4 A41.out).mono ?_); (case side1 => exact pS ((Kd.R_reads' HO_5.out).2.2)); (case side2 => exact (Kd.R_reads' HO_5.out).2.1); (case side3 => exact pS ((Kd.R_reads' HO_12.out).2.2)); (case side4 => exact (Kd.R_reads' HO_12.out).2.1); rintro e w75 ⟨v692, rfl, ho0, hb⟩; refine ⟨_, rfl, ?_⟩; have n0_ := Aside0.mk (Kd.R_below (pR HO_5) hb); have n1_ := Aside0.mk (Kd.R_below (pR HO_6) hb); have n2_ := Aside0.mk (Kd.R_below (pR HO_12) hb); have n3_ := Aside0.mk (Kd.R_lower ho0 (below_size pB)); have n4_ := Aside0.mk (below_step pB hb); clear HO_5; clear HO_6; clear HO_12; clear HB; have HO_5 := n0_; have HO_6 := n1_; have HO_12 := n2_; have HO693 := n3_; have HB := n4_; clear n0_ n1_ n2_ n3_ n4_; (try clear hb); (try clear hb2); (try clear hk); (try clear hi); (try clear ho0)))
               go_ret
               exact ⟨by first | rfl | (simp [errW_none, errW_some] <;> rfl) | (simp only [← hji29]; first | rfl | (simp [errW_none, errW_some] <;> rfl)) | (simp [*, errW_none, errW_some] <;> rfl), pB⟩
              ·replace c74 := Bool.eq_false_iff.mpr c74
               subst c74
               have H1 : (some false) = some r := by rw [if_neg (show ¬ (false = true) by decide)] at H; exact H
               clear H
               have H := H1
               clear H1
               obtain rfl := Option.some.inj H
               go_wp2_with (first | ((with_reducible refine gate_callee (f := 38) rfl ?_); refine goesL_ (some 90) rfl rfl Try.func38 pL rfl #[.slice Ao11 t665.length co11, .slice (some ad687) x12_31.length co36] rfl pM ?_; (with_reducible refine (impl_ServeRoom.calls kj31 _ _ t665 _ _ x12_31 t690 false _ ?side1 ?side2 ?side3 ?side4 A41.out).mono ?_); (case side1 => exact pS ((Kd.R_reads' HO_5.out).2.2)); (case side2 => exact (Kd.R_reads' HO_5.out).2.1); (case side3 => exact pS ((Kd.R_reads' HO_12.out).2.2)); (case side4 => exact (Kd.R_reads' HO_12.out).2.1); rintro e w76 ⟨v692, rfl, ho0, hb⟩; refine ⟨_, rfl, ?_⟩; have n0_ := Aside0.mk (Kd.R_below (pR HO_5) hb); have n1_ := Aside0.mk (Kd.R_below (pR HO_6) hb); have n2_ := Aside0.mk (Kd.R_below (pR HO_12) hb); have n3_ := Aside0.mk (Kd.R_lower ho0 (below_size pB)); have n4_ := Aside0.mk (below_step pB hb); clear HO_5; clear HO_6; clear HO_12; clear HB; have HO_5 := n0_; have HO_6 := n1_; have HO_12 := n2_; have HO693 := n3_; have HB := n4_; clear n0_ n1_ n2_ n3_ n4_; (try clear hb); (try clear hb2); (try clear hk); (try clear hi); (try clear ho0)))
               go_ret
               exact ⟨by first | rfl | (simp [errW_none, errW_some] <;> rfl) | (simp only [← hji29]; first | rfl | (simp [errW_none, errW_some] <;> rfl)) | (simp [*, errW_none, errW_some] <;> rfl), pB⟩
          ·rw [if_neg c31] at H
           exact absurd H (by simp)
         ·rw [if_neg c30] at H
          exact absurd H (by simp)
        ·rw [if_neg c28] at H
         exact absurd H (by simp)

/-- THE ONE PURE STATEMENT of laws_FnServeRoomMore: yours. -/
def laws_FnServeRoomMore.Pure : Prop := ∀ (l0 : List Int) (l1 : List Int), l0.length ≤ maxLen → l0.length * 1 ≤ 140737488351232 → (∀ x ∈ l0, (Lit.int .u8 x).wf = true) → l1.length ≤ maxLen → l1.length * 1 ≤ 140737488351232 → (∀ x ∈ l1, (Lit.int .u8 x).wf = true) → ∃ k, laws_FnServeRoomMore.f k l0 l1 = some true
theorem laws_FnServeRoomMore.walk (P : laws_FnServeRoomMore.Pure) (a0 : Option Addr) (len0 cap0 : Nat) (z0 : List Int) (a1 : Option Addr) (len1 cap1 : Nat) (z1 : List Int) (w : World) (w0 : (a0 = none ∧ len0 = 0 ∧ cap0 = 0 ∧ z0 = []) ∨ ∃ x, a0 = some x ∧ len0 ≤ cap0 ∧ cap0 ≤ maxLen ∧ z0.length = cap0 ∧ (∀ i, i < z0.length → w.cell? (x.add i) = some (.int .u8 (z0.getD i 0))) ∧ ∀ n ∈ z0, (Lit.int .u8 n).wf = true) (y0 : len0 * 1 ≤ 140737488351232) (w1 : (a1 = none ∧ len1 = 0 ∧ cap1 = 0 ∧ z1 = []) ∨ ∃ x, a1 = some x ∧ len1 ≤ cap1 ∧ cap1 ≤ maxLen ∧ z1.length = cap1 ∧ (∀ i, i < z1.length → w.cell? (x.add i) = some (.int .u8 (z1.getD i 0))) ∧ ∀ n ∈ z1, (Lit.int .u8 n).wf = true) (y1 : len1 * 1 ≤ 140737488351232) :
  Calls Try.prog 10 #[.slice a0 len0 cap0, .slice a1 len1 cap1] w fun e w' => e = .returned (.bool true) ∧ Below w.heap.size w w' := by
 obtain ⟨l0, rfl, hr0, hm0, hw0, hc0⟩ := ReadsInt.ofRowC w0
 obtain ⟨l1, rfl, hr1, hm1, hw1, hc1⟩ := ReadsInt.ofRowC w1
 obtain ⟨k, h⟩ := P l0 l1 hm0 y0 hw0 hm1 y1 hw1
 refine (laws_FnServeRoomMore.calls k _ _ l0 _ _ l1 true w (Kd.C_of_reads (d := (0 : Int)) (h1 := fun _ => rfl) hr0) hc0 (Kd.C_of_reads (d := (0 : Int)) (h1 := fun _ => rfl) hr1) hc1 h).mono ?_
 rintro e w' ⟨rfl, hd⟩
 exact ⟨rfl, hd⟩

end Go.Proofs.Ytehenjjaekkcfaa.Q
