-- Written by the kit's print.py for all laws of the seat at once (one namespace), by a program of this session.
import Derived.Test.YtehenjjaekkcfaaQx0
import Derived.Test.YtehenjjaekkcfaaQx2
import Derived.Test.YtehenjjaekkcfaaQx8
import Derived.Test.YtehenjjaekkcfaaQx9
import Derived.Test.YtehenjjaekkcfaaQx11
import Derived.Test.YtehenjjaekkcfaaQx12
import Derived.Test.YtehenjjaekkcfaaQx13
import Derived.Test.YtehenjjaekkcfaaQx17
import Derived.Test.YtehenjjaekkcfaaQx22
namespace Go.Proofs.Ytehenjjaekkcfaa.Q
open Go.RowKit Go.Proofs.YtehenjjaekkcfaaW.PrintWords Go.Proofs.YtehenjjaekkcfaaW.PrintLast Go.Proofs.YtehenjjaekkcfaaW.PrintMore
attribute [local go_sem] max2_int min2_int max_two min_two max_three min_three max_four min_four   -- for this text's walks alone
set_option linter.unusedVariables false
set_option linter.unusedSimpArgs false

/-! ### laws_FnServeRoomFull: function 8 -/
mutual
def laws_FnServeRoomFull.j0 : Nat → List (S43) → List (S32) → List Int → List Int → Bool → Option (Bool)
 | 0, _, _, _, _, _ => none
 | k + 1, x3, x4, x5, x6, x45 => if x45 = true then ((laws_sameInts.f k x5 x6).bind fun t553 => (some t553)) else ((some (([] : List (S32)) : List (S32))).bind fun y554 => (if y554.length + x4.length < 5864062014805 then (laws_FnServeRoomFull.l0 k x3 x5 (y554 ++ x4) 0) else (none)))
def laws_FnServeRoomFull.l0 : Nat → List (S43) → List Int → List (S32) → Int → Option (Bool)
 | 0, _, _, _, _ => none
 | k + 1, x3, x5, x7, x8 => if x8 < (x7.length : Int) then (if 0 ≤ x8 then (laws_FnServeRoomFull.l0 k x3 x5 (x7.set (x8 : Int).toNat (⟨(rd_T32 x7 x8).f0, (rd_T32 x7 x8).f1, 10⟩ : S32)) (wrap64 (x8 + 1))) else (none)) else ((impl_ServeRoom.f k x3 x7).bind fun bt561 => (if bt561.2 = true then ((laws_sameInts.f k bt561.1 x5).bind fun t565 => (some t565)) else (some false)))
end
def laws_FnServeRoomFull.f (k : Nat) (l0 : List Int) : Option (Bool) := if (l0.length : Int) > 1048576 then (some true) else ((spec_DrawServeFirst.f k l0).bind fun bt535 => ((impl_ServeFirst.f k bt535.1 bt535.2).bind fun t541 => ((spec_ServeFirst.f k bt535.1 bt535.2).bind fun t544 => ((laws_sameInts.f k t541 t544).bind fun t547 => (if t547 = true then ((spec_GuestsValid.f k bt535.1).bind fun t548 => (if t548 = true then ((spec_ChoicesValid.f k bt535.2).bind fun t549 => (if t549 = true then ((spec_ServeGaps.f k bt535.1 bt535.2).bind fun t550 => (laws_FnServeRoomFull.j0 k bt535.1 bt535.2 t541 t544 (decide ((t550.length : Int) > 0)))) else (laws_FnServeRoomFull.j0 k bt535.1 bt535.2 t541 t544 true))) else (laws_FnServeRoomFull.j0 k bt535.1 bt535.2 t541 t544 true))) else (laws_FnServeRoomFull.j0 k bt535.1 bt535.2 t541 t544 true))))))
theorem laws_FnServeRoomFull.mono_l : ∀ k, (∀ y0 y1 y2 y3 y4, LeO (laws_FnServeRoomFull.j0 k y0 y1 y2 y3 y4) (laws_FnServeRoomFull.j0 (k + 1) y0 y1 y2 y3 y4)) ∧ (∀ y0 y1 y2 y3, LeO (laws_FnServeRoomFull.l0 k y0 y1 y2 y3) (laws_FnServeRoomFull.l0 (k + 1) y0 y1 y2 y3))
 | 0 => ⟨fun _ _ _ _ _ r h => by simp [laws_FnServeRoomFull.j0] at h, fun _ _ _ _ r h => by simp [laws_FnServeRoomFull.l0] at h⟩
 | k + 1 => by
  obtain ⟨ih0, ih1⟩ := laws_FnServeRoomFull.mono_l k
  refine ⟨?_, ?_⟩
  ·intro y0 y1 y2 y3 y4
   unfold laws_FnServeRoomFull.j0
   repeat' first
   | (with_reducible exact ih0 _ _ _ _ _)
   | (with_reducible exact ih1 _ _ _ _)
   | (with_reducible exact impl_ServeFirst.mono _ _ _)
   | (with_reducible exact impl_ServeRoom.mono _ _ _)
   | (with_reducible exact laws_sameInts.mono _ _ _)
   | (with_reducible exact spec_ChoicesValid.mono _ _)
   | (with_reducible exact spec_DrawServeFirst.mono _ _)
   | (with_reducible exact spec_GuestsValid.mono _ _)
   | (with_reducible exact spec_ServeFirst.mono _ _ _)
   | (with_reducible exact spec_ServeGaps.mono _ _ _)
   | (with_reducible exact LeO.refl _)
   | (with_reducible exact LeO.none _)
   | (with_reducible refine LeO.ite ?_ ?_)
   | (with_reducible refine LeO.bind ?_ (fun _ => ?_))
   | exact ih0 _ _ _ _ _
   | exact ih1 _ _ _ _
   | exact impl_ServeFirst.mono _ _ _
   | exact impl_ServeRoom.mono _ _ _
   | exact laws_sameInts.mono _ _ _
   | exact spec_ChoicesValid.mono _ _
   | exact spec_DrawServeFirst.mono _ _
   | exact spec_GuestsValid.mono _ _
   | exact spec_ServeFirst.mono _ _ _
   | exact spec_ServeGaps.mono _ _ _
   | exact LeO.none _
   | refine LeO.ite ?_ ?_
   | refine LeO.bind ?_ (fun _ => ?_)
  ·intro y0 y1 y2 y3
   unfold laws_FnServeRoomFull.l0
   repeat' first
   | (with_reducible exact ih0 _ _ _ _ _)
   | (with_reducible exact ih1 _ _ _ _)
   | (with_reducible exact impl_ServeFirst.mono _ _ _)
   | (with_reducible exact impl_ServeRoom.mono _ _ _)
   | (with_reducible exact laws_sameInts.mono _ _ _)
   | (with_reducible exact spec_ChoicesValid.mono _ _)
   | (with_reducible exact spec_DrawServeFirst.mono _ _)
   | (with_reducible exact spec_GuestsValid.mono _ _)
   | (with_reducible exact spec_ServeFirst.mono _ _ _)
   | (with_reducible exact spec_ServeGaps.mono _ _ _)
   | (with_reducible exact LeO.refl _)
   | (with_reducible exact LeO.none _)
   | (with_reducible refine LeO.ite ?_ ?_)
   | (with_reducible refine LeO.bind ?_ (fun _ => ?_))
   | exact ih0 _ _ _ _ _
   | exact ih1 _ _ _ _
   | exact impl_ServeFirst.mono _ _ _
   | exact impl_ServeRoom.mono _ _ _
   | exact laws_sameInts.mono _ _ _
   | exact spec_ChoicesValid.mono _ _
   | exact spec_DrawServeFirst.mono _ _
   | exact spec_GuestsValid.mono _ _
   | exact spec_ServeFirst.mono _ _ _
   | exact spec_ServeGaps.mono _ _ _
   | exact LeO.none _
   | refine LeO.ite ?_ ?_
   | refine LeO.bind ?_ (fun _ => ?_)
theorem laws_FnServeRoomFull.mono : ∀ a0 k, LeO (laws_FnServeRoomFull.f k a0) (laws_FnServeRoomFull.f (k + 1) a0) := by
 intro a0 k
 obtain ⟨ih0, ih1⟩ := laws_FnServeRoomFull.mono_l k
 unfold laws_FnServeRoomFull.f
 repeat' first
   | (with_reducible exact ih0 _ _ _ _ _)
   | (with_reducible exact ih1 _ _ _ _)
   | (with_reducible exact impl_ServeFirst.mono _ _ _)
   | (with_reducible exact impl_ServeRoom.mono _ _ _)
   | (with_reducible exact laws_sameInts.mono _ _ _)
   | (with_reducible exact spec_ChoicesValid.mono _ _)
   | (with_reducible exact spec_DrawServeFirst.mono _ _)
   | (with_reducible exact spec_GuestsValid.mono _ _)
   | (with_reducible exact spec_ServeFirst.mono _ _ _)
   | (with_reducible exact spec_ServeGaps.mono _ _ _)
   | (with_reducible exact LeO.refl _)
   | (with_reducible exact LeO.none _)
   | (with_reducible refine LeO.ite ?_ ?_)
   | (with_reducible refine LeO.bind ?_ (fun _ => ?_))
   | exact ih0 _ _ _ _ _
   | exact ih1 _ _ _ _
   | exact impl_ServeFirst.mono _ _ _
   | exact impl_ServeRoom.mono _ _ _
   | exact laws_sameInts.mono _ _ _
   | exact spec_ChoicesValid.mono _ _
   | exact spec_DrawServeFirst.mono _ _
   | exact spec_GuestsValid.mono _ _
   | exact spec_ServeFirst.mono _ _ _
   | exact spec_ServeGaps.mono _ _ _
   | exact LeO.none _
   | refine LeO.ite ?_ ?_
   | refine LeO.bind ?_ (fun _ => ?_)
set_option maxHeartbeats 8000000 in
set_option maxRecDepth 100000 in
theorem laws_FnServeRoomFull.calls (k : Nat) (A0 : Option Addr) (c0 : Nat) (l0 : List Int) (r : Bool) (w : World) (hr0 : Kd.C (Kd.int .u8) w A0 l0.length l0) (hc0 : l0.length ≤ c0) (h : laws_FnServeRoomFull.f k l0 = some r) :
  Calls Try.prog 8 #[.slice A0 l0.length c0] w fun e w' => e = .returned (.bool r) ∧ Below w.heap.size w w' := by
 have HR0 := Aside0.mk hr0
 have HC0 := Aside0.mk hc0
 clear hr0 hc0
 have HB := Aside0.mk (Below.refl w.heap.size w)
 have H : (if (l0.length : Int) > 1048576 then (some true) else ((spec_DrawServeFirst.f k l0).bind fun bt535 => ((impl_ServeFirst.f k bt535.1 bt535.2).bind fun t541 => ((spec_ServeFirst.f k bt535.1 bt535.2).bind fun t544 => ((laws_sameInts.f k t541 t544).bind fun t547 => (if t547 = true then ((spec_GuestsValid.f k bt535.1).bind fun t548 => (if t548 = true then ((spec_ChoicesValid.f k bt535.2).bind fun t549 => (if t549 = true then ((spec_ServeGaps.f k bt535.1 bt535.2).bind fun t550 => (laws_FnServeRoomFull.j0 k bt535.1 bt535.2 t541 t544 (decide ((t550.length : Int) > 0)))) else (laws_FnServeRoomFull.j0 k bt535.1 bt535.2 t541 t544 true))) else (laws_FnServeRoomFull.j0 k bt535.1 bt535.2 t541 t544 true))) else (laws_FnServeRoomFull.j0 k bt535.1 bt535.2 t541 t544 true))))))) = some r := h
 clear h
 by_cases c2 : (l0.length : Int) > 1048576
 ·rw [if_pos c2] at H
  have c2b0 : decide (1048576 < (l0.length : Int)) = true := decide_eq_true c2
  have c2b1 : decide (1048576 < l0.length) = true := decide_eq_true (by omega)
  clear c2
  obtain rfl := Option.some.inj H
  go_enter Try.func8, Try.ntmps8
  go_wp2
  go_ret
  exact ⟨pE, pB⟩
 ·rw [if_neg c2] at H
  have c2b0 : decide (1048576 < (l0.length : Int)) = false := decide_eq_false c2
  have c2b1 : decide (1048576 < l0.length) = false := decide_eq_false (by omega)
  clear c2
  replace H := Option.bind_eq_some_iff.mp H
  obtain ⟨⟨t535, t536⟩, A30, H⟩ := H
  replace H : ((impl_ServeFirst.f k t535 t536).bind fun t541 => ((spec_ServeFirst.f k t535 t536).bind fun t544 => ((laws_sameInts.f k t541 t544).bind fun t547 => (if t547 = true then ((spec_GuestsValid.f k t535).bind fun t548 => (if t548 = true then ((spec_ChoicesValid.f k t536).bind fun t549 => (if t549 = true then ((spec_ServeGaps.f k t535 t536).bind fun t550 => (laws_FnServeRoomFull.j0 k t535 t536 t541 t544 (decide ((t550.length : Int) > 0)))) else (laws_FnServeRoomFull.j0 k t535 t536 t541 t544 true))) else (laws_FnServeRoomFull.j0 k t535 t536 t541 t544 true))) else (laws_FnServeRoomFull.j0 k t535 t536 t541 t544 true))))) = some r := H
  have A3 := Aside0.mk A30
  clear A30
  replace H := Option.bind_eq_some_iff.mp H
  obtain ⟨t541, A40, H⟩ := H
  replace H : ((spec_ServeFirst.f k t535 t536).bind fun t544 => ((laws_sameInts.f k t541 t544).bind fun t547 => (if t547 = true then ((spec_GuestsValid.f k t535).bind fun t548 => (if t548 = true then ((spec_ChoicesValid.f k t536).bind fun t549 => (if t549 = true then ((spec_ServeGaps.f k t535 t536).bind fun t550 => (laws_FnServeRoomFull.j0 k t535 t536 t541 t544 (decide ((t550.length : Int) > 0)))) else (laws_FnServeRoomFull.j0 k t535 t536 t541 t544 true))) else (laws_FnServeRoomFull.j0 k t535 t536 t541 t544 true))) else (laws_FnServeRoomFull.j0 k t535 t536 t541 t544 true)))) = some r := H
  have A4 := Aside0.mk A40
  clear A40
  replace H := Option.bind_eq_some_iff.mp H
  obtain ⟨t544, A50, H⟩ := H
  replace H : ((laws_sameInts.f k t541 t544).bind fun t547 => (if t547 = true then ((spec_GuestsValid.f k t535).bind fun t548 => (if t548 = true then ((spec_ChoicesValid.f k t536).bind fun t549 => (if t549 = true then ((spec_ServeGaps.f k t535 t536).bind fun t550 => (laws_FnServeRoomFull.j0 k t535 t536 t541 t544 (decide ((t550.length : Int) > 0)))) else (laws_FnServeRoomFull.j0 k t535 t536 t541 t544 true))) else (laws_FnServeRoomFull.j0 k t535 t536 t541 t544 true))) else (laws_FnServeRoomFull.j0 k t535 t536 t541 t544 true))) = some r := H
  have A5 := Aside0.mk A50
  clear A50
  have HC6 := Aside0.mk H
  clear H
  go_enter Try.func8, Try.ntmps8
  go_upto_region 6 with (first | ((with_reducible refine gate_callee (f := 22) rfl ?_); refine goesL_ (some 16) rfl rfl Try.func22 pL rfl #[.slice A0 l0.length c0] rfl pM ?_; (with_reducible refine (spec_DrawServeFirst.calls k _ _ l0 t535 t536 _ ?side1 ?side2 A3.out).mono ?_); (case side1 => exact pS (HR0.out)); (case side2 => exact HC0.out); rintro e w7 ⟨v537, v539, rfl, ho0, ho1, hb⟩; refine ⟨_, rfl, ?_⟩; have n0_ := Aside0.mk (Kd.R_lower ho0 (below_size pB)); have n1_ := Aside0.mk (Kd.R_lower ho1 (below_size pB)); have n2_ := Aside0.mk (below_step pB hb); clear HB; have HO538 := n0_; have HO540 := n1_; have HB := n2_; clear n0_ n1_ n2_; (try clear hb); (try clear hb2); (try clear hk); (try clear hi); (try clear ho0); (try clear ho1); obtain ⟨Ao8, co8, eo8⟩ := Kd.R_slice HO538.out; subst eo8; obtain ⟨Ao9, co9, eo9⟩ := Kd.R_slice HO540.out; subst eo9) | ((with_reducible refine gate_callee (f := 23) rfl ?_); refine goesL_ (some 21) rfl rfl Try.func23 pL rfl #[.slice Ao8 t535.length co8, .slice Ao9 t536.length co9] rfl pM ?_; (with_reducible refine (impl_ServeFirst.calls k _ _ t535 _ _ t536 t541 _ ?side1 ?side2 ?side3 ?side4 A4.out).mono ?_); (case side1 => exact pS ((Kd.R_reads' HO538.out).2.2)); (case side2 => exact (Kd.R_reads' HO538.out).2.1); (case side3 => exact pS ((Kd.R_reads' HO540.out).2.2)); (case side4 => exact (Kd.R_reads' HO540.out).2.1); rintro e w10 ⟨v542, rfl, ho0, hb⟩; refine ⟨_, rfl, ?_⟩; have n0_ := Aside0.mk (Kd.R_below (pR HO538) hb); have n1_ := Aside0.mk (Kd.R_below (pR HO540) hb); have n2_ := Aside0.mk (Kd.R_lower ho0 (below_size pB)); have n3_ := Aside0.mk (below_step pB hb); clear HO538; clear HO540; clear HB; have HO538 := n0_; have HO540 := n1_; have HO543 := n2_; have HB := n3_; clear n0_ n1_ n2_ n3_; (try clear hb); (try clear hb2); (try clear hk); (try clear hi); (try clear ho0)) | ((with_reducible refine gate_callee (f := 24) rfl ?_); refine goesL_ (some 24) rfl rfl Try.func24 pL rfl #[.slice Ao8 t535.length co8, .slice Ao9 t536.length co9] rfl pM ?_; (with_reducible refine (spec_ServeFirst.calls k _ _ t535 _ _ t536 t544 _ ?side1 ?side2 ?side3 ?side4 A5.out).mono ?_); (case side1 => exact pS ((Kd.R_reads' HO538.out).2.2)); (case side2 => exact (Kd.R_reads' HO538.out).2.1); (case side3 => exact pS ((Kd.R_reads' HO540.out).2.2)); (case side4 => exact (Kd.R_reads' HO540.out).2.1); rintro e w11 ⟨v545, rfl, ho0, hb⟩; refine ⟨_, rfl, ?_⟩; have n0_ := Aside0.mk (Kd.R_below (pR HO538) hb); have n1_ := Aside0.mk (Kd.R_below (pR HO540) hb); have n2_ := Aside0.mk (Kd.R_elder' (pR HO543) (Kd.R_base ho0) hb); have n3_ := Aside0.mk (Kd.R_lower (Kd.R_new' ho0 (Kd.R_lt (pR HO543))) (below_size pB)); have n4_ := Aside0.mk (below_step pB hb); clear HO538; clear HO540; clear HO543; clear HB; have HO538 := n0_; have HO540 := n1_; have HO543 := n2_; have HO546 := n3_; have HB := n4_; clear n0_ n1_ n2_ n3_ n4_; (try clear hb); (try clear hb2); (try clear hk); (try clear hi); (try clear ho0)))
  (try simp only [Act.put, List.setIfInBounds_toArray, List.set_cons_zero, List.set_cons_succ])
  go_cut [45] (fun v45 wc => ∃ (kq : Nat) (x45_5 : Bool), v45 = .bool x45_5 ∧ Aside0 (laws_FnServeRoomFull.j0 kq t535 t536 t541 t544 x45_5 = some r) ∧ Aside0 (kq ≤ k) ∧ Aside0 (Kd.R k43 43 wc w.heap.size (fun _ => True) (.slice Ao8 t535.length co8) t535) ∧ Aside0 (Kd.R k32 32 wc w.heap.size (fun _ => True) (.slice Ao9 t536.length co9) t536) ∧ Aside0 (Kd.R (Kd.int .i64) 3 wc w.heap.size (fun k_ => some k_ ≠ (v545 : Value).ownBlock) v542 t541) ∧ Aside0 (Kd.R (Kd.int .i64) 3 wc w.heap.size (fun k_ => some k_ ≠ (v542 : Value).ownBlock) v545 t544) ∧ Aside0 (Below w.heap.size w wc))
  case first =>
   have H := HC6.out
   clear HC6
   replace H := Option.bind_eq_some_iff.mp H
   obtain ⟨t547, A120, H⟩ := H
   replace H : (if t547 = true then ((spec_GuestsValid.f k t535).bind fun t548 => (if t548 = true then ((spec_ChoicesValid.f k t536).bind fun t549 => (if t549 = true then ((spec_ServeGaps.f k t535 t536).bind fun t550 => (laws_FnServeRoomFull.j0 k t535 t536 t541 t544 (decide ((t550.length : Int) > 0)))) else (laws_FnServeRoomFull.j0 k t535 t536 t541 t544 true))) else (laws_FnServeRoomFull.j0 k t535 t536 t541 t544 true))) else (laws_FnServeRoomFull.j0 k t535 t536 t541 t544 true)) = some r := H
   have A12 := Aside0.mk A120
   clear A120
   by_cases c13 : t547 = true
   ·subst c13
    have H1 : ((spec_GuestsValid.f k t535).bind fun t548 => (if t548 = true then ((spec_ChoicesValid.f k t536).bind fun t549 => (if t549 = true then ((spec_ServeGaps.f k t535 t536).bind fun t550 => (laws_FnServeRoomFull.j0 k t535 t536 t541 t544 (decide ((t550.length : Int) > 0)))) else (laws_FnServeRoomFull.j0 k t535 t536 t541 t544 true))) else (laws_FnServeRoomFull.j0 k t535 t536 t541 t544 true))) = some r := by rw [if_pos rfl] at H; exact H
    clear H
    have H := H1
    clear H1
    replace H := Option.bind_eq_some_iff.mp H
    obtain ⟨t548, A140, H⟩ := H
    replace H : (if t548 = true then ((spec_ChoicesValid.f k t536).bind fun t549 => (if t549 = true then ((spec_ServeGaps.f k t535 t536).bind fun t550 => (laws_FnServeRoomFull.j0 k t535 t536 t541 t544 (decide ((t550.length : Int) > 0)))) else (laws_FnServeRoomFull.j0 k t535 t536 t541 t544 true))) else (laws_FnServeRoomFull.j0 k t535 t536 t541 t544 true)) = some r := H
    have A14 := Aside0.mk A140
    clear A140
    by_cases c15 : t548 = true
    ·subst c15
     have H1 : ((spec_ChoicesValid.f k t536).bind fun t549 => (if t549 = true then ((spec_ServeGaps.f k t535 t536).bind fun t550 => (laws_FnServeRoomFull.j0 k t535 t536 t541 t544 (decide ((t550.length : Int) > 0)))) else (laws_FnServeRoomFull.j0 k t535 t536 t541 t544 true))) = some r := by rw [if_pos rfl] at H; exact H
     clear H
     have H := H1
     clear H1
     replace H := Option.bind_eq_some_iff.mp H
     obtain ⟨t549, A160, H⟩ := H
     replace H : (if t549 = true then ((spec_ServeGaps.f k t535 t536).bind fun t550 => (laws_FnServeRoomFull.j0 k t535 t536 t541 t544 (decide ((t550.length : Int) > 0)))) else (laws_FnServeRoomFull.j0 k t535 t536 t541 t544 true)) = some r := H
     have A16 := Aside0.mk A160
     clear A160
     by_cases c17 : t549 = true
     ·subst c17
      have H1 : ((spec_ServeGaps.f k t535 t536).bind fun t550 => (laws_FnServeRoomFull.j0 k t535 t536 t541 t544 (decide ((t550.length : Int) > 0)))) = some r := by rw [if_pos rfl] at H; exact H
      clear H
      have H := H1
      clear H1
      replace H := Option.bind_eq_some_iff.mp H
      obtain ⟨t550, A180, H⟩ := H
      replace H : (laws_FnServeRoomFull.j0 k t535 t536 t541 t544 (decide ((t550.length : Int) > 0))) = some r := H
      have A18 := Aside0.mk A180
      clear A180
      have H' := Aside0.mk H
      clear H
      obtain ⟨Ao19, co19, eo19⟩ := Kd.R_slice HO543.out
      subst eo19
      obtain ⟨Ao20, co20, eo20⟩ := Kd.R_slice HO546.out
      subst eo20
      go_wp2_with (first | ((with_reducible refine gate_callee (f := 25) rfl ?_); refine goesL_ (some 27) rfl rfl Try.func25 pL rfl #[.slice Ao19 t541.length co19, .slice Ao20 t544.length co20] rfl pM ?_; (with_reducible refine (laws_sameInts.calls k _ _ t541 _ _ t544 true _ ?side1 ?side2 ?side3 ?side4 A12.out).mono ?_); (case side1 => exact pS ((Kd.R_reads' HO543.out).2.2)); (case side2 => exact (Kd.R_reads' HO543.out).2.1); (case side3 => exact pS ((Kd.R_reads' HO546.out).2.2)); (case side4 => exact (Kd.R_reads' HO546.out).2.1); rintro e w' ⟨rfl, ⟨nd, rfl⟩⟩; refine ⟨_, rfl, ?_⟩) | (go_at_call 26; (with_reducible refine (spec_GuestsValid.calls k _ _ t535 true _ ?side1 ?side2 A14.out).mono ?_); (case side1 => exact pS ((Kd.R_reads' HO538.out).2.2)); (case side2 => exact (Kd.R_reads' HO538.out).2.1); rintro e w21 ⟨rfl, hb⟩; have n0_ := Aside0.mk (Kd.R_below (pR HO538) hb); have n1_ := Aside0.mk (Kd.R_below (pR HO540) hb); have n2_ := Aside0.mk (Kd.R_below (pR HO543) hb); have n3_ := Aside0.mk (Kd.R_below (pR HO546) hb); have n4_ := Aside0.mk (below_step pB hb); clear HO538; clear HO540; clear HO543; clear HO546; clear HB; have HO538 := n0_; have HO540 := n1_; have HO543 := n2_; have HO546 := n3_; have HB := n4_; clear n0_ n1_ n2_ n3_ n4_; (try clear hb); (try clear hb2); (try clear hk); (try clear hi)) | (go_at_call 17; (with_reducible refine (spec_ChoicesValid.calls k _ _ t536 true _ ?side1 ?side2 A16.out).mono ?_); (case side1 => exact pS ((Kd.R_reads' HO540.out).2.2)); (case side2 => exact (Kd.R_reads' HO540.out).2.1); rintro e w' ⟨rfl, ⟨nd, rfl⟩⟩) | (go_at_call 30; (with_reducible refine (spec_ServeGaps.calls k _ _ t535 _ _ t536 t550 _ ?side1 ?side2 ?side3 ?side4 A18.out).mono ?_); (case side1 => exact pS ((Kd.R_reads' HO538.out).2.2)); (case side2 => exact (Kd.R_reads' HO538.out).2.1); (case side3 => exact pS ((Kd.R_reads' HO540.out).2.2)); (case side4 => exact (Kd.R_reads' HO540.out).2.1); rintro e w22 ⟨v551, rfl, ho0, hb⟩; have n0_ := Aside0.mk (Kd.R_below (pR HO538) hb); have n1_ := Aside0.mk (Kd.R_below (pR HO540) hb); have n2_ := Aside0.mk (Kd.R_elder' (pR HO543) (Kd.R_base ho0) hb); have n3_ := Aside0.mk (Kd.R_elder' (pR HO546) (Kd.R_base ho0) hb); have n4_ := Aside0.mk (Kd.R_lower (Kd.R_new' (Kd.R_new' ho0 (Kd.R_lt (pR HO543))) (Kd.R_lt (pR HO546))) (below_size pB)); have n5_ := Aside0.mk (below_step pB hb); clear HO538; clear HO540; clear HO543; clear HO546; clear HB; have HO538 := n0_; have HO540 := n1_; have HO543 := n2_; have HO546 := n3_; have HO552 := n4_; have HB := n5_; clear n0_ n1_ n2_ n3_ n4_ n5_; (try clear hb); (try clear hb2); (try clear hk); (try clear hi); (try clear ho0); obtain ⟨Ao23, co23, eo23⟩ := Kd.R_slice HO552.out; subst eo23))
      go_meet
      case rel => exact ⟨_, (decide ((t550.length : Int) > 0)), pF, H', ⟨by first | omega | exact Nat.le_refl _⟩, ⟨pR HO538⟩, ⟨pR HO540⟩, ⟨by (with_reducible repeat (first | apply Kd.R_alloc | apply Kd.R_drewN | apply Kd.R_drew)); exact Kd.R_mono HO543.out (fun _ hk => hk.1.2)⟩, ⟨by (with_reducible repeat (first | apply Kd.R_alloc | apply Kd.R_drewN | apply Kd.R_drew)); exact Kd.R_mono HO546.out (fun _ hk => hk.1.2)⟩, ⟨pB⟩⟩
     ·replace c17 := Bool.eq_false_iff.mpr c17
      subst c17
      have H1 : (laws_FnServeRoomFull.j0 k t535 t536 t541 t544 true) = some r := by rw [if_neg (show ¬ (false = true) by decide)] at H; exact H
      clear H
      have H := H1
      clear H1
      have H' := Aside0.mk H
      clear H
      obtain ⟨Ao24, co24, eo24⟩ := Kd.R_slice HO543.out
      subst eo24
      obtain ⟨Ao25, co25, eo25⟩ := Kd.R_slice HO546.out
      subst eo25
      go_wp2_with (first | ((with_reducible refine gate_callee (f := 25) rfl ?_); refine goesL_ (some 27) rfl rfl Try.func25 pL rfl #[.slice Ao24 t541.length co24, .slice Ao25 t544.length co25] rfl pM ?_; (with_reducible refine (laws_sameInts.calls k _ _ t541 _ _ t544 true _ ?side1 ?side2 ?side3 ?side4 A12.out).mono ?_); (case side1 => exact pS ((Kd.R_reads' HO543.out).2.2)); (case side2 => exact (Kd.R_reads' HO543.out).2.1); (case side3 => exact pS ((Kd.R_reads' HO546.out).2.2)); (case side4 => exact (Kd.R_reads' HO546.out).2.1); rintro e w' ⟨rfl, ⟨nd, rfl⟩⟩; refine ⟨_, rfl, ?_⟩) | (go_at_call 26; (with_reducible refine (spec_GuestsValid.calls k _ _ t535 true _ ?side1 ?side2 A14.out).mono ?_); (case side1 => exact pS ((Kd.R_reads' HO538.out).2.2)); (case side2 => exact (Kd.R_reads' HO538.out).2.1); rintro e w26 ⟨rfl, hb⟩; have n0_ := Aside0.mk (Kd.R_below (pR HO538) hb); have n1_ := Aside0.mk (Kd.R_below (pR HO540) hb); have n2_ := Aside0.mk (Kd.R_below (pR HO543) hb); have n3_ := Aside0.mk (Kd.R_below (pR HO546) hb); have n4_ := Aside0.mk (below_step pB hb); clear HO538; clear HO540; clear HO543; clear HO546; clear HB; have HO538 := n0_; have HO540 := n1_; have HO543 := n2_; have HO546 := n3_; have HB := n4_; clear n0_ n1_ n2_ n3_ n4_; (try clear hb); (try clear hb2); (try clear hk); (try clear hi)) | (go_at_call 17; (with_reducible refine (spec_ChoicesValid.calls k _ _ t536 false _ ?side1 ?side2 A16.out).mono ?_); (case side1 => exact pS ((Kd.R_reads' HO540.out).2.2)); (case side2 => exact (Kd.R_reads' HO540.out).2.1); rintro e w' ⟨rfl, ⟨nd, rfl⟩⟩))
      go_meet
      case rel => exact ⟨_, (true), pF, H', ⟨by first | omega | exact Nat.le_refl _⟩, ⟨pR HO538⟩, ⟨pR HO540⟩, ⟨by (with_reducible repeat (first | apply Kd.R_alloc | apply Kd.R_drewN | apply Kd.R_drew)); exact Kd.R_mono HO543.out (fun _ hk => hk.2)⟩, ⟨by (with_reducible repeat (first | apply Kd.R_alloc | apply Kd.R_drewN | apply Kd.R_drew)); exact Kd.R_mono HO546.out (fun _ hk => hk.2)⟩, ⟨pB⟩⟩
    ·replace c15 := Bool.eq_false_iff.mpr c15
     subst c15
     have H1 : (laws_FnServeRoomFull.j0 k t535 t536 t541 t544 true) = some r := by rw [if_neg (show ¬ (false = true) by decide)] at H; exact H
     clear H
     have H := H1
     clear H1
     have H' := Aside0.mk H
     clear H
     obtain ⟨Ao27, co27, eo27⟩ := Kd.R_slice HO543.out
     subst eo27
     obtain ⟨Ao28, co28, eo28⟩ := Kd.R_slice HO546.out
     subst eo28
     go_wp2_with (first | ((with_reducible refine gate_callee (f := 25) rfl ?_); refine goesL_ (some 27) rfl rfl Try.func25 pL rfl #[.slice Ao27 t541.length co27, .slice Ao28 t544.length co28] rfl pM ?_; (with_reducible refine (laws_sameInts.calls k _ _ t541 _ _ t544 true _ ?side1 ?side2 ?side3 ?side4 A12.out).mono ?_); (case side1 => exact pS ((Kd.R_reads' HO543.out).2.2)); (case side2 => exact (Kd.R_reads' HO543.out).2.1); (case side3 => exact pS ((Kd.R_reads' HO546.out).2.2)); (case side4 => exact (Kd.R_reads' HO546.out).2.1); rintro e w' ⟨rfl, ⟨nd, rfl⟩⟩; refine ⟨_, rfl, ?_⟩) | (go_at_call 26; (with_reducible refine (spec_GuestsValid.calls k _ _ t535 false _ ?side1 ?side2 A14.out).mono ?_); (case side1 => exact pS ((Kd.R_reads' HO538.out).2.2)); (case side2 => exact (Kd.R_reads' HO538.out).2.1); rintro e w29 ⟨rfl, hb⟩; have n0_ := Aside0.mk (Kd.R_below (pR HO538) hb); have n1_ := Aside0.mk (Kd.R_below (pR HO540) hb); have n2_ := Aside0.mk (Kd.R_below (pR HO543) hb); have n3_ := Aside0.mk (Kd.R_below (pR HO546) hb); have n4_ := Aside0.mk (below_step pB hb); clear HO538; clear HO540; clear HO543; clear HO546; clear HB; have HO538 := n0_; have HO540 := n1_; have HO543 := n2_; have HO546 := n3_; have HB := n4_; clear n0_ n1_ n2_ n3_ n4_; (try clear hb); (try clear hb2); (try clear hk); (try clear hi)))
     go_meet
     case rel => exact ⟨_, (true), pF, H', ⟨by first | omega | exact Nat.le_refl _⟩, ⟨pR HO538⟩, ⟨pR HO540⟩, ⟨by (with_reducible repeat (first | apply Kd.R_alloc | apply Kd.R_drewN | apply Kd.R_drew)); exact Kd.R_mono HO543.out (fun _ hk => hk.2)⟩, ⟨by (with_reducible repeat (first | apply Kd.R_alloc | apply Kd.R_drewN | apply Kd.R_drew)); exact Kd.R_mono HO546.out (fun _ hk => hk.2)⟩, ⟨pB⟩⟩
   ·replace c13 := Bool.eq_false_iff.mpr c13
    subst c13
    have H1 : (laws_FnServeRoomFull.j0 k t535 t536 t541 t544 true) = some r := by rw [if_neg (show ¬ (false = true) by decide)] at H; exact H
    clear H
    have H := H1
    clear H1
    have H' := Aside0.mk H
    clear H
    obtain ⟨Ao30, co30, eo30⟩ := Kd.R_slice HO543.out
    subst eo30
    obtain ⟨Ao31, co31, eo31⟩ := Kd.R_slice HO546.out
    subst eo31
    go_wp2_with (first | ((with_reducible refine gate_callee (f := 25) rfl ?_); refine goesL_ (some 27) rfl rfl Try.func25 pL rfl #[.slice Ao30 t541.length co30, .slice Ao31 t544.length co31] rfl pM ?_; (with_reducible refine (laws_sameInts.calls k _ _ t541 _ _ t544 false _ ?side1 ?side2 ?side3 ?side4 A12.out).mono ?_); (case side1 => exact pS ((Kd.R_reads' HO543.out).2.2)); (case side2 => exact (Kd.R_reads' HO543.out).2.1); (case side3 => exact pS ((Kd.R_reads' HO546.out).2.2)); (case side4 => exact (Kd.R_reads' HO546.out).2.1); rintro e w' ⟨rfl, ⟨nd, rfl⟩⟩; refine ⟨_, rfl, ?_⟩))
    go_meet
    case rel => exact ⟨_, (true), pF, H', ⟨by first | omega | exact Nat.le_refl _⟩, ⟨pR HO538⟩, ⟨pR HO540⟩, ⟨by (with_reducible repeat (first | apply Kd.R_alloc | apply Kd.R_drewN | apply Kd.R_drew)); exact Kd.R_mono HO543.out (fun _ hk => hk.2)⟩, ⟨by (with_reducible repeat (first | apply Kd.R_alloc | apply Kd.R_drewN | apply Kd.R_drew)); exact Kd.R_mono HO546.out (fun _ hk => hk.2)⟩, ⟨pB⟩⟩
  case rest =>
   clear HC6
   try clear c1
   try clear c2
   try clear c2b0
   try clear c2b1
   try clear p2
   try clear c8
   try clear c13
   try clear c15
   try clear c17
   try clear c22
   try clear c23
   try clear c24
   try clear c25
   obtain ⟨kq, x45_5, rfl, HA, HJ5, HO_3, HO_4, HO_5, HO_6, HB⟩ := hcut
   cases kq with
   | zero => exact absurd HA.out (by simp [laws_FnServeRoomFull.j0])
   | succ kj5 =>
    have H := HA.out
    clear HA
    simp only [laws_FnServeRoomFull.j0] at H
    by_cases c32 : x45_5 = true
    ·subst c32
     have H1 : ((laws_sameInts.f kj5 t541 t544).bind fun t553 => (some t553)) = some r := by rw [if_pos rfl] at H; exact H
     clear H
     have H := H1
     clear H1
     replace H := Option.bind_eq_some_iff.mp H
     obtain ⟨t553, A330, H⟩ := H
     replace H : (some t553) = some r := H
     have A33 := Aside0.mk A330
     clear A330
     obtain rfl := Option.some.inj H
     obtain ⟨Ao34, co34, eo34⟩ := Kd.R_slice HO_5.out
     subst eo34
     obtain ⟨Ao35, co35, eo35⟩ := Kd.R_slice HO_6.out
     subst eo35
     go_wp2_with (first | ((with_reducible refine gate_callee (f := 25) rfl ?_); refine goesL_ (some 48) rfl rfl Try.func25 pL rfl #[.slice Ao34 t541.length co34, .slice Ao35 t544.length co35] rfl pM ?_; (with_reducible refine (laws_sameInts.calls kj5 _ _ t541 _ _ t544 t553 _ ?side1 ?side2 ?side3 ?side4 A33.out).mono ?_); (case side1 => exact pS ((Kd.R_reads' HO_5.out).2.2)); (case side2 => exact (Kd.R_reads' HO_5.out).2.1); (case side3 => exact pS ((Kd.R_reads' HO_6.out).2.2)); (case side4 => exact (Kd.R_reads' HO_6.out).2.1); rintro e w' ⟨rfl, ⟨nd, rfl⟩⟩; refine ⟨_, rfl, ?_⟩))
     go_ret
     exact ⟨pE, pB⟩
    ·replace c32 := Bool.eq_false_iff.mpr c32
     subst c32
     have H1 : ((some (([] : List (S32)) : List (S32))).bind fun y554 => (if y554.length + t536.length < 5864062014805 then (laws_FnServeRoomFull.l0 kj5 t535 t541 (y554 ++ t536) 0) else (none))) = some r := by rw [if_neg (show ¬ (false = true) by decide)] at H; exact H
     clear H
     have H := H1
     clear H1
     obtain ⟨y554, hy554⟩ : ∃ y_ : List (S32), y_ = (([] : List (S32))) := ⟨_, rfl⟩
     replace H : (if y554.length + t536.length < 5864062014805 then (laws_FnServeRoomFull.l0 kj5 t535 t541 (y554 ++ t536) 0) else (none)) = some r := by first | (rw [hy554]; with_reducible exact H) | (have H2_ := (Option.bind_some _ _).symm.trans H; rw [hy554]; with_reducible exact H2_) | (have H2_ := (Option.bind_some _ _).symm.trans H; with_reducible exact H2_) | with_reducible exact H | (rw [hy554]; exact H) | exact H
     have Ny554 := Aside0.mk hy554
     clear hy554
     by_cases c36 : y554.length + t536.length < 5864062014805
     ·rw [if_pos c36] at H
      have LMc36 := Aside0.mk c36
      clear c36
      obtain ⟨y557, hy557⟩ : ∃ y_ : List (S32), y_ = (y554 ++ t536) := ⟨_, rfl⟩
      replace H : (laws_FnServeRoomFull.l0 kj5 t535 t541 y557 0) = some r := by first | (rw [hy557]; with_reducible exact H) | (have H2_ := (Option.bind_some _ _).symm.trans H; rw [hy557]; with_reducible exact H2_) | (have H2_ := (Option.bind_some _ _).symm.trans H; with_reducible exact H2_) | with_reducible exact H | (rw [hy557]; exact H) | exact H
      have Ny557 := Aside0.mk hy557
      clear hy557
      have H' := Aside0.mk H
      clear H
      go_wp2_with (first | ((with_reducible refine gate_dst (N := 49) rfl ?_); (try (refine gate_guard (by rfl) ?_; dsimp only)); refine Kd.R_lit k32 _ 32 ?hg (N := 49) ?hd (xs := ([] : List (S32))) (inner := []) (ok := fun _ => True) (okp := fun _ => True) ?hr ?hp (fun _ hk => hk) trivial (Below.refl _ _) (Nat.le_refl _) (by simp) ?_; (case hd => rfl); (case hg => rfl); (case hr => first | (go_simp; done) | (go_simp; rfl)); (case hp => exact (Reps.none _ _)); intro v555 w37 ho38 hb hg_ hnew_; clear hg_ hnew_; (first | rw [← Ny554.out] at ho38 | (simp only [Int.reduceToNat] at ho38; rw [← Ny554.out] at ho38)); have n0_ := Aside0.mk (Kd.R_below (pR HO_3) hb); have n1_ := Aside0.mk (Kd.R_elder' (pR HO_4) (Kd.R_base ho38) hb); have n2_ := Aside0.mk (Kd.R_below (pR HO_5) hb); have n3_ := Aside0.mk (Kd.R_below (pR HO_6) hb); have n4_ := Aside0.mk (Kd.R_lower (Kd.R_new' ho38 (Kd.R_lt (pR HO_4))) (below_size pB)); have n5_ := Aside0.mk (below_step pB hb); clear HO_3; clear HO_4; clear HO_5; clear HO_6; clear HB; have HO_3 := n0_; have HO_4 := n1_; have HO_5 := n2_; have HO_6 := n3_; have HO556 := n4_; have HB := n5_; clear n0_ n1_ n2_ n3_ n4_ n5_; clear hb ho38) | ((with_reducible refine gate_builtin (b := .append) (xs := #[.tmp 49, .tmp 50]) rfl ?_); (try (refine gate_guard (by rfl) ?_; dsimp only)); at_builtin; refine Kd.R_append_rows k32 (w0 := w) w.heap.size rfl (.tmp 49) (.tmp 50) 25 32 (.agg #[(.int .i64 0), (.int .i64 0), (.int .i64 0)]) 24 rfl Try.underlying25 info32 rfl (by decide) (by omega) v555 y554 t536 _ _ _ (fun k_ => some k_ ≠ (.slice Ao9 t536.length co9 : Value).ownBlock) (fun _ => False) rfl rfl ?aO ?aR (fun _ _ h => h) (fun _ h => h.elim) ?aF ?aB ?aS ?aL ?_; (case aR => exact pS ((Kd.R_reads' HO_4.out).2.2)); (case aB => exact pB); (case aF => exact (fun k_ hk => Kd.fresh' (Kd.R_lt (pR HO_4)) k_ hk)); (case aO => exact (by (with_reducible repeat (first | apply Kd.R_alloc | apply Kd.R_drewN | apply Kd.R_drew)); exact Kd.R_mono HO556.out (fun _ hk => hk.2))); (case aS => exact (below_size pB)); (case aL => have := LMc36.out; omega); intro v558 w39 ho hb hg hat; rw [← Ny557.out] at ho; have n0_ := Aside0.mk (Kd.R_over' (pR HO_3) (Kd.R_typed (pR HO556)) (by decide) hg); have n1_ := Aside0.mk (Kd.R_after (ok := (fun _ => True)) (pR HO_4) hg hat); have n2_ := Aside0.mk (Kd.R_over' (pR HO_5) (Kd.R_typed (pR HO556)) (by decide) hg); have n3_ := Aside0.mk (Kd.R_over' (pR HO_6) (Kd.R_typed (pR HO556)) (by decide) hg); have n4_ := Aside0.mk (hb); have n5_ := Aside0.mk (ho); clear HO_3; clear HO_4; clear HO_5; clear HO_6; clear HB; clear HO556; have HO_3 := n0_; have HO_4 := n1_; have HO_5 := n2_; have HO_6 := n3_; have HB := n4_; have HO559 := n5_; clear n0_ n1_ n2_ n3_ n4_ n5_; clear ho hb hg hat))
      go_loopg [8] kj5 (fun kq v8 w' => ∃ (x7_2 : List (S32)) (x8_2 : Int), v8 = .int .i64 x8_2 ∧ Aside0 (laws_FnServeRoomFull.l0 kq t535 t541 x7_2 x8_2 = some r) ∧ Aside0 (kq ≤ kj5) ∧ Aside0 (Kd.R k43 43 w' w.heap.size (fun _ => True) (.slice Ao8 t535.length co8) t535) ∧ Aside0 (Kd.R (Kd.int .i64) 3 w' w.heap.size (fun _ => True) v542 t541) ∧ Aside0 (Kd.R k32 32 w' w.heap.size (fun _ => True) v558 x7_2) ∧ Aside0 (Below w.heap.size w w'))
      case atStart => exact ⟨(y557), (0), pF, H', ⟨Nat.le_refl _⟩, ⟨pR HO_3⟩, ⟨by (with_reducible repeat (first | apply Kd.R_alloc | apply Kd.R_drewN | apply Kd.R_drew)); exact Kd.R_mono HO_5.out (fun _ hk => trivial)⟩, ⟨by (with_reducible repeat (first | apply Kd.R_alloc | apply Kd.R_drewN | apply Kd.R_drew)); exact Kd.R_mono HO559.out (fun _ hk => trivial)⟩, ⟨pB⟩⟩
      case round =>
       clear H'
       try clear c1
       try clear c2
       try clear c2b0
       try clear c2b1
       try clear p2
       try clear c3
       try clear c8
       try clear c13
       try clear c15
       try clear c17
       try clear c22
       try clear c23
       try clear c24
       try clear c25
       try clear c32
       try clear c36
       try clear p2
       obtain ⟨x7_2, x8_2, rfl, HA, HK2, HO_3, HO_5, HO_7, HB⟩ := hrel
       cases gk with
       | zero => exact absurd HA.out (by simp [laws_FnServeRoomFull.l0])
       | succ k2 =>
        have H := HA.out
        clear HA
        simp only [laws_FnServeRoomFull.l0] at H
        by_cases c40 : x8_2 < (x7_2.length : Int)
        ·rw [if_pos c40] at H
         have c40b0 : decide (x8_2 < (x7_2.length : Int)) = true := decide_eq_true c40
         clear c40
         by_cases c41 : 0 ≤ x8_2
         ·rw [if_pos c41] at H
          have c41b0 : decide (0 ≤ x8_2) = true := decide_eq_true c41
          clear c41
          obtain ⟨y560, hy560⟩ : ∃ y_ : List (S32), y_ = (x7_2.set (x8_2 : Int).toNat (⟨(rd_T32 x7_2 x8_2).f0, (rd_T32 x7_2 x8_2).f1, 10⟩ : S32)) := ⟨_, rfl⟩
          replace H : (laws_FnServeRoomFull.l0 k2 t535 t541 y560 (wrap64 (x8_2 + 1))) = some r := by first | (rw [hy560]; with_reducible exact H) | (have H2_ := (Option.bind_some _ _).symm.trans H; rw [hy560]; with_reducible exact H2_) | (have H2_ := (Option.bind_some _ _).symm.trans H; with_reducible exact H2_) | with_reducible exact H | (rw [hy560]; exact H) | exact H
          have Ny560 := Aside0.mk hy560
          clear hy560
          have H' := Aside0.mk H
          clear H
          obtain ⟨Ao43, co43, eo43⟩ := Kd.R_slice HO_7.out
          subst eo43
          have p42 : 0 ≤ (x8_2 : Int) := of_decide_eq_true pA
          have q42 : (x8_2 : Int) < ((x7_2.length : Int) : Int) := of_decide_eq_true pA
          obtain ⟨go42, co42, eo42, gb42, gl42, cl42, HG42⟩ := Kd.R_form HO_7.out (by omega)
          (first | cases eo42 | (injection eo42 with ea_ en_ ec_; (first | subst ea_ | (injection ea_ with ea_; subst ea_)); subst ec_; clear en_))
          have GB42 := Aside0.mk gb42
          have GG42 := Aside0.mk HG42
          clear gb42 gl42 HG42
          obtain ⟨ce42, hcl42, hM42, hcc42, hfr42⟩ := Kd.R_elem HO_7.out z32 (x8_2 : Int) p42 q42
          obtain rfl := k32_openM hM42
          have hx42_0 : wr.cell? ⟨go42, (x8_2 : Int).toNat * 3, none⟩ = some (.int .i64 ((rd_T32 x7_2 x8_2).f0)) := hcc42 0 _ rfl
          have hx42_1 : wr.cell? ⟨go42, (x8_2 : Int).toNat * 3 + 1, none⟩ = some (.int .i64 ((rd_T32 x7_2 x8_2).f1)) := hcc42 1 _ rfl
          have hx42_2 : wr.cell? ⟨go42, (x8_2 : Int).toNat * 3 + 2, none⟩ = some (.int .i64 ((rd_T32 x7_2 x8_2).f2)) := hcc42 2 _ rfl
          have hf42_0 : wr.frozen? ⟨go42, (x8_2 : Int).toNat * 3, none⟩ = false := hfr42 0
          have hf42_1 : wr.frozen? ⟨go42, (x8_2 : Int).toNat * 3 + 1, none⟩ = false := hfr42 1
          have hf42_2 : wr.frozen? ⟨go42, (x8_2 : Int).toNat * 3 + 2, none⟩ = false := hfr42 2
          clear hcl42 hcc42 hfr42 hM42
          replace p42 := eq_true p42
          replace q42 := eq_true q42
          have HX44 := Aside0.mk (show Kd.R k32 32 wr w.heap.size (fun _ => True) (.slice (some ⟨go42, 0, none⟩) x7_2.length co43) x7_2 from (pR HO_7))
          obtain ⟨ce44, hcl44, hM44, hcc44, hfr44⟩ := Kd.R_elem HX44.out z32 (x8_2 : Int) (of_decide_eq_true pA) (by have h_ : (x8_2 : Int) < ((x7_2.length : Int) : Int) := of_decide_eq_true pA; first | exact h_ | (have e_ := (Kd.R_reads' HO_7.out).1; omega) | simpa using h_)
          obtain rfl := k32_openM hM44
          have HP44 := Kd.R_seg HX44.out (x8_2 : Int) (of_decide_eq_true pA) (by have h_ : (x8_2 : Int) < ((x7_2.length : Int) : Int) := of_decide_eq_true pA; first | exact h_ | (have e_ := (Kd.R_reads' HO_7.out).1; omega) | simpa using h_) (seg := [.int .i64 10]) (j := 2) hcl44 hcc44 (show 3 ≤ 3 from by decide) (x' := (⟨(rd_T32 x7_2 x8_2).f0, (rd_T32 x7_2 x8_2).f1, 10⟩ : S32)) (k32_mkM _ _ _ (⟨(rd_T32 x7_2 x8_2).f0, (rd_T32 x7_2 x8_2).f1, 10⟩ : S32) ) (fun _ hk => hk)
          have hx44_2 := hcc44 2 _ rfl
          (try simp only [show (k32).sz = 3 from rfl, Nat.mul_one, Nat.add_zero] at hx44_2)
          have hf44_2 := hfr44 2
          (try simp only [show (k32).sz = 3 from rfl, Nat.mul_one, Nat.add_zero] at hf44_2)
          clear hcl44 hcc44 hfr44 hM44
          go_wp2_with (first | ((with_reducible refine gate_store (t := 3) (p := 61) rfl ?_); refine store_event (t := 3) (p := 61) (v := ?vo_w45) (w1 := (wr.setCell ⟨go42, (x8_2 : Int).toNat * 3 + 2, none⟩ (.int .i64 10))) ?hg ?ho ?hn ?hr ?_; (case ho => rfl); (case hg => rfl); (case hn => rfl); (case hr => first | (go_simp; done) | (go_simp; rfl)); intro w45 hw; have hg : wr.grownBy w45 (some go42) := (by rw [hw]; exact HP44.2); have hp_ : Kd.R k32 32 w45 w.heap.size (fun _ => True) (.slice (some ⟨go42, 0, none⟩) x7_2.length co43) y560 := (by rw [hw, Ny560.out]; exact HP44.1); clear HP44; have n0_ := Aside0.mk (Kd.R_over' (v := (.slice (some ⟨go42, 0, none⟩) x7_2.length co43)) (pR HO_3) (Kd.R_typed HO_7.out) (by decide) hg); have n1_ := Aside0.mk (Kd.R_over' (v := (.slice (some ⟨go42, 0, none⟩) x7_2.length co43)) (pR HO_5) (Kd.R_typed HO_7.out) (by decide) hg); have n2_ := Aside0.mk (hp_); have n3_ := Aside0.mk ((by rw [hw]; exact below_set (HB.out) GB42.out : Below w.heap.size w w45)); clear HO_3; clear HO_5; clear HO_7; clear HB; have HO_3 := n0_; have HO_5 := n1_; have HO_7 := n2_; have HB := n3_; clear n0_ n1_ n2_ n3_; clear hg hw hp_))
          go_roundg k2
          case measure => have := HJ5.out; have := HK2.out; omega
          case rel => exact ⟨(y560), (wrap64 (x8_2 + 1)), pF, H', ⟨by have := HJ5.out; have := HK2.out; omega⟩, ⟨pR HO_3⟩, ⟨pR HO_5⟩, ⟨pR HO_7⟩, ⟨pB⟩⟩
         ·rw [if_neg c41] at H
          exact absurd H (by simp)
        ·rw [if_neg c40] at H
         have c40b0 : decide (x8_2 < (x7_2.length : Int)) = false := decide_eq_false c40
         clear c40
         replace H := Option.bind_eq_some_iff.mp H
         obtain ⟨⟨t561, t562⟩, A460, H⟩ := H
         replace H : (if t562 = true then ((laws_sameInts.f k2 t561 t541).bind fun t565 => (some t565)) else (some false)) = some r := H
         have A46 := Aside0.mk A460
         clear A460
         by_cases c47 : t562 = true
         ·subst c47
          have H1 : ((laws_sameInts.f k2 t561 t541).bind fun t565 => (some t565)) = some r := by rw [if_pos rfl] at H; exact H
          clear H
          have H := H1
          clear H1
          replace H := Option.bind_eq_some_iff.mp H
          obtain ⟨t565, A480, H⟩ := H
          replace H : (some t565) = some r := H
          have A48 := Aside0.mk A480
          clear A480
          obtain rfl := Option.some.inj H
          obtain ⟨Ao49, co49, eo49⟩ := Kd.R_slice HO_7.out
          subst eo49
          go_wp2_with (first | ((with_reducible refine gate_callee (f := 38) rfl ?_); refine goesL_ (some 65) rfl rfl Try.func38 pL rfl #[.slice Ao8 t535.length co8, .slice Ao49 x7_2.length co49] rfl pM ?_; (with_reducible refine (impl_ServeRoom.calls k2 _ _ t535 _ _ x7_2 t561 true _ ?side1 ?side2 ?side3 ?side4 A46.out).mono ?_); (case side1 => exact pS ((Kd.R_reads' HO_3.out).2.2)); (case side2 => exact (Kd.R_reads' HO_3.out).2.1); (case side3 => exact pS ((Kd.R_reads' HO_7.out).2.2)); (case side4 => exact (Kd.R_reads' HO_7.out).2.1); rintro e w50 ⟨v563, rfl, ho0, hb⟩; refine ⟨_, rfl, ?_⟩; have n0_ := Aside0.mk (Kd.R_below (pR HO_3) hb); have n1_ := Aside0.mk (Kd.R_elder' (pR HO_5) (Kd.R_base ho0) hb); have n2_ := Aside0.mk (Kd.R_below (pR HO_7) hb); have n3_ := Aside0.mk (Kd.R_lower (Kd.R_new' ho0 (Kd.R_lt (pR HO_5))) (below_size pB)); have n4_ := Aside0.mk (below_step pB hb); clear HO_3; clear HO_5; clear HO_7; clear HB; have HO_3 := n0_; have HO_5 := n1_; have HO_7 := n2_; have HO564 := n3_; have HB := n4_; clear n0_ n1_ n2_ n3_ n4_; (try clear hb); (try clear hb2); (try clear hk); (try clear hi); (try clear ho0); obtain ⟨Ao51, co51, eo51⟩ := Kd.R_slice HO564.out; subst eo51; obtain ⟨Ao52, co52, eo52⟩ := Kd.R_slice HO_5.out; subst eo52) | (go_at_call 25; (with_reducible refine (laws_sameInts.calls k2 _ _ t561 _ _ t541 t565 _ ?side1 ?side2 ?side3 ?side4 A48.out).mono ?_); (case side1 => exact pS ((Kd.R_reads' HO564.out).2.2)); (case side2 => exact (Kd.R_reads' HO564.out).2.1); (case side3 => exact pS ((Kd.R_reads' HO_5.out).2.2)); (case side4 => exact (Kd.R_reads' HO_5.out).2.1); rintro e w' ⟨rfl, ⟨nd, rfl⟩⟩))
          go_ret
          exact ⟨pE, pB⟩
         ·replace c47 := Bool.eq_false_iff.mpr c47
          subst c47
          have H1 : (some false) = some r := by rw [if_neg (show ¬ (false = true) by decide)] at H; exact H
          clear H
          have H := H1
          clear H1
          obtain rfl := Option.some.inj H
          obtain ⟨Ao53, co53, eo53⟩ := Kd.R_slice HO_7.out
          subst eo53
          go_wp2_with (first | ((with_reducible refine gate_callee (f := 38) rfl ?_); refine goesL_ (some 65) rfl rfl Try.func38 pL rfl #[.slice Ao8 t535.length co8, .slice Ao53 x7_2.length co53] rfl pM ?_; (with_reducible refine (impl_ServeRoom.calls k2 _ _ t535 _ _ x7_2 t561 false _ ?side1 ?side2 ?side3 ?side4 A46.out).mono ?_); (case side1 => exact pS ((Kd.R_reads' HO_3.out).2.2)); (case side2 => exact (Kd.R_reads' HO_3.out).2.1); (case side3 => exact pS ((Kd.R_reads' HO_7.out).2.2)); (case side4 => exact (Kd.R_reads' HO_7.out).2.1); rintro e w54 ⟨v563, rfl, ho0, hb⟩; refine ⟨_, rfl, ?_⟩; have n0_ := Aside0.mk (Kd.R_below (pR HO_3) hb); have n1_ := Aside0.mk (Kd.R_elder' (pR HO_5) (Kd.R_base ho0) hb); have n2_ := Aside0.mk (Kd.R_below (pR HO_7) hb); have n3_ := Aside0.mk (Kd.R_lower (Kd.R_new' ho0 (Kd.R_lt (pR HO_5))) (below_size pB)); have n4_ := Aside0.mk (below_step pB hb); clear HO_3; clear HO_5; clear HO_7; clear HB; have HO_3 := n0_; have HO_5 := n1_; have HO_7 := n2_; have HO564 := n3_; have HB := n4_; clear n0_ n1_ n2_ n3_ n4_; (try clear hb); (try clear hb2); (try clear hk); (try clear hi); (try clear ho0)))
          go_ret
          exact ⟨pE, pB⟩
     ·rw [if_neg c36] at H
      exact absurd H (by simp)

/-- THE ONE PURE STATEMENT of laws_FnServeRoomFull: yours. -/
def laws_FnServeRoomFull.Pure : Prop := ∀ (l0 : List Int), l0.length ≤ maxLen → l0.length * 1 ≤ 140737488351232 → (∀ x ∈ l0, (Lit.int .u8 x).wf = true) → ∃ k, laws_FnServeRoomFull.f k l0 = some true
theorem laws_FnServeRoomFull.walk (P : laws_FnServeRoomFull.Pure) (a0 : Option Addr) (len0 cap0 : Nat) (z0 : List Int) (w : World) (w0 : (a0 = none ∧ len0 = 0 ∧ cap0 = 0 ∧ z0 = []) ∨ ∃ x, a0 = some x ∧ len0 ≤ cap0 ∧ cap0 ≤ maxLen ∧ z0.length = cap0 ∧ (∀ i, i < z0.length → w.cell? (x.add i) = some (.int .u8 (z0.getD i 0))) ∧ ∀ n ∈ z0, (Lit.int .u8 n).wf = true) (y0 : len0 * 1 ≤ 140737488351232) :
  Calls Try.prog 8 #[.slice a0 len0 cap0] w fun e w' => e = .returned (.bool true) ∧ Below w.heap.size w w' := by
 obtain ⟨l0, rfl, hr0, hm0, hw0, hc0⟩ := ReadsInt.ofRowC w0
 obtain ⟨k, h⟩ := P l0 hm0 y0 hw0
 refine (laws_FnServeRoomFull.calls k _ _ l0 true w (Kd.C_of_reads (d := (0 : Int)) (h1 := fun _ => rfl) hr0) hc0 h).mono ?_
 rintro e w' ⟨rfl, hd⟩
 exact ⟨rfl, hd⟩

end Go.Proofs.Ytehenjjaekkcfaa.Q
