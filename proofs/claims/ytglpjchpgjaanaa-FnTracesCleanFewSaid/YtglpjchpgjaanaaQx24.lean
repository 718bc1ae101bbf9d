-- Written by the kit's print.py for all laws of the seat at once (one namespace), by a program of this session.
import Derived.Test.YtglpjchpgjaanaaQx0
import Derived.Test.YtglpjchpgjaanaaQx12
import Derived.Test.YtglpjchpgjaanaaQx16
import Derived.Test.YtglpjchpgjaanaaQx21
import Derived.Test.YtglpjchpgjaanaaQx22
namespace Go.Proofs.Ytglpjchpgjaanaa.Q
open Go.RowKit Go.Proofs.YtglpjchpgjaanaaW.PrintWords Go.Proofs.YtglpjchpgjaanaaW.PrintLast Go.Proofs.YtglpjchpgjaanaaW.PrintMore
attribute [local go_sem] max2_int min2_int max_two min_two max_three min_three max_four min_four   -- for this text's walks alone
set_option linter.unusedVariables false
set_option linter.unusedSimpArgs false

/-! ### laws_FnTracesCleanFew: function 11 -/
mutual
def laws_FnTracesCleanFew.j0 : Nat → List (S40) → List Int → List (S40) → Bool → List (S40) → Bool → Bool → Option (Bool)
 | 0, _, _, _, _, _, _, _ => none
 | k + 1, x3, x4, x5, x6, x7, x8, x45 => if x45 = true then (if (x6 == x8) = true then ((laws_sameUses.f k x5 x7).bind fun t485 => (some t485)) else (some false)) else ((impl_TracesOf.f k x3).bind fun t486 => (laws_FnTracesCleanFew.l0 k x3 x4 x5 t486 0 0 0))
def laws_FnTracesCleanFew.l0 : Nat → List (S40) → List Int → List (S40) → List Int → Int → Int → Int → Option (Bool)
 | 0, _, _, _, _, _, _, _ => none
 | k + 1, x3, x4, x5, x9, x10, x11, x12 => if x12 < (x3.length : Int) then (laws_FnTracesCleanFew.j2 k x3 x4 x5 x9 x10 x11 x12 (decide (x12 < (x9.length : Int)))) else (laws_FnTracesCleanFew.j2 k x3 x4 x5 x9 x10 x11 x12 false)
def laws_FnTracesCleanFew.j2 : Nat → List (S40) → List Int → List (S40) → List Int → Int → Int → Int → Bool → Option (Bool)
 | 0, _, _, _, _, _, _, _, _ => none
 | k + 1, x3, x4, x5, x9, x10, x11, x12, x65 => if x65 = true then (if 0 ≤ x12 then (if x12 < (x9.length : Int) then (if x12 < (x4.length : Int) then ((impl_AllergensJoin.f (rd x9 x12) (rd x4 x12)).bind fun t491 => (if t491 = (rd x4 x12) then (if x12 < (x3.length : Int) then (if (rd_T40 x3 x12).f2 = true then (if x12 < (x5.length : Int) then (if (rd_T40 x5 x12).f2 = true then (laws_FnTracesCleanFew.l0 k x3 x4 x5 x9 (wrap64 (x10 + 1)) (wrap64 (x11 + 1)) (wrap64 (x12 + 1))) else (laws_FnTracesCleanFew.l0 k x3 x4 x5 x9 (wrap64 (x10 + 1)) x11 (wrap64 (x12 + 1)))) else (none)) else (if x12 < (x5.length : Int) then (if (rd_T40 x5 x12).f2 = true then (laws_FnTracesCleanFew.l0 k x3 x4 x5 x9 x10 (wrap64 (x11 + 1)) (wrap64 (x12 + 1))) else (laws_FnTracesCleanFew.l0 k x3 x4 x5 x9 x10 x11 (wrap64 (x12 + 1)))) else (none))) else (none)) else (some true))) else (none)) else (none)) else (none)) else (some (decide (x11 ≤ x10)))
end
def laws_FnTracesCleanFew.f (k : Nat) (l0 : List Int) : Option (Bool) := if (l0.length : Int) > 1048576 then (some true) else ((spec_DrawTracesClean.f k l0).bind fun bt470 => ((impl_TracesClean.f k bt470.1 bt470.2).bind fun bt476 => ((spec_TracesClean.f k bt470.1 bt470.2).bind fun bt480 => (if (bt476.2 != bt480.2) = true then (laws_FnTracesCleanFew.j0 k bt470.1 bt470.2 bt476.1 bt476.2 bt480.1 bt480.2 true) else ((laws_sameUses.f k bt476.1 bt480.1).bind fun t484 => (if t484 = true then (laws_FnTracesCleanFew.j0 k bt470.1 bt470.2 bt476.1 bt476.2 bt480.1 bt480.2 (!bt476.2)) else (laws_FnTracesCleanFew.j0 k bt470.1 bt470.2 bt476.1 bt476.2 bt480.1 bt480.2 true)))))))
theorem laws_FnTracesCleanFew.mono_l : ∀ k, (∀ y0 y1 y2 y3 y4 y5 y6, LeO (laws_FnTracesCleanFew.j0 k y0 y1 y2 y3 y4 y5 y6) (laws_FnTracesCleanFew.j0 (k + 1) y0 y1 y2 y3 y4 y5 y6)) ∧ (∀ y0 y1 y2 y3 y4 y5 y6, LeO (laws_FnTracesCleanFew.l0 k y0 y1 y2 y3 y4 y5 y6) (laws_FnTracesCleanFew.l0 (k + 1) y0 y1 y2 y3 y4 y5 y6)) ∧ (∀ y0 y1 y2 y3 y4 y5 y6 y7, LeO (laws_FnTracesCleanFew.j2 k y0 y1 y2 y3 y4 y5 y6 y7) (laws_FnTracesCleanFew.j2 (k + 1) y0 y1 y2 y3 y4 y5 y6 y7))
 | 0 => ⟨fun _ _ _ _ _ _ _ r h => by simp [laws_FnTracesCleanFew.j0] at h, fun _ _ _ _ _ _ _ r h => by simp [laws_FnTracesCleanFew.l0] at h, fun _ _ _ _ _ _ _ _ r h => by simp [laws_FnTracesCleanFew.j2] at h⟩
 | k + 1 => by
  obtain ⟨ih0, ih1, ih2⟩ := laws_FnTracesCleanFew.mono_l k
  refine ⟨?_, ?_, ?_⟩
  ·intro y0 y1 y2 y3 y4 y5 y6
   unfold laws_FnTracesCleanFew.j0
   repeat' first
   | (with_reducible exact ih0 _ _ _ _ _ _ _)
   | (with_reducible exact ih1 _ _ _ _ _ _ _)
   | (with_reducible exact ih2 _ _ _ _ _ _ _ _)
   | (with_reducible exact impl_TracesClean.mono _ _ _)
   | (with_reducible exact impl_TracesOf.mono _ _)
   | (with_reducible exact laws_sameUses.mono _ _ _)
   | (with_reducible exact spec_DrawTracesClean.mono _ _)
   | (with_reducible exact spec_TracesClean.mono _ _ _)
   | (with_reducible exact LeO.refl _)
   | (with_reducible exact LeO.none _)
   | (with_reducible refine LeO.ite ?_ ?_)
   | (with_reducible refine LeO.bind ?_ (fun _ => ?_))
   | exact ih0 _ _ _ _ _ _ _
   | exact ih1 _ _ _ _ _ _ _
   | exact ih2 _ _ _ _ _ _ _ _
   | exact impl_TracesClean.mono _ _ _
   | exact impl_TracesOf.mono _ _
   | exact laws_sameUses.mono _ _ _
   | exact spec_DrawTracesClean.mono _ _
   | exact spec_TracesClean.mono _ _ _
   | exact LeO.none _
   | refine LeO.ite ?_ ?_
   | refine LeO.bind ?_ (fun _ => ?_)
  ·intro y0 y1 y2 y3 y4 y5 y6
   unfold laws_FnTracesCleanFew.l0
   repeat' first
   | (with_reducible exact ih0 _ _ _ _ _ _ _)
   | (with_reducible exact ih1 _ _ _ _ _ _ _)
   | (with_reducible exact ih2 _ _ _ _ _ _ _ _)
   | (with_reducible exact impl_TracesClean.mono _ _ _)
   | (with_reducible exact impl_TracesOf.mono _ _)
   | (with_reducible exact laws_sameUses.mono _ _ _)
   | (with_reducible exact spec_DrawTracesClean.mono _ _)
   | (with_reducible exact spec_TracesClean.mono _ _ _)
   | (with_reducible exact LeO.refl _)
   | (with_reducible exact LeO.none _)
   | (with_reducible refine LeO.ite ?_ ?_)
   | (with_reducible refine LeO.bind ?_ (fun _ => ?_))
   | exact ih0 _ _ _ _ _ _ _
   | exact ih1 _ _ _ _ _ _ _
   | exact ih2 _ _ _ _ _ _ _ _
   | exact impl_TracesClean.mono _ _ _
   | exact impl_TracesOf.mono _ _
   | exact laws_sameUses.mono _ _ _
   | exact spec_DrawTracesClean.mono _ _
   | exact spec_TracesClean.mono _ _ _
   | exact LeO.none _
   | refine LeO.ite ?_ ?_
   | refine LeO.bind ?_ (fun _ => ?_)
  ·intro y0 y1 y2 y3 y4 y5 y6 y7
   unfold laws_FnTracesCleanFew.j2
   repeat' first
   | (with_reducible exact ih0 _ _ _ _ _ _ _)
   | (with_reducible exact ih1 _ _ _ _ _ _ _)
   | (with_reducible exact ih2 _ _ _ _ _ _ _ _)
   | (with_reducible exact impl_TracesClean.mono _ _ _)
   | (with_reducible exact impl_TracesOf.mono _ _)
   | (with_reducible exact laws_sameUses.mono _ _ _)
   | (with_reducible exact spec_DrawTracesClean.mono _ _)
   | (with_reducible exact spec_TracesClean.mono _ _ _)
   | (with_reducible exact LeO.refl _)
   | (with_reducible exact LeO.none _)
   | (with_reducible refine LeO.ite ?_ ?_)
   | (with_reducible refine LeO.bind ?_ (fun _ => ?_))
   | exact ih0 _ _ _ _ _ _ _
   | exact ih1 _ _ _ _ _ _ _
   | exact ih2 _ _ _ _ _ _ _ _
   | exact impl_TracesClean.mono _ _ _
   | exact impl_TracesOf.mono _ _
   | exact laws_sameUses.mono _ _ _
   | exact spec_DrawTracesClean.mono _ _
   | exact spec_TracesClean.mono _ _ _
   | exact LeO.none _
   | refine LeO.ite ?_ ?_
   | refine LeO.bind ?_ (fun _ => ?_)
theorem laws_FnTracesCleanFew.mono : ∀ a0 k, LeO (laws_FnTracesCleanFew.f k a0) (laws_FnTracesCleanFew.f (k + 1) a0) := by
 intro a0 k
 obtain ⟨ih0, ih1, ih2⟩ := laws_FnTracesCleanFew.mono_l k
 unfold laws_FnTracesCleanFew.f
 repeat' first
   | (with_reducible exact ih0 _ _ _ _ _ _ _)
   | (with_reducible exact ih1 _ _ _ _ _ _ _)
   | (with_reducible exact ih2 _ _ _ _ _ _ _ _)
   | (with_reducible exact impl_TracesClean.mono _ _ _)
   | (with_reducible exact impl_TracesOf.mono _ _)
   | (with_reducible exact laws_sameUses.mono _ _ _)
   | (with_reducible exact spec_DrawTracesClean.mono _ _)
   | (with_reducible exact spec_TracesClean.mono _ _ _)
   | (with_reducible exact LeO.refl _)
   | (with_reducible exact LeO.none _)
   | (with_reducible refine LeO.ite ?_ ?_)
   | (with_reducible refine LeO.bind ?_ (fun _ => ?_))
   | exact ih0 _ _ _ _ _ _ _
   | exact ih1 _ _ _ _ _ _ _
   | exact ih2 _ _ _ _ _ _ _ _
   | exact impl_TracesClean.mono _ _ _
   | exact impl_TracesOf.mono _ _
   | exact laws_sameUses.mono _ _ _
   | exact spec_DrawTracesClean.mono _ _
   | exact spec_TracesClean.mono _ _ _
   | exact LeO.none _
   | refine LeO.ite ?_ ?_
   | refine LeO.bind ?_ (fun _ => ?_)
set_option maxHeartbeats 8000000 in
set_option maxRecDepth 100000 in
theorem laws_FnTracesCleanFew.calls (k : Nat) (A0 : Option Addr) (c0 : Nat) (l0 : List Int) (r : Bool) (w : World) (hr0 : Kd.C (Kd.int .u8) w A0 l0.length l0) (hc0 : l0.length ≤ c0) (h : laws_FnTracesCleanFew.f k l0 = some r) :
  Calls Try.prog 11 #[.slice A0 l0.length c0] w fun e w' => e = .returned (.bool r) ∧ Below w.heap.size w w' := by
 have HR0 := Aside0.mk hr0
 have HC0 := Aside0.mk hc0
 clear hr0 hc0
 have HB := Aside0.mk (Below.refl w.heap.size w)
 have H : (if (l0.length : Int) > 1048576 then (some true) else ((spec_DrawTracesClean.f k l0).bind fun bt470 => ((impl_TracesClean.f k bt470.1 bt470.2).bind fun bt476 => ((spec_TracesClean.f k bt470.1 bt470.2).bind fun bt480 => (if (bt476.2 != bt480.2) = true then (laws_FnTracesCleanFew.j0 k bt470.1 bt470.2 bt476.1 bt476.2 bt480.1 bt480.2 true) else ((laws_sameUses.f k bt476.1 bt480.1).bind fun t484 => (if t484 = true then (laws_FnTracesCleanFew.j0 k bt470.1 bt470.2 bt476.1 bt476.2 bt480.1 bt480.2 (!bt476.2)) else (laws_FnTracesCleanFew.j0 k bt470.1 bt470.2 bt476.1 bt476.2 bt480.1 bt480.2 true)))))))) = some r := h
 clear h
 by_cases c2 : (l0.length : Int) > 1048576
 ·rw [if_pos c2] at H
  have c2b0 : decide (1048576 < (l0.length : Int)) = true := decide_eq_true c2
  have c2b1 : decide (1048576 < l0.length) = true := decide_eq_true (by omega)
  clear c2
  obtain rfl := Option.some.inj H
  go_enter Try.func11, Try.ntmps11
  go_wp2
  repeat (go_quiet (fail); try go_wp2)
  go_ret
  exact ⟨pE, pB⟩
 ·rw [if_neg c2] at H
  have c2b0 : decide (1048576 < (l0.length : Int)) = false := decide_eq_false c2
  have c2b1 : decide (1048576 < l0.length) = false := decide_eq_false (by omega)
  clear c2
  replace H := Option.bind_eq_some_iff.mp H
  obtain ⟨⟨t470, t471⟩, A30, H⟩ := H
  replace H : ((impl_TracesClean.f k t470 t471).bind fun bt476 => ((spec_TracesClean.f k t470 t471).bind fun bt480 => (if (bt476.2 != bt480.2) = true then (laws_FnTracesCleanFew.j0 k t470 t471 bt476.1 bt476.2 bt480.1 bt480.2 true) else ((laws_sameUses.f k bt476.1 bt480.1).bind fun t484 => (if t484 = true then (laws_FnTracesCleanFew.j0 k t470 t471 bt476.1 bt476.2 bt480.1 bt480.2 (!bt476.2)) else (laws_FnTracesCleanFew.j0 k t470 t471 bt476.1 bt476.2 bt480.1 bt480.2 true)))))) = some r := H
  have A3 := Aside0.mk A30
  clear A30
  replace H := Option.bind_eq_some_iff.mp H
  obtain ⟨⟨t476, t477⟩, A40, H⟩ := H
  replace H : ((spec_TracesClean.f k t470 t471).bind fun bt480 => (if (t477 != bt480.2) = true then (laws_FnTracesCleanFew.j0 k t470 t471 t476 t477 bt480.1 bt480.2 true) else ((laws_sameUses.f k t476 bt480.1).bind fun t484 => (if t484 = true then (laws_FnTracesCleanFew.j0 k t470 t471 t476 t477 bt480.1 bt480.2 (!t477)) else (laws_FnTracesCleanFew.j0 k t470 t471 t476 t477 bt480.1 bt480.2 true))))) = some r := H
  have A4 := Aside0.mk A40
  clear A40
  replace H := Option.bind_eq_some_iff.mp H
  obtain ⟨⟨t480, t481⟩, A50, H⟩ := H
  replace H : (if (t477 != t481) = true then (laws_FnTracesCleanFew.j0 k t470 t471 t476 t477 t480 t481 true) else ((laws_sameUses.f k t476 t480).bind fun t484 => (if t484 = true then (laws_FnTracesCleanFew.j0 k t470 t471 t476 t477 t480 t481 (!t477)) else (laws_FnTracesCleanFew.j0 k t470 t471 t476 t477 t480 t481 true)))) = some r := H
  have A5 := Aside0.mk A50
  clear A50
  have HC6 := Aside0.mk H
  clear H
  go_enter Try.func11, Try.ntmps11
  go_upto_region 6 with (first | (go_at_call 31; (with_reducible refine (spec_DrawTracesClean.calls k _ _ l0 t470 t471 _ ?side1 ?side2 A3.out).mono ?_); (case side1 => exact pS (HR0.out)); (case side2 => exact HC0.out); rintro e w7 ⟨v472, v474, rfl, ho0, ho1, hb⟩; have n0_ := Aside0.mk (Kd.R_lower ho0 (below_size pB)); have n1_ := Aside0.mk (Kd.Q_lower ho1 (below_size pB)); have n2_ := Aside0.mk (below_step pB hb); clear HB; have HO473 := n0_; have HO475 := n1_; have HB := n2_; clear n0_ n1_ n2_; (try clear hb); (try clear hb2); (try clear hk); (try clear hi); (try clear ho0); (try clear ho1); obtain ⟨Ao8, co8, eo8⟩ := Kd.R_slice HO473.out; subst eo8; obtain ⟨Ao9, co9, eo9, _⟩ := Kd.Q_slice HO475.out; subst eo9) | (go_at_call 32; (with_reducible refine (impl_TracesClean.calls k _ _ t470 _ _ t471 t476 t477 _ ?side1 ?side2 ?side3 ?side4 A4.out).mono ?_); (case side1 => exact pS ((Kd.R_reads' HO473.out).2.2)); (case side2 => exact (Kd.R_reads' HO473.out).2.1); (case side3 => exact pS ((Kd.Q_reads' HO475.out).2.2)); (case side4 => exact (Kd.Q_reads' HO475.out).2.1); rintro e w10 ⟨v478, rfl, ho0, hb⟩; have n0_ := Aside0.mk (Kd.R_elder' (pR HO473) (Kd.R_base ho0) hb); have n1_ := Aside0.mk (Kd.Q_below (by (with_reducible repeat (first | apply Kd.Q_alloc | apply Kd.Q_drewN | apply Kd.Q_drew)); exact HO475.out) hb); have n2_ := Aside0.mk (Kd.R_lower (Kd.R_new' ho0 (Kd.R_lt (pR HO473))) (below_size pB)); have n3_ := Aside0.mk (below_step pB hb); clear HO473; clear HO475; clear HB; have HO473 := n0_; have HO475 := n1_; have HO479 := n2_; have HB := n3_; clear n0_ n1_ n2_ n3_; (try clear hb); (try clear hb2); (try clear hk); (try clear hi); (try clear ho0)) | (go_at_call 33; (with_reducible refine (spec_TracesClean.calls k _ _ t470 _ _ t471 t480 t481 _ ?side1 ?side2 ?side3 ?side4 A5.out).mono ?_); (case side1 => exact pS ((Kd.R_reads' HO473.out).2.2)); (case side2 => exact (Kd.R_reads' HO473.out).2.1); (case side3 => exact pS ((Kd.Q_reads' HO475.out).2.2)); (case side4 => exact (Kd.Q_reads' HO475.out).2.1); rintro e w11 ⟨v482, rfl, ho0, hb⟩; have n0_ := Aside0.mk (Kd.R_elder' (pR HO473) (Kd.R_base ho0) hb); have n1_ := Aside0.mk (Kd.Q_below (by (with_reducible repeat (first | apply Kd.Q_alloc | apply Kd.Q_drewN | apply Kd.Q_drew)); exact HO475.out) hb); have n2_ := Aside0.mk (Kd.R_elder' (pR HO479) (Kd.R_base ho0) hb); have n3_ := Aside0.mk (Kd.R_lower (Kd.R_new' (Kd.R_new' ho0 (Kd.R_lt (pR HO473))) (Kd.R_lt (pR HO479))) (below_size pB)); have n4_ := Aside0.mk (below_step pB hb); clear HO473; clear HO475; clear HO479; clear HB; have HO473 := n0_; have HO475 := n1_; have HO479 := n2_; have HO483 := n3_; have HB := n4_; clear n0_ n1_ n2_ n3_ n4_; (try clear hb); (try clear hb2); (try clear hk); (try clear hi); (try clear ho0)))
  repeat (go_quiet (first | (go_at_call 31; (with_reducible refine (spec_DrawTracesClean.calls k _ _ l0 t470 t471 _ ?side1 ?side2 A3.out).mono ?_); (case side1 => exact pS (HR0.out)); (case side2 => exact HC0.out); rintro e w7 ⟨v472, v474, rfl, ho0, ho1, hb⟩; have n0_ := Aside0.mk (Kd.R_lower ho0 (below_size pB)); have n1_ := Aside0.mk (Kd.Q_lower ho1 (below_size pB)); have n2_ := Aside0.mk (below_step pB hb); clear HB; have HO473 := n0_; have HO475 := n1_; have HB := n2_; clear n0_ n1_ n2_; (try clear hb); (try clear hb2); (try clear hk); (try clear hi); (try clear ho0); (try clear ho1); obtain ⟨Ao8, co8, eo8⟩ := Kd.R_slice HO473.out; subst eo8; obtain ⟨Ao9, co9, eo9, _⟩ := Kd.Q_slice HO475.out; subst eo9) | (go_at_call 32; (with_reducible refine (impl_TracesClean.calls k _ _ t470 _ _ t471 t476 t477 _ ?side1 ?side2 ?side3 ?side4 A4.out).mono ?_); (case side1 => exact pS ((Kd.R_reads' HO473.out).2.2)); (case side2 => exact (Kd.R_reads' HO473.out).2.1); (case side3 => exact pS ((Kd.Q_reads' HO475.out).2.2)); (case side4 => exact (Kd.Q_reads' HO475.out).2.1); rintro e w10 ⟨v478, rfl, ho0, hb⟩; have n0_ := Aside0.mk (Kd.R_elder' (pR HO473) (Kd.R_base ho0) hb); have n1_ := Aside0.mk (Kd.Q_below (by (with_reducible repeat (first | apply Kd.Q_alloc | apply Kd.Q_drewN | apply Kd.Q_drew)); exact HO475.out) hb); have n2_ := Aside0.mk (Kd.R_lower (Kd.R_new' ho0 (Kd.R_lt (pR HO473))) (below_size pB)); have n3_ := Aside0.mk (below_step pB hb); clear HO473; clear HO475; clear HB; have HO473 := n0_; have HO475 := n1_; have HO479 := n2_; have HB := n3_; clear n0_ n1_ n2_ n3_; (try clear hb); (try clear hb2); (try clear hk); (try clear hi); (try clear ho0)) | (go_at_call 33; (with_reducible refine (spec_TracesClean.calls k _ _ t470 _ _ t471 t480 t481 _ ?side1 ?side2 ?side3 ?side4 A5.out).mono ?_); (case side1 => exact pS ((Kd.R_reads' HO473.out).2.2)); (case side2 => exact (Kd.R_reads' HO473.out).2.1); (case side3 => exact pS ((Kd.Q_reads' HO475.out).2.2)); (case side4 => exact (Kd.Q_reads' HO475.out).2.1); rintro e w11 ⟨v482, rfl, ho0, hb⟩; have n0_ := Aside0.mk (Kd.R_elder' (pR HO473) (Kd.R_base ho0) hb); have n1_ := Aside0.mk (Kd.Q_below (by (with_reducible repeat (first | apply Kd.Q_alloc | apply Kd.Q_drewN | apply Kd.Q_drew)); exact HO475.out) hb); have n2_ := Aside0.mk (Kd.R_elder' (pR HO479) (Kd.R_base ho0) hb); have n3_ := Aside0.mk (Kd.R_lower (Kd.R_new' (Kd.R_new' ho0 (Kd.R_lt (pR HO473))) (Kd.R_lt (pR HO479))) (below_size pB)); have n4_ := Aside0.mk (below_step pB hb); clear HO473; clear HO475; clear HO479; clear HB; have HO473 := n0_; have HO475 := n1_; have HO479 := n2_; have HO483 := n3_; have HB := n4_; clear n0_ n1_ n2_ n3_ n4_; (try clear hb); (try clear hb2); (try clear hk); (try clear hi); (try clear ho0))); go_upto_region 6 with (first | (go_at_call 31; (with_reducible refine (spec_DrawTracesClean.calls k _ _ l0 t470 t471 _ ?side1 ?side2 A3.out).mono ?_); (case side1 => exact pS (HR0.out)); (case side2 => exact HC0.out); rintro e w7 ⟨v472, v474, rfl, ho0, ho1, hb⟩; have n0_ := Aside0.mk (Kd.R_lower ho0 (below_size pB)); have n1_ := Aside0.mk (Kd.Q_lower ho1 (below_size pB)); have n2_ := Aside0.mk (below_step pB hb); clear HB; have HO473 := n0_; have HO475 := n1_; have HB := n2_; clear n0_ n1_ n2_; (try clear hb); (try clear hb2); (try clear hk); (try clear hi); (try clear ho0); (try clear ho1); obtain ⟨Ao8, co8, eo8⟩ := Kd.R_slice HO473.out; subst eo8; obtain ⟨Ao9, co9, eo9, _⟩ := Kd.Q_slice HO475.out; subst eo9) | (go_at_call 32; (with_reducible refine (impl_TracesClean.calls k _ _ t470 _ _ t471 t476 t477 _ ?side1 ?side2 ?side3 ?side4 A4.out).mono ?_); (case side1 => exact pS ((Kd.R_reads' HO473.out).2.2)); (case side2 => exact (Kd.R_reads' HO473.out).2.1); (case side3 => exact pS ((Kd.Q_reads' HO475.out).2.2)); (case side4 => exact (Kd.Q_reads' HO475.out).2.1); rintro e w10 ⟨v478, rfl, ho0, hb⟩; have n0_ := Aside0.mk (Kd.R_elder' (pR HO473) (Kd.R_base ho0) hb); have n1_ := Aside0.mk (Kd.Q_below (by (with_reducible repeat (first | apply Kd.Q_alloc | apply Kd.Q_drewN | apply Kd.Q_drew)); exact HO475.out) hb); have n2_ := Aside0.mk (Kd.R_lower (Kd.R_new' ho0 (Kd.R_lt (pR HO473))) (below_size pB)); have n3_ := Aside0.mk (below_step pB hb); clear HO473; clear HO475; clear HB; have HO473 := n0_; have HO475 := n1_; have HO479 := n2_; have HB := n3_; clear n0_ n1_ n2_ n3_; (try clear hb); (try clear hb2); (try clear hk); (try clear hi); (try clear ho0)) | (go_at_call 33; (with_reducible refine (spec_TracesClean.calls k _ _ t470 _ _ t471 t480 t481 _ ?side1 ?side2 ?side3 ?side4 A5.out).mono ?_); (case side1 => exact pS ((Kd.R_reads' HO473.out).2.2)); (case side2 => exact (Kd.R_reads' HO473.out).2.1); (case side3 => exact pS ((Kd.Q_reads' HO475.out).2.2)); (case side4 => exact (Kd.Q_reads' HO475.out).2.1); rintro e w11 ⟨v482, rfl, ho0, hb⟩; have n0_ := Aside0.mk (Kd.R_elder' (pR HO473) (Kd.R_base ho0) hb); have n1_ := Aside0.mk (Kd.Q_below (by (with_reducible repeat (first | apply Kd.Q_alloc | apply Kd.Q_drewN | apply Kd.Q_drew)); exact HO475.out) hb); have n2_ := Aside0.mk (Kd.R_elder' (pR HO479) (Kd.R_base ho0) hb); have n3_ := Aside0.mk (Kd.R_lower (Kd.R_new' (Kd.R_new' ho0 (Kd.R_lt (pR HO473))) (Kd.R_lt (pR HO479))) (below_size pB)); have n4_ := Aside0.mk (below_step pB hb); clear HO473; clear HO475; clear HO479; clear HB; have HO473 := n0_; have HO475 := n1_; have HO479 := n2_; have HO483 := n3_; have HB := n4_; clear n0_ n1_ n2_ n3_ n4_; (try clear hb); (try clear hb2); (try clear hk); (try clear hi); (try clear ho0))))
  (try simp only [Act.put, List.setIfInBounds_toArray, List.set_cons_zero, List.set_cons_succ])
  go_cut [45] (fun v45 wc => ∃ (kq : Nat) (x45_5 : Bool), v45 = .bool x45_5 ∧ Aside0 (laws_FnTracesCleanFew.j0 kq t470 t471 t476 t477 t480 t481 x45_5 = some r) ∧ Aside0 (kq ≤ k) ∧ Aside0 (Kd.R k40 40 wc w.heap.size (fun k_ => some k_ ≠ (v478 : Value).ownBlock ∧ some k_ ≠ (v482 : Value).ownBlock) (.slice Ao8 t470.length co8) t470) ∧ Aside0 (Kd.Q (Kd.int .i64) 3 wc w.heap.size (fun _ => True) (.slice Ao9 t471.length co9) t471) ∧ Aside0 (Kd.R k40 40 wc w.heap.size (fun k_ => some k_ ≠ ((.slice Ao8 t470.length co8) : Value).ownBlock ∧ some k_ ≠ (v482 : Value).ownBlock) v478 t476) ∧ Aside0 (Kd.R k40 40 wc w.heap.size (fun k_ => some k_ ≠ ((.slice Ao8 t470.length co8) : Value).ownBlock ∧ some k_ ≠ (v478 : Value).ownBlock) v482 t480) ∧ Aside0 (Below w.heap.size w wc))
  case first =>
   have H := HC6.out
   clear HC6
   by_cases c12 : (t477 != t481) = true
   ·rw [if_pos c12] at H
    have c12b0 : (t477 != t481) = true := c12
    (try (have c12b1 : decide (t477 = t481) = false := by simpa using c12))
    (try (have c12b2 : (t477 == t481) = false := by simpa using c12))
    (try (have c12b3 : ¬ (t477 = t481) := by simpa using c12))
    clear c12
    (first | rw [c12b0] | (simp only [i64_w, i32_w]; rw [c12b0]) | skip)
    have H' := Aside0.mk H
    clear H
    go_wp2
    repeat (go_quiet (fail); try go_wp2)
    go_meet
    case rel => exact ⟨_, (true), pF, H', ⟨by first | omega | exact Nat.le_refl _⟩, ⟨by (with_reducible repeat (first | apply Kd.R_alloc | apply Kd.R_drewN | apply Kd.R_drew)); exact Kd.R_mono HO473.out (fun _ hk => ⟨hk.1.2, hk.2⟩)⟩, ⟨by (with_reducible repeat (first | apply Kd.Q_alloc | apply Kd.Q_drewN | apply Kd.Q_drew)); exact HO475.out⟩, ⟨by (with_reducible repeat (first | apply Kd.R_alloc | apply Kd.R_drewN | apply Kd.R_drew)); exact Kd.R_mono HO479.out (fun _ hk => ⟨hk.1.2, hk.2⟩)⟩, ⟨by (with_reducible repeat (first | apply Kd.R_alloc | apply Kd.R_drewN | apply Kd.R_drew)); exact Kd.R_mono HO483.out (fun _ hk => ⟨hk.1.2, hk.2⟩)⟩, ⟨pB⟩⟩
   ·rw [if_neg c12] at H
    have c12b0 : (t477 != t481) = false := by simpa using c12
    (try (have c12b1 : decide (t477 = t481) = true := by simpa using c12))
    (try (have c12b2 : (t477 == t481) = true := by simpa using c12))
    clear c12
    (first | rw [c12b0] | (simp only [i64_w, i32_w]; rw [c12b0]) | skip)
    replace H := Option.bind_eq_some_iff.mp H
    obtain ⟨t484, A130, H⟩ := H
    replace H : (if t484 = true then (laws_FnTracesCleanFew.j0 k t470 t471 t476 t477 t480 t481 (!t477)) else (laws_FnTracesCleanFew.j0 k t470 t471 t476 t477 t480 t481 true)) = some r := H
    have A13 := Aside0.mk A130
    clear A130
    by_cases c14 : t484 = true
    ·subst c14
     have H1 : (laws_FnTracesCleanFew.j0 k t470 t471 t476 t477 t480 t481 (!t477)) = some r := by rw [if_pos rfl] at H; exact H
     clear H
     have H := H1
     clear H1
     have H' := Aside0.mk H
     clear H
     obtain ⟨Ao15, co15, eo15⟩ := Kd.R_slice HO479.out
     subst eo15
     obtain ⟨Ao16, co16, eo16⟩ := Kd.R_slice HO483.out
     subst eo16
     go_wp2_with (first | (go_at_call 34; (with_reducible refine (laws_sameUses.calls k _ _ t476 _ _ t480 true _ ?side1 ?side2 ?side3 ?side4 A13.out).mono ?_); (case side1 => exact pS ((Kd.R_reads' HO479.out).2.2)); (case side2 => exact (Kd.R_reads' HO479.out).2.1); (case side3 => exact pS ((Kd.R_reads' HO483.out).2.2)); (case side4 => exact (Kd.R_reads' HO483.out).2.1); rintro e w' ⟨rfl, ⟨nd, rfl⟩⟩; (try first | exact ⟨rfl, _, World.drewN_drewN _ _ _⟩ | exact ⟨rfl, _, Eq.trans (World.drewN_drewN _ _ _) (congrArg (World.drewN _) (Nat.add_assoc _ _ _))⟩)))
     repeat (go_quiet (first | (go_at_call 34; (with_reducible refine (laws_sameUses.calls k _ _ t476 _ _ t480 true _ ?side1 ?side2 ?side3 ?side4 A13.out).mono ?_); (case side1 => exact pS ((Kd.R_reads' HO479.out).2.2)); (case side2 => exact (Kd.R_reads' HO479.out).2.1); (case side3 => exact pS ((Kd.R_reads' HO483.out).2.2)); (case side4 => exact (Kd.R_reads' HO483.out).2.1); rintro e w' ⟨rfl, ⟨nd, rfl⟩⟩; (try first | exact ⟨rfl, _, World.drewN_drewN _ _ _⟩ | exact ⟨rfl, _, Eq.trans (World.drewN_drewN _ _ _) (congrArg (World.drewN _) (Nat.add_assoc _ _ _))⟩))); try go_wp2_with (first | (go_at_call 34; (with_reducible refine (laws_sameUses.calls k _ _ t476 _ _ t480 true _ ?side1 ?side2 ?side3 ?side4 A13.out).mono ?_); (case side1 => exact pS ((Kd.R_reads' HO479.out).2.2)); (case side2 => exact (Kd.R_reads' HO479.out).2.1); (case side3 => exact pS ((Kd.R_reads' HO483.out).2.2)); (case side4 => exact (Kd.R_reads' HO483.out).2.1); rintro e w' ⟨rfl, ⟨nd, rfl⟩⟩; (try first | exact ⟨rfl, _, World.drewN_drewN _ _ _⟩ | exact ⟨rfl, _, Eq.trans (World.drewN_drewN _ _ _) (congrArg (World.drewN _) (Nat.add_assoc _ _ _))⟩))))
     go_meet
     case rel => exact ⟨_, (!t477), pF, H', ⟨by first | omega | exact Nat.le_refl _⟩, ⟨by (with_reducible repeat (first | apply Kd.R_alloc | apply Kd.R_drewN | apply Kd.R_drew)); exact Kd.R_mono HO473.out (fun _ hk => ⟨hk.1.2, hk.2⟩)⟩, ⟨by (with_reducible repeat (first | apply Kd.Q_alloc | apply Kd.Q_drewN | apply Kd.Q_drew)); exact HO475.out⟩, ⟨by (with_reducible repeat (first | apply Kd.R_alloc | apply Kd.R_drewN | apply Kd.R_drew)); exact Kd.R_mono HO479.out (fun _ hk => ⟨hk.1.2, hk.2⟩)⟩, ⟨by (with_reducible repeat (first | apply Kd.R_alloc | apply Kd.R_drewN | apply Kd.R_drew)); exact Kd.R_mono HO483.out (fun _ hk => ⟨hk.1.2, hk.2⟩)⟩, ⟨pB⟩⟩
    ·replace c14 := Bool.eq_false_iff.mpr c14
     subst c14
     have H1 : (laws_FnTracesCleanFew.j0 k t470 t471 t476 t477 t480 t481 true) = some r := by rw [if_neg (show ¬ (false = true) by decide)] at H; exact H
     clear H
     have H := H1
     clear H1
     have H' := Aside0.mk H
     clear H
     obtain ⟨Ao17, co17, eo17⟩ := Kd.R_slice HO479.out
     subst eo17
     obtain ⟨Ao18, co18, eo18⟩ := Kd.R_slice HO483.out
     subst eo18
     go_wp2_with (first | (go_at_call 34; (with_reducible refine (laws_sameUses.calls k _ _ t476 _ _ t480 false _ ?side1 ?side2 ?side3 ?side4 A13.out).mono ?_); (case side1 => exact pS ((Kd.R_reads' HO479.out).2.2)); (case side2 => exact (Kd.R_reads' HO479.out).2.1); (case side3 => exact pS ((Kd.R_reads' HO483.out).2.2)); (case side4 => exact (Kd.R_reads' HO483.out).2.1); rintro e w' ⟨rfl, ⟨nd, rfl⟩⟩; (try first | exact ⟨rfl, _, World.drewN_drewN _ _ _⟩ | exact ⟨rfl, _, Eq.trans (World.drewN_drewN _ _ _) (congrArg (World.drewN _) (Nat.add_assoc _ _ _))⟩)))
     repeat (go_quiet (first | (go_at_call 34; (with_reducible refine (laws_sameUses.calls k _ _ t476 _ _ t480 false _ ?side1 ?side2 ?side3 ?side4 A13.out).mono ?_); (case side1 => exact pS ((Kd.R_reads' HO479.out).2.2)); (case side2 => exact (Kd.R_reads' HO479.out).2.1); (case side3 => exact pS ((Kd.R_reads' HO483.out).2.2)); (case side4 => exact (Kd.R_reads' HO483.out).2.1); rintro e w' ⟨rfl, ⟨nd, rfl⟩⟩; (try first | exact ⟨rfl, _, World.drewN_drewN _ _ _⟩ | exact ⟨rfl, _, Eq.trans (World.drewN_drewN _ _ _) (congrArg (World.drewN _) (Nat.add_assoc _ _ _))⟩))); try go_wp2_with (first | (go_at_call 34; (with_reducible refine (laws_sameUses.calls k _ _ t476 _ _ t480 false _ ?side1 ?side2 ?side3 ?side4 A13.out).mono ?_); (case side1 => exact pS ((Kd.R_reads' HO479.out).2.2)); (case side2 => exact (Kd.R_reads' HO479.out).2.1); (case side3 => exact pS ((Kd.R_reads' HO483.out).2.2)); (case side4 => exact (Kd.R_reads' HO483.out).2.1); rintro e w' ⟨rfl, ⟨nd, rfl⟩⟩; (try first | exact ⟨rfl, _, World.drewN_drewN _ _ _⟩ | exact ⟨rfl, _, Eq.trans (World.drewN_drewN _ _ _) (congrArg (World.drewN _) (Nat.add_assoc _ _ _))⟩))))
     go_meet
     case rel => exact ⟨_, (true), pF, H', ⟨by first | omega | exact Nat.le_refl _⟩, ⟨by (with_reducible repeat (first | apply Kd.R_alloc | apply Kd.R_drewN | apply Kd.R_drew)); exact Kd.R_mono HO473.out (fun _ hk => ⟨hk.1.2, hk.2⟩)⟩, ⟨by (with_reducible repeat (first | apply Kd.Q_alloc | apply Kd.Q_drewN | apply Kd.Q_drew)); exact HO475.out⟩, ⟨by (with_reducible repeat (first | apply Kd.R_alloc | apply Kd.R_drewN | apply Kd.R_drew)); exact Kd.R_mono HO479.out (fun _ hk => ⟨hk.1.2, hk.2⟩)⟩, ⟨by (with_reducible repeat (first | apply Kd.R_alloc | apply Kd.R_drewN | apply Kd.R_drew)); exact Kd.R_mono HO483.out (fun _ hk => ⟨hk.1.2, hk.2⟩)⟩, ⟨pB⟩⟩
  case rest =>
   clear HC6
   try clear c1
   try clear c2
   try clear c2b0
   try clear c2b1
   try clear p2
   try clear c11
   try clear c12
   try clear c12b0
   try clear c12b1
   try clear c12b2
   try clear c14
   obtain ⟨kq, x45_5, rfl, HA, HJ5, HO_3, HO_4, HO_5, HO_7, HB⟩ := hcut
   cases kq with
   | zero => exact absurd HA.out (by simp [laws_FnTracesCleanFew.j0])
   | succ kj5 =>
    have H := HA.out
    clear HA
    simp only [laws_FnTracesCleanFew.j0] at H
    by_cases c19 : x45_5 = true
    ·subst c19
     have H1 : (if (t477 == t481) = true then ((laws_sameUses.f kj5 t476 t480).bind fun t485 => (some t485)) else (some false)) = some r := by rw [if_pos rfl] at H; exact H
     clear H
     have H := H1
     clear H1
     by_cases c20 : (t477 == t481) = true
     ·rw [if_pos c20] at H
      have c20b0 : (t477 == t481) = true := c20
      (try (have c20b1 : decide (t477 = t481) = true := by simpa using c20))
      (try (have c20b2 : (t477 == t481) = true := by simpa using c20))
      clear c20
      replace H := Option.bind_eq_some_iff.mp H
      obtain ⟨t485, A210, H⟩ := H
      replace H : (some t485) = some r := H
      have A21 := Aside0.mk A210
      clear A210
      obtain rfl := Option.some.inj H
      obtain ⟨Ao22, co22, eo22⟩ := Kd.R_slice HO_5.out
      subst eo22
      obtain ⟨Ao23, co23, eo23⟩ := Kd.R_slice HO_7.out
      subst eo23
      go_wp2_with (first | (go_at_call 34; (with_reducible refine (laws_sameUses.calls kj5 _ _ t476 _ _ t480 t485 _ ?side1 ?side2 ?side3 ?side4 A21.out).mono ?_); (case side1 => exact pS ((Kd.R_reads' HO_5.out).2.2)); (case side2 => exact (Kd.R_reads' HO_5.out).2.1); (case side3 => exact pS ((Kd.R_reads' HO_7.out).2.2)); (case side4 => exact (Kd.R_reads' HO_7.out).2.1); rintro e w' ⟨rfl, ⟨nd, rfl⟩⟩; (try first | exact ⟨rfl, _, World.drewN_drewN _ _ _⟩ | exact ⟨rfl, _, Eq.trans (World.drewN_drewN _ _ _) (congrArg (World.drewN _) (Nat.add_assoc _ _ _))⟩)))
      repeat (go_quiet (first | (go_at_call 34; (with_reducible refine (laws_sameUses.calls kj5 _ _ t476 _ _ t480 t485 _ ?side1 ?side2 ?side3 ?side4 A21.out).mono ?_); (case side1 => exact pS ((Kd.R_reads' HO_5.out).2.2)); (case side2 => exact (Kd.R_reads' HO_5.out).2.1); (case side3 => exact pS ((Kd.R_reads' HO_7.out).2.2)); (case side4 => exact (Kd.R_reads' HO_7.out).2.1); rintro e w' ⟨rfl, ⟨nd, rfl⟩⟩; (try first | exact ⟨rfl, _, World.drewN_drewN _ _ _⟩ | exact ⟨rfl, _, Eq.trans (World.drewN_drewN _ _ _) (congrArg (World.drewN _) (Nat.add_assoc _ _ _))⟩))); try go_wp2_with (first | (go_at_call 34; (with_reducible refine (laws_sameUses.calls kj5 _ _ t476 _ _ t480 t485 _ ?side1 ?side2 ?side3 ?side4 A21.out).mono ?_); (case side1 => exact pS ((Kd.R_reads' HO_5.out).2.2)); (case side2 => exact (Kd.R_reads' HO_5.out).2.1); (case side3 => exact pS ((Kd.R_reads' HO_7.out).2.2)); (case side4 => exact (Kd.R_reads' HO_7.out).2.1); rintro e w' ⟨rfl, ⟨nd, rfl⟩⟩; (try first | exact ⟨rfl, _, World.drewN_drewN _ _ _⟩ | exact ⟨rfl, _, Eq.trans (World.drewN_drewN _ _ _) (congrArg (World.drewN _) (Nat.add_assoc _ _ _))⟩))))
      go_ret
      exact ⟨pE, pB⟩
     ·rw [if_neg c20] at H
      have c20b0 : (t477 == t481) = false := by simpa using c20
      (try (have c20b1 : decide (t477 = t481) = false := by simpa using c20))
      (try (have c20b2 : (t477 == t481) = false := by simpa using c20))
      (try (have c20b3 : ¬ (t477 = t481) := by simpa using c20))
      clear c20
      obtain rfl := Option.some.inj H
      go_wp2
      repeat (go_quiet (fail); try go_wp2)
      go_ret
      exact ⟨pE, pB⟩
    ·replace c19 := Bool.eq_false_iff.mpr c19
     subst c19
     have H1 : ((impl_TracesOf.f kj5 t470).bind fun t486 => (laws_FnTracesCleanFew.l0 kj5 t470 t471 t476 t486 0 0 0)) = some r := by rw [if_neg (show ¬ (false = true) by decide)] at H; exact H
     clear H
     have H := H1
     clear H1
     replace H := Option.bind_eq_some_iff.mp H
     obtain ⟨t486, A240, H⟩ := H
     replace H : (laws_FnTracesCleanFew.l0 kj5 t470 t471 t476 t486 0 0 0) = some r := H
     have A24 := Aside0.mk A240
     clear A240
     have H' := Aside0.mk H
     clear H
     go_wp2_with (first | (go_at_call 22; (with_reducible refine (impl_TracesOf.calls kj5 _ _ t470 t486 _ ?side1 ?side2 A24.out).mono ?_); (case side1 => exact pS ((Kd.R_reads' HO_3.out).2.2)); (case side2 => exact (Kd.R_reads' HO_3.out).2.1); rintro e w25 ⟨v487, rfl, ho0, hb⟩; have n0_ := Aside0.mk (Kd.R_below (pR HO_3) hb); have n1_ := Aside0.mk (Kd.Q_elder' (by (with_reducible repeat (first | apply Kd.Q_alloc | apply Kd.Q_drewN | apply Kd.Q_drew)); exact HO_4.out) (Kd.R_base ho0) hb); have n2_ := Aside0.mk (Kd.R_below (pR HO_5) hb); have n3_ := Aside0.mk (Kd.R_below (pR HO_7) hb); have n4_ := Aside0.mk (Kd.R_lower (Kd.R_new' ho0 (Kd.Q_lt (by (with_reducible repeat (first | apply Kd.Q_alloc | apply Kd.Q_drewN | apply Kd.Q_drew)); exact HO_4.out))) (below_size pB)); have n5_ := Aside0.mk (below_step pB hb); clear HO_3; clear HO_4; clear HO_5; clear HO_7; clear HB; have HO_3 := n0_; have HO_4 := n1_; have HO_5 := n2_; have HO_7 := n3_; have HO488 := n4_; have HB := n5_; clear n0_ n1_ n2_ n3_ n4_ n5_; (try clear hb); (try clear hb2); (try clear hk); (try clear hi); (try clear ho0)))
     repeat (go_quiet (first | (go_at_call 22; (with_reducible refine (impl_TracesOf.calls kj5 _ _ t470 t486 _ ?side1 ?side2 A24.out).mono ?_); (case side1 => exact pS ((Kd.R_reads' HO_3.out).2.2)); (case side2 => exact (Kd.R_reads' HO_3.out).2.1); rintro e w25 ⟨v487, rfl, ho0, hb⟩; have n0_ := Aside0.mk (Kd.R_below (pR HO_3) hb); have n1_ := Aside0.mk (Kd.Q_elder' (by (with_reducible repeat (first | apply Kd.Q_alloc | apply Kd.Q_drewN | apply Kd.Q_drew)); exact HO_4.out) (Kd.R_base ho0) hb); have n2_ := Aside0.mk (Kd.R_below (pR HO_5) hb); have n3_ := Aside0.mk (Kd.R_below (pR HO_7) hb); have n4_ := Aside0.mk (Kd.R_lower (Kd.R_new' ho0 (Kd.Q_lt (by (with_reducible repeat (first | apply Kd.Q_alloc | apply Kd.Q_drewN | apply Kd.Q_drew)); exact HO_4.out))) (below_size pB)); have n5_ := Aside0.mk (below_step pB hb); clear HO_3; clear HO_4; clear HO_5; clear HO_7; clear HB; have HO_3 := n0_; have HO_4 := n1_; have HO_5 := n2_; have HO_7 := n3_; have HO488 := n4_; have HB := n5_; clear n0_ n1_ n2_ n3_ n4_ n5_; (try clear hb); (try clear hb2); (try clear hk); (try clear hi); (try clear ho0))); try go_wp2_with (first | (go_at_call 22; (with_reducible refine (impl_TracesOf.calls kj5 _ _ t470 t486 _ ?side1 ?side2 A24.out).mono ?_); (case side1 => exact pS ((Kd.R_reads' HO_3.out).2.2)); (case side2 => exact (Kd.R_reads' HO_3.out).2.1); rintro e w25 ⟨v487, rfl, ho0, hb⟩; have n0_ := Aside0.mk (Kd.R_below (pR HO_3) hb); have n1_ := Aside0.mk (Kd.Q_elder' (by (with_reducible repeat (first | apply Kd.Q_alloc | apply Kd.Q_drewN | apply Kd.Q_drew)); exact HO_4.out) (Kd.R_base ho0) hb); have n2_ := Aside0.mk (Kd.R_below (pR HO_5) hb); have n3_ := Aside0.mk (Kd.R_below (pR HO_7) hb); have n4_ := Aside0.mk (Kd.R_lower (Kd.R_new' ho0 (Kd.Q_lt (by (with_reducible repeat (first | apply Kd.Q_alloc | apply Kd.Q_drewN | apply Kd.Q_drew)); exact HO_4.out))) (below_size pB)); have n5_ := Aside0.mk (below_step pB hb); clear HO_3; clear HO_4; clear HO_5; clear HO_7; clear HB; have HO_3 := n0_; have HO_4 := n1_; have HO_5 := n2_; have HO_7 := n3_; have HO488 := n4_; have HB := n5_; clear n0_ n1_ n2_ n3_ n4_ n5_; (try clear hb); (try clear hb2); (try clear hk); (try clear hi); (try clear ho0))))
     go_loopg [10, 11, 12] kj5 (fun kq v10 v11 v12 w' => ∃ (x10_2 : Int) (x11_2 : Int) (x12_2 : Int), v10 = .int .i64 x10_2 ∧ v11 = .int .i64 x11_2 ∧ v12 = .int .i64 x12_2 ∧ Aside0 (laws_FnTracesCleanFew.l0 kq t470 t471 t476 t486 x10_2 x11_2 x12_2 = some r) ∧ Aside0 (kq ≤ kj5) ∧ Aside0 (Kd.R k40 40 w' w.heap.size (fun k_ => some k_ ≠ (v478 : Value).ownBlock) (.slice Ao8 t470.length co8) t470) ∧ Aside0 (Kd.Q (Kd.int .i64) 3 w' w.heap.size (fun k_ => some k_ ≠ (v487 : Value).ownBlock) (.slice Ao9 t471.length co9) t471) ∧ Aside0 (Kd.R k40 40 w' w.heap.size (fun k_ => some k_ ≠ ((.slice Ao8 t470.length co8) : Value).ownBlock) v478 t476) ∧ Aside0 (Kd.R (Kd.int .i64) 3 w' w.heap.size (fun k_ => some k_ ≠ ((.slice Ao9 t471.length co9) : Value).ownBlock) v487 t486) ∧ Aside0 (Below w.heap.size w w'))
     case atStart => exact ⟨(0), (0), (0), pF, pF, pF, H', ⟨Nat.le_refl _⟩, ⟨by (with_reducible repeat (first | apply Kd.R_alloc | apply Kd.R_drewN | apply Kd.R_drew)); exact Kd.R_mono HO_3.out (fun _ hk => hk.1)⟩, ⟨by (with_reducible repeat (first | apply Kd.Q_alloc | apply Kd.Q_drewN | apply Kd.Q_drew)); exact Kd.Q_mono HO_4.out (fun _ hk => hk.2)⟩, ⟨by (with_reducible repeat (first | apply Kd.R_alloc | apply Kd.R_drewN | apply Kd.R_drew)); exact Kd.R_mono HO_5.out (fun _ hk => hk.1)⟩, ⟨by (with_reducible repeat (first | apply Kd.R_alloc | apply Kd.R_drewN | apply Kd.R_drew)); exact Kd.R_mono HO488.out (fun _ hk => hk.2)⟩, ⟨pB⟩⟩
     case round =>
      clear H'
      try clear c1
      try clear c2
      try clear c2b0
      try clear c2b1
      try clear p2
      try clear c11
      try clear c12
      try clear c12b0
      try clear c12b1
      try clear c12b2
      try clear c14
      try clear c19
      try clear c20
      try clear c20b0
      try clear c20b1
      try clear c20b2
      try clear p2
      obtain ⟨x10_2, x11_2, x12_2, rfl, rfl, rfl, HA, HK2, HO_3, HO_4, HO_5, HO_9, HB⟩ := hrel
      cases gk with
      | zero => exact absurd HA.out (by simp [laws_FnTracesCleanFew.l0])
      | succ k2 =>
       have H := HA.out
       clear HA
       simp only [laws_FnTracesCleanFew.l0] at H
       have HC26 := Aside0.mk H
       clear H
       go_upto_region 12 with (fail)
       repeat (go_quiet (fail); go_upto_region 12 with (fail))
       go_cut [65] (fun v65 wc => ∃ (kq : Nat) (x65_25 : Bool), v65 = .bool x65_25 ∧ Aside0 (laws_FnTracesCleanFew.j2 kq t470 t471 t476 t486 x10_2 x11_2 x12_2 x65_25 = some r) ∧ Aside0 (kq ≤ k2) ∧ Aside0 (Kd.R k40 40 wc w.heap.size (fun k_ => some k_ ≠ (v478 : Value).ownBlock) (.slice Ao8 t470.length co8) t470) ∧ Aside0 (Kd.Q (Kd.int .i64) 3 wc w.heap.size (fun k_ => some k_ ≠ (v487 : Value).ownBlock) (.slice Ao9 t471.length co9) t471) ∧ Aside0 (Kd.R k40 40 wc w.heap.size (fun k_ => some k_ ≠ ((.slice Ao8 t470.length co8) : Value).ownBlock) v478 t476) ∧ Aside0 (Kd.R (Kd.int .i64) 3 wc w.heap.size (fun k_ => some k_ ≠ ((.slice Ao9 t471.length co9) : Value).ownBlock) v487 t486) ∧ Aside0 (Below w.heap.size w wc))
       case first =>
        have H := HC26.out
        clear HC26
        by_cases c27 : x12_2 < (t470.length : Int)
        ·rw [if_pos c27] at H
         have c27b0 : decide (x12_2 < (t470.length : Int)) = true := decide_eq_true c27
         clear c27
         (first | rw [c27b0] | (simp only [i64_w, i32_w]; rw [c27b0]) | skip)
         have H' := Aside0.mk H
         clear H
         obtain ⟨Ao28, co28, eo28⟩ := Kd.R_slice HO_9.out
         subst eo28
         go_wp2
         repeat (go_quiet (fail); try go_wp2)
         go_meet
         case rel => exact ⟨_, (decide (x12_2 < (t486.length : Int))), pF, H', ⟨by have := HJ5.out; have := HK2.out; first | omega | exact Nat.le_refl _⟩, ⟨pR HO_3⟩, ⟨by (with_reducible repeat (first | apply Kd.Q_alloc | apply Kd.Q_drewN | apply Kd.Q_drew)); exact HO_4.out⟩, ⟨pR HO_5⟩, ⟨pR HO_9⟩, ⟨pB⟩⟩
        ·rw [if_neg c27] at H
         have c27b0 : decide (x12_2 < (t470.length : Int)) = false := decide_eq_false c27
         clear c27
         (first | rw [c27b0] | (simp only [i64_w, i32_w]; rw [c27b0]) | skip)
         have H' := Aside0.mk H
         clear H
         go_wp2
         repeat (go_quiet (fail); try go_wp2)
         go_meet
         case rel => exact ⟨_, (false), pF, H', ⟨by have := HJ5.out; have := HK2.out; first | omega | exact Nat.le_refl _⟩, ⟨pR HO_3⟩, ⟨by (with_reducible repeat (first | apply Kd.Q_alloc | apply Kd.Q_drewN | apply Kd.Q_drew)); exact HO_4.out⟩, ⟨pR HO_5⟩, ⟨pR HO_9⟩, ⟨pB⟩⟩
       case rest =>
        clear HC26
        try clear c1
        try clear c2
        try clear c2b0
        try clear c2b1
        try clear p2
        try clear c11
        try clear c12
        try clear c12b0
        try clear c12b1
        try clear c12b2
        try clear c14
        try clear c19
        try clear c20
        try clear c20b0
        try clear c20b1
        try clear c20b2
        try clear c27
        try clear c27b0
        try clear p2
        obtain ⟨kq, x65_25, rfl, HA, HJ25, HO_3, HO_4, HO_5, HO_9, HB⟩ := hcut
        cases kq with
        | zero => exact absurd HA.out (by simp [laws_FnTracesCleanFew.j2])
        | succ kj25 =>
         have H := HA.out
         clear HA
         simp only [laws_FnTracesCleanFew.j2] at H
         by_cases c29 : x65_25 = true
         ·subst c29
          have H1 : (if 0 ≤ x12_2 then (if x12_2 < (t486.length : Int) then (if x12_2 < (t471.length : Int) then ((impl_AllergensJoin.f (rd t486 x12_2) (rd t471 x12_2)).bind fun t491 => (if t491 = (rd t471 x12_2) then (if x12_2 < (t470.length : Int) then (if (rd_T40 t470 x12_2).f2 = true then (if x12_2 < (t476.length : Int) then (if (rd_T40 t476 x12_2).f2 = true then (laws_FnTracesCleanFew.l0 kj25 t470 t471 t476 t486 (wrap64 (x10_2 + 1)) (wrap64 (x11_2 + 1)) (wrap64 (x12_2 + 1))) else (laws_FnTracesCleanFew.l0 kj25 t470 t471 t476 t486 (wrap64 (x10_2 + 1)) x11_2 (wrap64 (x12_2 + 1)))) else (none)) else (if x12_2 < (t476.length : Int) then (if (rd_T40 t476 x12_2).f2 = true then (laws_FnTracesCleanFew.l0 kj25 t470 t471 t476 t486 x10_2 (wrap64 (x11_2 + 1)) (wrap64 (x12_2 + 1))) else (laws_FnTracesCleanFew.l0 kj25 t470 t471 t476 t486 x10_2 x11_2 (wrap64 (x12_2 + 1)))) else (none))) else (none)) else (some true))) else (none)) else (none)) else (none)) = some r := by rw [if_pos rfl] at H; exact H
          clear H
          have H := H1
          clear H1
          by_cases c30 : 0 ≤ x12_2
          ·rw [if_pos c30] at H
           have c30b0 : decide (0 ≤ x12_2) = true := decide_eq_true c30
           clear c30
           by_cases c31 : x12_2 < (t486.length : Int)
           ·rw [if_pos c31] at H
            have c31b0 : decide (x12_2 < (t486.length : Int)) = true := decide_eq_true c31
            clear c31
            by_cases c32 : x12_2 < (t471.length : Int)
            ·rw [if_pos c32] at H
             have c32b0 : decide (x12_2 < (t471.length : Int)) = true := decide_eq_true c32
             clear c32
             replace H := Option.bind_eq_some_iff.mp H
             obtain ⟨t491, A330, H⟩ := H
             replace H : (if t491 = (rd t471 x12_2) then (if x12_2 < (t470.length : Int) then (if (rd_T40 t470 x12_2).f2 = true then (if x12_2 < (t476.length : Int) then (if (rd_T40 t476 x12_2).f2 = true then (laws_FnTracesCleanFew.l0 kj25 t470 t471 t476 t486 (wrap64 (x10_2 + 1)) (wrap64 (x11_2 + 1)) (wrap64 (x12_2 + 1))) else (laws_FnTracesCleanFew.l0 kj25 t470 t471 t476 t486 (wrap64 (x10_2 + 1)) x11_2 (wrap64 (x12_2 + 1)))) else (none)) else (if x12_2 < (t476.length : Int) then (if (rd_T40 t476 x12_2).f2 = true then (laws_FnTracesCleanFew.l0 kj25 t470 t471 t476 t486 x10_2 (wrap64 (x11_2 + 1)) (wrap64 (x12_2 + 1))) else (laws_FnTracesCleanFew.l0 kj25 t470 t471 t476 t486 x10_2 x11_2 (wrap64 (x12_2 + 1)))) else (none))) else (none)) else (some true)) = some r := H
             have A33 := Aside0.mk A330
             clear A330
             by_cases c34 : t491 = (rd t471 x12_2)
             ·rw [if_pos c34] at H
              have c34b0 : (t491 == (rd t471 x12_2)) = true := beq_iff_eq.mpr c34
              have c34b1 : (t491 != (rd t471 x12_2)) = false := bne_eq_false_iff_eq.mpr c34
              clear c34
              by_cases c35 : x12_2 < (t470.length : Int)
              ·rw [if_pos c35] at H
               have c35b0 : decide (x12_2 < (t470.length : Int)) = true := decide_eq_true c35
               clear c35
               obtain ⟨bq36, hbq36⟩ : ∃ b_ : Bool, b_ = ((rd_T40 t470 x12_2).f2) := ⟨_, rfl⟩
               replace H : (if bq36 = true then (if x12_2 < (t476.length : Int) then (if (rd_T40 t476 x12_2).f2 = true then (laws_FnTracesCleanFew.l0 kj25 t470 t471 t476 t486 (wrap64 (x10_2 + 1)) (wrap64 (x11_2 + 1)) (wrap64 (x12_2 + 1))) else (laws_FnTracesCleanFew.l0 kj25 t470 t471 t476 t486 (wrap64 (x10_2 + 1)) x11_2 (wrap64 (x12_2 + 1)))) else (none)) else (if x12_2 < (t476.length : Int) then (if (rd_T40 t476 x12_2).f2 = true then (laws_FnTracesCleanFew.l0 kj25 t470 t471 t476 t486 x10_2 (wrap64 (x11_2 + 1)) (wrap64 (x12_2 + 1))) else (laws_FnTracesCleanFew.l0 kj25 t470 t471 t476 t486 x10_2 x11_2 (wrap64 (x12_2 + 1)))) else (none))) = some r := by rw [← hbq36] at H; exact H
               have Nbq36 := Aside0.mk hbq36
               clear hbq36
               by_cases c37 : bq36 = true
               ·subst c37
                have H1 : (if x12_2 < (t476.length : Int) then (if (rd_T40 t476 x12_2).f2 = true then (laws_FnTracesCleanFew.l0 kj25 t470 t471 t476 t486 (wrap64 (x10_2 + 1)) (wrap64 (x11_2 + 1)) (wrap64 (x12_2 + 1))) else (laws_FnTracesCleanFew.l0 kj25 t470 t471 t476 t486 (wrap64 (x10_2 + 1)) x11_2 (wrap64 (x12_2 + 1)))) else (none)) = some r := by rw [if_pos rfl] at H; exact H
                clear H
                have H := H1
                clear H1
                by_cases c38 : x12_2 < (t476.length : Int)
                ·rw [if_pos c38] at H
                 have c38b0 : decide (x12_2 < (t476.length : Int)) = true := decide_eq_true c38
                 clear c38
                 obtain ⟨bq39, hbq39⟩ : ∃ b_ : Bool, b_ = ((rd_T40 t476 x12_2).f2) := ⟨_, rfl⟩
                 replace H : (if bq39 = true then (laws_FnTracesCleanFew.l0 kj25 t470 t471 t476 t486 (wrap64 (x10_2 + 1)) (wrap64 (x11_2 + 1)) (wrap64 (x12_2 + 1))) else (laws_FnTracesCleanFew.l0 kj25 t470 t471 t476 t486 (wrap64 (x10_2 + 1)) x11_2 (wrap64 (x12_2 + 1)))) = some r := by rw [← hbq39] at H; exact H
                 have Nbq39 := Aside0.mk hbq39
                 clear hbq39
                 by_cases c40 : bq39 = true
                 ·subst c40
                  have H1 : (laws_FnTracesCleanFew.l0 kj25 t470 t471 t476 t486 (wrap64 (x10_2 + 1)) (wrap64 (x11_2 + 1)) (wrap64 (x12_2 + 1))) = some r := by rw [if_pos rfl] at H; exact H
                  clear H
                  have H := H1
                  clear H1
                  have H' := Aside0.mk H
                  clear H
                  obtain ⟨Ao41, co41, eo41⟩ := Kd.R_slice HO_9.out
                  subst eo41
                  have p489 : 0 ≤ (x12_2 : Int) := of_decide_eq_true pA
                  have q489 : x12_2 < (t486.length : Int) := of_decide_eq_true pA
                  obtain ⟨ad489, e489, hx489_0⟩ := Kd.at_int (Kd.R_reads' HO_9.out).2.2 x12_2 p489 q489
                  cases e489
                  replace p489 := eq_true p489
                  replace q489 := eq_true q489
                  have p490 : 0 ≤ (x12_2 : Int) := of_decide_eq_true pA
                  have q490 : x12_2 < (t471.length : Int) := of_decide_eq_true pA
                  obtain ⟨ad490, e490, hx490_0⟩ := Kd.at_int (Kd.Q_reads' HO_4.out).2.2 x12_2 p490 q490
                  cases e490
                  replace p490 := eq_true p490
                  replace q490 := eq_true q490
                  go_wp2_with (first | (go_at_call 26; (with_reducible refine (impl_AllergensJoin.calls (rd t486 x12_2) (rd t471 x12_2) t491 _ A33.out).mono ?_); rintro e w' ⟨rfl, ⟨nd, rfl⟩⟩; (try first | exact ⟨rfl, _, World.drewN_drewN _ _ _⟩ | exact ⟨rfl, _, Eq.trans (World.drewN_drewN _ _ _) (congrArg (World.drewN _) (Nat.add_assoc _ _ _))⟩); have p492 : 0 ≤ (x12_2 : Int) := of_decide_eq_true pA; have q492 : x12_2 < (t471.length : Int) := of_decide_eq_true pA; obtain ⟨ad492, e492, hx492_0⟩ := Kd.at_int (Kd.Q_reads' HO_4.out).2.2 x12_2 p492 q492; obtain rfl : ad490 = ad492 := (by injection e492); replace p492 := eq_true p492; replace q492 := eq_true q492; have p493 : 0 ≤ (x12_2 : Int) := of_decide_eq_true pA; have q493 : x12_2 < (t470.length : Int) := of_decide_eq_true pA; obtain ⟨ad493, e493, hx493_0, hx493_1, hx493_2⟩ := at_T40 (Kd.R_reads' HO_3.out).2.2 x12_2 p493 q493; (try rw [← Nbq36.out] at hx493_2); (try rw [← Nbq39.out] at hx493_2); cases e493; replace p493 := eq_true p493; replace q493 := eq_true q493; obtain ⟨Ao42, co42, eo42⟩ := Kd.R_slice HO_5.out; subst eo42; have p494 : 0 ≤ (x12_2 : Int) := of_decide_eq_true pA; have q494 : x12_2 < (t476.length : Int) := of_decide_eq_true pA; obtain ⟨ad494, e494, hx494_0, hx494_1, hx494_2⟩ := at_T40 (Kd.R_reads' HO_5.out).2.2 x12_2 p494 q494; (try rw [← Nbq36.out] at hx494_2); (try rw [← Nbq39.out] at hx494_2); cases e494; replace p494 := eq_true p494; replace q494 := eq_true q494))
                  repeat (go_quiet (first | (go_at_call 26; (with_reducible refine (impl_AllergensJoin.calls (rd t486 x12_2) (rd t471 x12_2) t491 _ A33.out).mono ?_); rintro e w' ⟨rfl, ⟨nd, rfl⟩⟩; (try first | exact ⟨rfl, _, World.drewN_drewN _ _ _⟩ | exact ⟨rfl, _, Eq.trans (World.drewN_drewN _ _ _) (congrArg (World.drewN _) (Nat.add_assoc _ _ _))⟩); have p492 : 0 ≤ (x12_2 : Int) := of_decide_eq_true pA; have q492 : x12_2 < (t471.length : Int) := of_decide_eq_true pA; obtain ⟨ad492, e492, hx492_0⟩ := Kd.at_int (Kd.Q_reads' HO_4.out).2.2 x12_2 p492 q492; obtain rfl : ad490 = ad492 := (by injection e492); replace p492 := eq_true p492; replace q492 := eq_true q492; have p493 : 0 ≤ (x12_2 : Int) := of_decide_eq_true pA; have q493 : x12_2 < (t470.length : Int) := of_decide_eq_true pA; obtain ⟨ad493, e493, hx493_0, hx493_1, hx493_2⟩ := at_T40 (Kd.R_reads' HO_3.out).2.2 x12_2 p493 q493; (try rw [← Nbq36.out] at hx493_2); (try rw [← Nbq39.out] at hx493_2); cases e493; replace p493 := eq_true p493; replace q493 := eq_true q493; obtain ⟨Ao42, co42, eo42⟩ := Kd.R_slice HO_5.out; subst eo42; have p494 : 0 ≤ (x12_2 : Int) := of_decide_eq_true pA; have q494 : x12_2 < (t476.length : Int) := of_decide_eq_true pA; obtain ⟨ad494, e494, hx494_0, hx494_1, hx494_2⟩ := at_T40 (Kd.R_reads' HO_5.out).2.2 x12_2 p494 q494; (try rw [← Nbq36.out] at hx494_2); (try rw [← Nbq39.out] at hx494_2); cases e494; replace p494 := eq_true p494; replace q494 := eq_true q494)); try go_wp2_with (first | (go_at_call 26; (with_reducible refine (impl_AllergensJoin.calls (rd t486 x12_2) (rd t471 x12_2) t491 _ A33.out).mono ?_); rintro e w' ⟨rfl, ⟨nd, rfl⟩⟩; (try first | exact ⟨rfl, _, World.drewN_drewN _ _ _⟩ | exact ⟨rfl, _, Eq.trans (World.drewN_drewN _ _ _) (congrArg (World.drewN _) (Nat.add_assoc _ _ _))⟩); have p492 : 0 ≤ (x12_2 : Int) := of_decide_eq_true pA; have q492 : x12_2 < (t471.length : Int) := of_decide_eq_true pA; obtain ⟨ad492, e492, hx492_0⟩ := Kd.at_int (Kd.Q_reads' HO_4.out).2.2 x12_2 p492 q492; obtain rfl : ad490 = ad492 := (by injection e492); replace p492 := eq_true p492; replace q492 := eq_true q492; have p493 : 0 ≤ (x12_2 : Int) := of_decide_eq_true pA; have q493 : x12_2 < (t470.length : Int) := of_decide_eq_true pA; obtain ⟨ad493, e493, hx493_0, hx493_1, hx493_2⟩ := at_T40 (Kd.R_reads' HO_3.out).2.2 x12_2 p493 q493; (try rw [← Nbq36.out] at hx493_2); (try rw [← Nbq39.out] at hx493_2); cases e493; replace p493 := eq_true p493; replace q493 := eq_true q493; obtain ⟨Ao42, co42, eo42⟩ := Kd.R_slice HO_5.out; subst eo42; have p494 : 0 ≤ (x12_2 : Int) := of_decide_eq_true pA; have q494 : x12_2 < (t476.length : Int) := of_decide_eq_true pA; obtain ⟨ad494, e494, hx494_0, hx494_1, hx494_2⟩ := at_T40 (Kd.R_reads' HO_5.out).2.2 x12_2 p494 q494; (try rw [← Nbq36.out] at hx494_2); (try rw [← Nbq39.out] at hx494_2); cases e494; replace p494 := eq_true p494; replace q494 := eq_true q494)))
                  go_roundg kj25
                  case measure => have := HJ5.out; have := HK2.out; have := HJ25.out; omega
                  case rel => exact ⟨(wrap64 (x10_2 + 1)), (wrap64 (x11_2 + 1)), (wrap64 (x12_2 + 1)), pF, pF, pF, H', ⟨by have := HJ5.out; have := HK2.out; have := HJ25.out; omega⟩, ⟨pR HO_3⟩, ⟨by (with_reducible repeat (first | apply Kd.Q_alloc | apply Kd.Q_drewN | apply Kd.Q_drew)); exact HO_4.out⟩, ⟨pR HO_5⟩, ⟨pR HO_9⟩, ⟨pB⟩⟩
                 ·replace c40 := Bool.eq_false_iff.mpr c40
                  subst c40
                  have H1 : (laws_FnTracesCleanFew.l0 kj25 t470 t471 t476 t486 (wrap64 (x10_2 + 1)) x11_2 (wrap64 (x12_2 + 1))) = some r := by rw [if_neg (show ¬ (false = true) by decide)] at H; exact H
                  clear H
                  have H := H1
                  clear H1
                  have H' := Aside0.mk H
                  clear H
                  obtain ⟨Ao43, co43, eo43⟩ := Kd.R_slice HO_9.out
                  subst eo43
                  have p489 : 0 ≤ (x12_2 : Int) := of_decide_eq_true pA
                  have q489 : x12_2 < (t486.length : Int) := of_decide_eq_true pA
                  obtain ⟨ad489, e489, hx489_0⟩ := Kd.at_int (Kd.R_reads' HO_9.out).2.2 x12_2 p489 q489
                  cases e489
                  replace p489 := eq_true p489
                  replace q489 := eq_true q489
                  have p490 : 0 ≤ (x12_2 : Int) := of_decide_eq_true pA
                  have q490 : x12_2 < (t471.length : Int) := of_decide_eq_true pA
                  obtain ⟨ad490, e490, hx490_0⟩ := Kd.at_int (Kd.Q_reads' HO_4.out).2.2 x12_2 p490 q490
                  cases e490
                  replace p490 := eq_true p490
                  replace q490 := eq_true q490
                  go_wp2_with (first | (go_at_call 26; (with_reducible refine (impl_AllergensJoin.calls (rd t486 x12_2) (rd t471 x12_2) t491 _ A33.out).mono ?_); rintro e w' ⟨rfl, ⟨nd, rfl⟩⟩; (try first | exact ⟨rfl, _, World.drewN_drewN _ _ _⟩ | exact ⟨rfl, _, Eq.trans (World.drewN_drewN _ _ _) (congrArg (World.drewN _) (Nat.add_assoc _ _ _))⟩); have p492 : 0 ≤ (x12_2 : Int) := of_decide_eq_true pA; have q492 : x12_2 < (t471.length : Int) := of_decide_eq_true pA; obtain ⟨ad492, e492, hx492_0⟩ := Kd.at_int (Kd.Q_reads' HO_4.out).2.2 x12_2 p492 q492; obtain rfl : ad490 = ad492 := (by injection e492); replace p492 := eq_true p492; replace q492 := eq_true q492; have p493 : 0 ≤ (x12_2 : Int) := of_decide_eq_true pA; have q493 : x12_2 < (t470.length : Int) := of_decide_eq_true pA; obtain ⟨ad493, e493, hx493_0, hx493_1, hx493_2⟩ := at_T40 (Kd.R_reads' HO_3.out).2.2 x12_2 p493 q493; (try rw [← Nbq36.out] at hx493_2); (try rw [← Nbq39.out] at hx493_2); cases e493; replace p493 := eq_true p493; replace q493 := eq_true q493; obtain ⟨Ao44, co44, eo44⟩ := Kd.R_slice HO_5.out; subst eo44; have p494 : 0 ≤ (x12_2 : Int) := of_decide_eq_true pA; have q494 : x12_2 < (t476.length : Int) := of_decide_eq_true pA; obtain ⟨ad494, e494, hx494_0, hx494_1, hx494_2⟩ := at_T40 (Kd.R_reads' HO_5.out).2.2 x12_2 p494 q494; (try rw [← Nbq36.out] at hx494_2); (try rw [← Nbq39.out] at hx494_2); cases e494; replace p494 := eq_true p494; replace q494 := eq_true q494))
                  repeat (go_quiet (first | (go_at_call 26; (with_reducible refine (impl_AllergensJoin.calls (rd t486 x12_2) (rd t471 x12_2) t491 _ A33.out).mono ?_); rintro e w' ⟨rfl, ⟨nd, rfl⟩⟩; (try first | exact ⟨rfl, _, World.drewN_drewN _ _ _⟩ | exact ⟨rfl, _, Eq.trans (World.drewN_drewN _ _ _) (congrArg (World.drewN _) (Nat.add_assoc _ _ _))⟩); have p492 : 0 ≤ (x12_2 : Int) := of_decide_eq_true pA; have q492 : x12_2 < (t471.length : Int) := of_decide_eq_true pA; obtain ⟨ad492, e492, hx492_0⟩ := Kd.at_int (Kd.Q_reads' HO_4.out).2.2 x12_2 p492 q492; obtain rfl : ad490 = ad492 := (by injection e492); replace p492 := eq_true p492; replace q492 := eq_true q492; have p493 : 0 ≤ (x12_2 : Int) := of_decide_eq_true pA; have q493 : x12_2 < (t470.length : Int) := of_decide_eq_true pA; obtain ⟨ad493, e493, hx493_0, hx493_1, hx493_2⟩ := at_T40 (Kd.R_reads' HO_3.out).2.2 x12_2 p493 q493; (try rw [← Nbq36.out] at hx493_2); (try rw [← Nbq39.out] at hx493_2); cases e493; replace p493 := eq_true p493; replace q493 := eq_true q493; obtain ⟨Ao44, co44, eo44⟩ := Kd.R_slice HO_5.out; subst eo44; have p494 : 0 ≤ (x12_2 : Int) := of_decide_eq_true pA; have q494 : x12_2 < (t476.length : Int) := of_decide_eq_true pA; obtain ⟨ad494, e494, hx494_0, hx494_1, hx494_2⟩ := at_T40 (Kd.R_reads' HO_5.out).2.2 x12_2 p494 q494; (try rw [← Nbq36.out] at hx494_2); (try rw [← Nbq39.out] at hx494_2); cases e494; replace p494 := eq_true p494; replace q494 := eq_true q494)); try go_wp2_with (first | (go_at_call 26; (with_reducible refine (impl_AllergensJoin.calls (rd t486 x12_2) (rd t471 x12_2) t491 _ A33.out).mono ?_); rintro e w' ⟨rfl, ⟨nd, rfl⟩⟩; (try first | exact ⟨rfl, _, World.drewN_drewN _ _ _⟩ | exact ⟨rfl, _, Eq.trans (World.drewN_drewN _ _ _) (congrArg (World.drewN _) (Nat.add_assoc _ _ _))⟩); have p492 : 0 ≤ (x12_2 : Int) := of_decide_eq_true pA; have q492 : x12_2 < (t471.length : Int) := of_decide_eq_true pA; obtain ⟨ad492, e492, hx492_0⟩ := Kd.at_int (Kd.Q_reads' HO_4.out).2.2 x12_2 p492 q492; obtain rfl : ad490 = ad492 := (by injection e492); replace p492 := eq_true p492; replace q492 := eq_true q492; have p493 : 0 ≤ (x12_2 : Int) := of_decide_eq_true pA; have q493 : x12_2 < (t470.length : Int) := of_decide_eq_true pA; obtain ⟨ad493, e493, hx493_0, hx493_1, hx493_2⟩ := at_T40 (Kd.R_reads' HO_3.out).2.2 x12_2 p493 q493; (try rw [← Nbq36.out] at hx493_2); (try rw [← Nbq39.out] at hx493_2); cases e493; replace p493 := eq_true p493; replace q493 := eq_true q493; obtain ⟨Ao44, co44, eo44⟩ := Kd.R_slice HO_5.out; subst eo44; have p494 : 0 ≤ (x12_2 : Int) := of_decide_eq_true pA; have q494 : x12_2 < (t476.length : Int) := of_decide_eq_true pA; obtain ⟨ad494, e494, hx494_0, hx494_1, hx494_2⟩ := at_T40 (Kd.R_reads' HO_5.out).2.2 x12_2 p494 q494; (try rw [← Nbq36.out] at hx494_2); (try rw [← Nbq39.out] at hx494_2); cases e494; replace p494 := eq_true p494; replace q494 := eq_true q494)))
                  go_roundg kj25
                  case measure => have := HJ5.out; have := HK2.out; have := HJ25.out; omega
                  case rel => exact ⟨(wrap64 (x10_2 + 1)), (x11_2), (wrap64 (x12_2 + 1)), pF, pF, pF, H', ⟨by have := HJ5.out; have := HK2.out; have := HJ25.out; omega⟩, ⟨pR HO_3⟩, ⟨by (with_reducible repeat (first | apply Kd.Q_alloc | apply Kd.Q_drewN | apply Kd.Q_drew)); exact HO_4.out⟩, ⟨pR HO_5⟩, ⟨pR HO_9⟩, ⟨pB⟩⟩
                ·rw [if_neg c38] at H
                 exact absurd H (by simp)
               ·replace c37 := Bool.eq_false_iff.mpr c37
                subst c37
                have H1 : (if x12_2 < (t476.length : Int) then (if (rd_T40 t476 x12_2).f2 = true then (laws_FnTracesCleanFew.l0 kj25 t470 t471 t476 t486 x10_2 (wrap64 (x11_2 + 1)) (wrap64 (x12_2 + 1))) else (laws_FnTracesCleanFew.l0 kj25 t470 t471 t476 t486 x10_2 x11_2 (wrap64 (x12_2 + 1)))) else (none)) = some r := by rw [if_neg (show ¬ (false = true) by decide)] at H; exact H
                clear H
                have H := H1
                clear H1
                by_cases c45 : x12_2 < (t476.length : Int)
                ·rw [if_pos c45] at H
                 have c45b0 : decide (x12_2 < (t476.length : Int)) = true := decide_eq_true c45
                 clear c45
                 obtain ⟨bq46, hbq46⟩ : ∃ b_ : Bool, b_ = ((rd_T40 t476 x12_2).f2) := ⟨_, rfl⟩
                 replace H : (if bq46 = true then (laws_FnTracesCleanFew.l0 kj25 t470 t471 t476 t486 x10_2 (wrap64 (x11_2 + 1)) (wrap64 (x12_2 + 1))) else (laws_FnTracesCleanFew.l0 kj25 t470 t471 t476 t486 x10_2 x11_2 (wrap64 (x12_2 + 1)))) = some r := by rw [← hbq46] at H; exact H
                 have Nbq46 := Aside0.mk hbq46
                 clear hbq46
                 by_cases c47 : bq46 = true
                 ·subst c47
                  have H1 : (laws_FnTracesCleanFew.l0 kj25 t470 t471 t476 t486 x10_2 (wrap64 (x11_2 + 1)) (wrap64 (x12_2 + 1))) = some r := by rw [if_pos rfl] at H; exact H
                  clear H
                  have H := H1
                  clear H1
                  have H' := Aside0.mk H
                  clear H
                  obtain ⟨Ao48, co48, eo48⟩ := Kd.R_slice HO_9.out
                  subst eo48
                  have p489 : 0 ≤ (x12_2 : Int) := of_decide_eq_true pA
                  have q489 : x12_2 < (t486.length : Int) := of_decide_eq_true pA
                  obtain ⟨ad489, e489, hx489_0⟩ := Kd.at_int (Kd.R_reads' HO_9.out).2.2 x12_2 p489 q489
                  cases e489
                  replace p489 := eq_true p489
                  replace q489 := eq_true q489
                  have p490 : 0 ≤ (x12_2 : Int) := of_decide_eq_true pA
                  have q490 : x12_2 < (t471.length : Int) := of_decide_eq_true pA
                  obtain ⟨ad490, e490, hx490_0⟩ := Kd.at_int (Kd.Q_reads' HO_4.out).2.2 x12_2 p490 q490
                  cases e490
                  replace p490 := eq_true p490
                  replace q490 := eq_true q490
                  go_wp2_with (first | (go_at_call 26; (with_reducible refine (impl_AllergensJoin.calls (rd t486 x12_2) (rd t471 x12_2) t491 _ A33.out).mono ?_); rintro e w' ⟨rfl, ⟨nd, rfl⟩⟩; (try first | exact ⟨rfl, _, World.drewN_drewN _ _ _⟩ | exact ⟨rfl, _, Eq.trans (World.drewN_drewN _ _ _) (congrArg (World.drewN _) (Nat.add_assoc _ _ _))⟩); have p492 : 0 ≤ (x12_2 : Int) := of_decide_eq_true pA; have q492 : x12_2 < (t471.length : Int) := of_decide_eq_true pA; obtain ⟨ad492, e492, hx492_0⟩ := Kd.at_int (Kd.Q_reads' HO_4.out).2.2 x12_2 p492 q492; obtain rfl : ad490 = ad492 := (by injection e492); replace p492 := eq_true p492; replace q492 := eq_true q492; have p493 : 0 ≤ (x12_2 : Int) := of_decide_eq_true pA; have q493 : x12_2 < (t470.length : Int) := of_decide_eq_true pA; obtain ⟨ad493, e493, hx493_0, hx493_1, hx493_2⟩ := at_T40 (Kd.R_reads' HO_3.out).2.2 x12_2 p493 q493; (try rw [← Nbq36.out] at hx493_2); (try rw [← Nbq46.out] at hx493_2); cases e493; replace p493 := eq_true p493; replace q493 := eq_true q493; obtain ⟨Ao49, co49, eo49⟩ := Kd.R_slice HO_5.out; subst eo49; have p495 : 0 ≤ (x12_2 : Int) := of_decide_eq_true pA; have q495 : x12_2 < (t476.length : Int) := of_decide_eq_true pA; obtain ⟨ad495, e495, hx495_0, hx495_1, hx495_2⟩ := at_T40 (Kd.R_reads' HO_5.out).2.2 x12_2 p495 q495; (try rw [← Nbq36.out] at hx495_2); (try rw [← Nbq46.out] at hx495_2); cases e495; replace p495 := eq_true p495; replace q495 := eq_true q495))
                  repeat (go_quiet (first | (go_at_call 26; (with_reducible refine (impl_AllergensJoin.calls (rd t486 x12_2) (rd t471 x12_2) t491 _ A33.out).mono ?_); rintro e w' ⟨rfl, ⟨nd, rfl⟩⟩; (try first | exact ⟨rfl, _, World.drewN_drewN _ _ _⟩ | exact ⟨rfl, _, Eq.trans (World.drewN_drewN _ _ _) (congrArg (World.drewN _) (Nat.add_assoc _ _ _))⟩); have p492 : 0 ≤ (x12_2 : Int) := of_decide_eq_true pA; have q492 : x12_2 < (t471.length : Int) := of_decide_eq_true pA; obtain ⟨ad492, e492, hx492_0⟩ := Kd.at_int (Kd.Q_reads' HO_4.out).2.2 x12_2 p492 q492; obtain rfl : ad490 = ad492 := (by injection e492); replace p492 := eq_true p492; replace q492 := eq_true q492; have p493 : 0 ≤ (x12_2 : Int) := of_decide_eq_true pA; have q493 : x12_2 < (t470.length : Int) := of_decide_eq_true pA; obtain ⟨ad493, e493, hx493_0, hx493_1, hx493_2⟩ := at_T40 (Kd.R_reads' HO_3.out).2.2 x12_2 p493 q493; (try rw [← Nbq36.out] at hx493_2); (try rw [← Nbq46.out] at hx493_2); cases e493; replace p493 := eq_true p493; replace q493 := eq_true q493; obtain ⟨Ao49, co49, eo49⟩ := Kd.R_slice HO_5.out; subst eo49; have p495 : 0 ≤ (x12_2 : Int) := of_decide_eq_true pA; have q495 : x12_2 < (t476.length : Int) := of_decide_eq_true pA; obtain ⟨ad495, e495, hx495_0, hx495_1, hx495_2⟩ := at_T40 (Kd.R_reads' HO_5.out).2.2 x12_2 p495 q495; (try rw [← Nbq36.out] at hx495_2); (try rw [← Nbq46.out] at hx495_2); cases e495; replace p495 := eq_true p495; replace q495 := eq_true q495)); try go_wp2_with (first | (go_at_call 26; (with_reducible refine (impl_AllergensJoin.calls (rd t486 x12_2) (rd t471 x12_2) t491 _ A33.out).mono ?_); rintro e w' ⟨rfl, ⟨nd, rfl⟩⟩; (try first | exact ⟨rfl, _, World.drewN_drewN _ _ _⟩ | exact ⟨rfl, _, Eq.trans (World.drewN_drewN _ _ _) (congrArg (World.drewN _) (Nat.add_assoc _ _ _))⟩); have p492 : 0 ≤ (x12_2 : Int) := of_decide_eq_true pA; have q492 : x12_2 < (t471.length : Int) := of_decide_eq_true pA; obtain ⟨ad492, e492, hx492_0⟩ := Kd.at_int (Kd.Q_reads' HO_4.out).2.2 x12_2 p492 q492; obtain rfl : ad490 = ad492 := (by injection e492); replace p492 := eq_true p492; replace q492 := eq_true q492; have p493 : 0 ≤ (x12_2 : Int) := of_decide_eq_true pA; have q493 : x12_2 < (t470.length : Int) := of_decide_eq_true pA; obtain ⟨ad493, e493, hx493_0, hx493_1, hx493_2⟩ := at_T40 (Kd.R_reads' HO_3.out).2.2 x12_2 p493 q493; (try rw [← Nbq36.out] at hx493_2); (try rw [← Nbq46.out] at hx493_2); cases e493; replace p493 := eq_true p493; replace q493 := eq_true q493; obtain ⟨Ao49, co49, eo49⟩ := Kd.R_slice HO_5.out; subst eo49; have p495 : 0 ≤ (x12_2 : Int) := of_decide_eq_true pA; have q495 : x12_2 < (t476.length : Int) := of_decide_eq_true pA; obtain ⟨ad495, e495, hx495_0, hx495_1, hx495_2⟩ := at_T40 (Kd.R_reads' HO_5.out).2.2 x12_2 p495 q495; (try rw [← Nbq36.out] at hx495_2); (try rw [← Nbq46.out] at hx495_2); cases e495; replace p495 := eq_true p495; replace q495 := eq_true q495)))
                  go_roundg kj25
                  case measure => have := HJ5.out; have := HK2.out; have := HJ25.out; omega
                  case rel => exact ⟨(x10_2), (wrap64 (x11_2 + 1)), (wrap64 (x12_2 + 1)), pF, pF, pF, H', ⟨by have := HJ5.out; have := HK2.out; have := HJ25.out; omega⟩, ⟨pR HO_3⟩, ⟨by (with_reducible repeat (first | apply Kd.Q_alloc | apply Kd.Q_drewN | apply Kd.Q_drew)); exact HO_4.out⟩, ⟨pR HO_5⟩, ⟨pR HO_9⟩, ⟨pB⟩⟩
                 ·replace c47 := Bool.eq_false_iff.mpr c47
                  subst c47
                  have H1 : (laws_FnTracesCleanFew.l0 kj25 t470 t471 t476 t486 x10_2 x11_2 (wrap64 (x12_2 + 1))) = some r := by rw [if_neg (show ¬ (false = true) by decide)] at H; exact H
                  clear H
                  have H := H1
                  clear H1
                  have H' := Aside0.mk H
                  clear H
                  obtain ⟨Ao50, co50, eo50⟩ := Kd.R_slice HO_9.out
                  subst eo50
                  have p489 : 0 ≤ (x12_2 : Int) := of_decide_eq_true pA
                  have q489 : x12_2 < (t486.length : Int) := of_decide_eq_true pA
                  obtain ⟨ad489, e489, hx489_0⟩ := Kd.at_int (Kd.R_reads' HO_9.out).2.2 x12_2 p489 q489
                  cases e489
                  replace p489 := eq_true p489
                  replace q489 := eq_true q489
                  have p490 : 0 ≤ (x12_2 : Int) := of_decide_eq_true pA
                  have q490 : x12_2 < (t471.length : Int) := of_decide_eq_true pA
                  obtain ⟨ad490, e490, hx490_0⟩ := Kd.at_int (Kd.Q_reads' HO_4.out).2.2 x12_2 p490 q490
                  cases e490
                  replace p490 := eq_true p490
                  replace q490 := eq_true q490
                  go_wp2_with (first | (go_at_call 26; (with_reducible refine (impl_AllergensJoin.calls (rd t486 x12_2) (rd t471 x12_2) t491 _ A33.out).mono ?_); rintro e w' ⟨rfl, ⟨nd, rfl⟩⟩; (try first | exact ⟨rfl, _, World.drewN_drewN _ _ _⟩ | exact ⟨rfl, _, Eq.trans (World.drewN_drewN _ _ _) (congrArg (World.drewN _) (Nat.add_assoc _ _ _))⟩); have p492 : 0 ≤ (x12_2 : Int) := of_decide_eq_true pA; have q492 : x12_2 < (t471.length : Int) := of_decide_eq_true pA; obtain ⟨ad492, e492, hx492_0⟩ := Kd.at_int (Kd.Q_reads' HO_4.out).2.2 x12_2 p492 q492; obtain rfl : ad490 = ad492 := (by injection e492); replace p492 := eq_true p492; replace q492 := eq_true q492; have p493 : 0 ≤ (x12_2 : Int) := of_decide_eq_true pA; have q493 : x12_2 < (t470.length : Int) := of_decide_eq_true pA; obtain ⟨ad493, e493, hx493_0, hx493_1, hx493_2⟩ := at_T40 (Kd.R_reads' HO_3.out).2.2 x12_2 p493 q493; (try rw [← Nbq36.out] at hx493_2); (try rw [← Nbq46.out] at hx493_2); cases e493; replace p493 := eq_true p493; replace q493 := eq_true q493; obtain ⟨Ao51, co51, eo51⟩ := Kd.R_slice HO_5.out; subst eo51; have p495 : 0 ≤ (x12_2 : Int) := of_decide_eq_true pA; have q495 : x12_2 < (t476.length : Int) := of_decide_eq_true pA; obtain ⟨ad495, e495, hx495_0, hx495_1, hx495_2⟩ := at_T40 (Kd.R_reads' HO_5.out).2.2 x12_2 p495 q495; (try rw [← Nbq36.out] at hx495_2); (try rw [← Nbq46.out] at hx495_2); cases e495; replace p495 := eq_true p495; replace q495 := eq_true q495))
                  repeat (go_quiet (first | (go_at_call 26; (with_reducible refine (impl_AllergensJoin.calls (rd t486 x12_2) (rd t471 x12_2) t491 _ A33.out).mono ?_); rintro e w' ⟨rfl, ⟨nd, rfl⟩⟩; (try first | exact ⟨rfl, _, World.drewN_drewN _ _ _⟩ | exact ⟨rfl, _, Eq.trans (World.drewN_drewN _ _ _) (congrArg (World.drewN _) (Nat.add_assoc _ _ _))⟩); have p492 : 0 ≤ (x12_2 : Int) := of_decide_eq_true pA; have q492 : x12_2 < (t471.length : Int) := of_decide_eq_true pA; obtain ⟨ad492, e492, hx492_0⟩ := Kd.at_int (Kd.Q_reads' HO_4.out).2.2 x12_2 p492 q492; obtain rfl : ad490 = ad492 := (by injection e492); replace p492 := eq_true p492; replace q492 := eq_true q492; have p493 : 0 ≤ (x12_2 : Int) := of_decide_eq_true pA; have q493 : x12_2 < (t470.length : Int) := of_decide_eq_true pA; obtain ⟨ad493, e493, hx493_0, hx493_1, hx493_2⟩ := at_T40 (Kd.R_reads' HO_3.out).2.2 x12_2 p493 q493; (try rw [← Nbq36.out] at hx493_2); (try rw [← Nbq46.out] at hx493_2); cases e493; replace p493 := eq_true p493; replace q493 := eq_true q493; obtain ⟨Ao51, co51, eo51⟩ := Kd.R_slice HO_5.out; subst eo51; have p495 : 0 ≤ (x12_2 : Int) := of_decide_eq_true pA; have q495 : x12_2 < (t476.length : Int) := of_decide_eq_true pA; obtain ⟨ad495, e495, hx495_0, hx495_1, hx495_2⟩ := at_T40 (Kd.R_reads' HO_5.out).2.2 x12_2 p495 q495; (try rw [← Nbq36.out] at hx495_2); (try rw [← Nbq46.out] at hx495_2); cases e495; replace p495 := eq_true p495; replace q495 := eq_true q495)); try go_wp2_with (first | (go_at_call 26; (with_reducible refine (impl_AllergensJoin.calls (rd t486 x12_2) (rd t471 x12_2) t491 _ A33.out).mono ?_); rintro e w' ⟨rfl, ⟨nd, rfl⟩⟩; (try first | exact ⟨rfl, _, World.drewN_drewN _ _ _⟩ | exact ⟨rfl, _, Eq.trans (World.drewN_drewN _ _ _) (congrArg (World.drewN _) (Nat.add_assoc _ _ _))⟩); have p492 : 0 ≤ (x12_2 : Int) := of_decide_eq_true pA; have q492 : x12_2 < (t471.length : Int) := of_decide_eq_true pA; obtain ⟨ad492, e492, hx492_0⟩ := Kd.at_int (Kd.Q_reads' HO_4.out).2.2 x12_2 p492 q492; obtain rfl : ad490 = ad492 := (by injection e492); replace p492 := eq_true p492; replace q492 := eq_true q492; have p493 : 0 ≤ (x12_2 : Int) := of_decide_eq_true pA; have q493 : x12_2 < (t470.length : Int) := of_decide_eq_true pA; obtain ⟨ad493, e493, hx493_0, hx493_1, hx493_2⟩ := at_T40 (Kd.R_reads' HO_3.out).2.2 x12_2 p493 q493; (try rw [← Nbq36.out] at hx493_2); (try rw [← Nbq46.out] at hx493_2); cases e493; replace p493 := eq_true p493; replace q493 := eq_true q493; obtain ⟨Ao51, co51, eo51⟩ := Kd.R_slice HO_5.out; subst eo51; have p495 : 0 ≤ (x12_2 : Int) := of_decide_eq_true pA; have q495 : x12_2 < (t476.length : Int) := of_decide_eq_true pA; obtain ⟨ad495, e495, hx495_0, hx495_1, hx495_2⟩ := at_T40 (Kd.R_reads' HO_5.out).2.2 x12_2 p495 q495; (try rw [← Nbq36.out] at hx495_2); (try rw [← Nbq46.out] at hx495_2); cases e495; replace p495 := eq_true p495; replace q495 := eq_true q495)))
                  go_roundg kj25
                  case measure => have := HJ5.out; have := HK2.out; have := HJ25.out; omega
                  case rel => exact ⟨(x10_2), (x11_2), (wrap64 (x12_2 + 1)), pF, pF, pF, H', ⟨by have := HJ5.out; have := HK2.out; have := HJ25.out; omega⟩, ⟨pR HO_3⟩, ⟨by (with_reducible repeat (first | apply Kd.Q_alloc | apply Kd.Q_drewN | apply Kd.Q_drew)); exact HO_4.out⟩, ⟨pR HO_5⟩, ⟨pR HO_9⟩, ⟨pB⟩⟩
                ·rw [if_neg c45] at H
                 exact absurd H (by simp)
              ·rw [if_neg c35] at H
               exact absurd H (by simp)
             ·rw [if_neg c34] at H
              have c34b0 : (t491 == (rd t471 x12_2)) = false := beq_eq_false_iff_ne.mpr c34
              have c34b1 : (t491 != (rd t471 x12_2)) = true := bne_iff_ne.mpr c34
              obtain rfl := Option.some.inj H
              obtain ⟨Ao52, co52, eo52⟩ := Kd.R_slice HO_9.out
              subst eo52
              have p489 : 0 ≤ (x12_2 : Int) := of_decide_eq_true pA
              have q489 : x12_2 < (t486.length : Int) := of_decide_eq_true pA
              obtain ⟨ad489, e489, hx489_0⟩ := Kd.at_int (Kd.R_reads' HO_9.out).2.2 x12_2 p489 q489
              cases e489
              replace p489 := eq_true p489
              replace q489 := eq_true q489
              have p490 : 0 ≤ (x12_2 : Int) := of_decide_eq_true pA
              have q490 : x12_2 < (t471.length : Int) := of_decide_eq_true pA
              obtain ⟨ad490, e490, hx490_0⟩ := Kd.at_int (Kd.Q_reads' HO_4.out).2.2 x12_2 p490 q490
              cases e490
              replace p490 := eq_true p490
              replace q490 := eq_true q490
              go_wp2_with (first | (go_at_call 26; (with_reducible refine (impl_AllergensJoin.calls (rd t486 x12_2) (rd t471 x12_2) t491 _ A33.out).mono ?_); rintro e w' ⟨rfl, ⟨nd, rfl⟩⟩; (try first | exact ⟨rfl, _, World.drewN_drewN _ _ _⟩ | exact ⟨rfl, _, Eq.trans (World.drewN_drewN _ _ _) (congrArg (World.drewN _) (Nat.add_assoc _ _ _))⟩); have p492 : 0 ≤ (x12_2 : Int) := of_decide_eq_true pA; have q492 : x12_2 < (t471.length : Int) := of_decide_eq_true pA; obtain ⟨ad492, e492, hx492_0⟩ := Kd.at_int (Kd.Q_reads' HO_4.out).2.2 x12_2 p492 q492; obtain rfl : ad490 = ad492 := (by injection e492); replace p492 := eq_true p492; replace q492 := eq_true q492))
              repeat (go_quiet (first | (go_at_call 26; (with_reducible refine (impl_AllergensJoin.calls (rd t486 x12_2) (rd t471 x12_2) t491 _ A33.out).mono ?_); rintro e w' ⟨rfl, ⟨nd, rfl⟩⟩; (try first | exact ⟨rfl, _, World.drewN_drewN _ _ _⟩ | exact ⟨rfl, _, Eq.trans (World.drewN_drewN _ _ _) (congrArg (World.drewN _) (Nat.add_assoc _ _ _))⟩); have p492 : 0 ≤ (x12_2 : Int) := of_decide_eq_true pA; have q492 : x12_2 < (t471.length : Int) := of_decide_eq_true pA; obtain ⟨ad492, e492, hx492_0⟩ := Kd.at_int (Kd.Q_reads' HO_4.out).2.2 x12_2 p492 q492; obtain rfl : ad490 = ad492 := (by injection e492); replace p492 := eq_true p492; replace q492 := eq_true q492)); try go_wp2_with (first | (go_at_call 26; (with_reducible refine (impl_AllergensJoin.calls (rd t486 x12_2) (rd t471 x12_2) t491 _ A33.out).mono ?_); rintro e w' ⟨rfl, ⟨nd, rfl⟩⟩; (try first | exact ⟨rfl, _, World.drewN_drewN _ _ _⟩ | exact ⟨rfl, _, Eq.trans (World.drewN_drewN _ _ _) (congrArg (World.drewN _) (Nat.add_assoc _ _ _))⟩); have p492 : 0 ≤ (x12_2 : Int) := of_decide_eq_true pA; have q492 : x12_2 < (t471.length : Int) := of_decide_eq_true pA; obtain ⟨ad492, e492, hx492_0⟩ := Kd.at_int (Kd.Q_reads' HO_4.out).2.2 x12_2 p492 q492; obtain rfl : ad490 = ad492 := (by injection e492); replace p492 := eq_true p492; replace q492 := eq_true q492)))
              go_ret
              exact ⟨pE, pB⟩
            ·rw [if_neg c32] at H
             exact absurd H (by simp)
           ·rw [if_neg c31] at H
            exact absurd H (by simp)
          ·rw [if_neg c30] at H
           exact absurd H (by simp)
         ·replace c29 := Bool.eq_false_iff.mpr c29
          subst c29
          have H1 : (some (decide (x11_2 ≤ x10_2))) = some r := by rw [if_neg (show ¬ (false = true) by decide)] at H; exact H
          clear H
          have H := H1
          clear H1
          obtain rfl := Option.some.inj H
          go_wp2
          repeat (go_quiet (fail); try go_wp2)
          go_ret
          exact ⟨pE, pB⟩

/-- THE ONE PURE STATEMENT of laws_FnTracesCleanFew: yours. -/
def laws_FnTracesCleanFew.Pure : Prop := ∀ (l0 : List Int), l0.length ≤ maxLen → l0.length * 1 ≤ 140737488351232 → (∀ x ∈ l0, (Lit.int .u8 x).wf = true) → ∃ k, laws_FnTracesCleanFew.f k l0 = some true
theorem laws_FnTracesCleanFew.walk (P : laws_FnTracesCleanFew.Pure) (a0 : Option Addr) (len0 cap0 : Nat) (z0 : List Int) (w : World) (w0 : (a0 = none ∧ len0 = 0 ∧ cap0 = 0 ∧ z0 = []) ∨ ∃ x, a0 = some x ∧ len0 ≤ cap0 ∧ cap0 ≤ maxLen ∧ z0.length = cap0 ∧ (∀ i, i < z0.length → w.cell? (x.add i) = some (.int .u8 (z0.getD i 0))) ∧ ∀ n ∈ z0, (Lit.int .u8 n).wf = true) (y0 : len0 * 1 ≤ 140737488351232) :
  Calls Try.prog 11 #[.slice a0 len0 cap0] w fun e w' => e = .returned (.bool true) ∧ Below w.heap.size w w' := by
 obtain ⟨l0, rfl, hr0, hm0, hw0, hc0⟩ := ReadsInt.ofRowC w0
 obtain ⟨k, h⟩ := P l0 hm0 y0 hw0
 refine (laws_FnTracesCleanFew.calls k _ _ l0 true w (Kd.C_of_reads (d := (0 : Int)) (h1 := fun _ => rfl) hr0) hc0 h).mono ?_
 rintro e w' ⟨rfl, hd⟩
 exact ⟨rfl, hd⟩

end Go.Proofs.Ytglpjchpgjaanaa.Q
