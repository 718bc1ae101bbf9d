-- Written by the kit's print.py for all laws of the seat at once (one namespace), by a program of this session.
import Derived.Test.YtglpjchpgjaanaaQx0
import Derived.Test.YtglpjchpgjaanaaQx3
import Derived.Test.YtglpjchpgjaanaaQx11
import Derived.Test.YtglpjchpgjaanaaQx12
import Derived.Test.YtglpjchpgjaanaaQx13
import Derived.Test.YtglpjchpgjaanaaQx16
namespace Go.Proofs.Ytglpjchpgjaanaa.Q
open Go.RowKit Go.Proofs.YtglpjchpgjaanaaW.PrintWords Go.Proofs.YtglpjchpgjaanaaW.PrintLast Go.Proofs.YtglpjchpgjaanaaW.PrintMore
attribute [local go_sem] max2_int min2_int max_two min_two max_three min_three max_four min_four   -- for this text's walks alone
set_option linter.unusedVariables false
set_option linter.unusedSimpArgs false

/-! ### laws_FnTracesLess: function 8 -/
mutual
def laws_FnTracesLess.j0 : Nat → List Int → List Int → Bool → Option (Bool)
 | 0, _, _, _ => none
 | k + 1, x0, x1, x18 => if x18 = true then (some true) else ((spec_DrawTracesOf.f k x0).bind fun t317 => ((impl_TracesOf.f k t317).bind fun t320 => ((spec_TracesOf.f k t317).bind fun t323 => ((laws_sameInts.f k t320 t323).bind fun t326 => (if t326 = true then ((spec_UsesValid.f k t317).bind fun t327 => (if t327 = true then (laws_FnTracesLess.j1 k x1 t317 t320 t323 ((t317.length : Int) == 0)) else (laws_FnTracesLess.j1 k x1 t317 t320 t323 true))) else (laws_FnTracesLess.j1 k x1 t317 t320 t323 true))))))
def laws_FnTracesLess.j1 : Nat → List Int → List (S40) → List Int → List Int → Bool → Option (Bool)
 | 0, _, _, _, _, _ => none
 | k + 1, x1, x5, x6, x7, x38 => if x38 = true then ((laws_sameInts.f k x6 x7).bind fun t328 => (some t328)) else ((some (([] : List (S40)) : List (S40))).bind fun y329 => (if y329.length + x5.length < 5864062014805 then ((some (y329 ++ x5 : List (S40))).bind fun y332 => (if (x5.length : Int) = 0 then (none) else (if 0 ≤ ((x1.length : Int) % (x5.length : Int)) then (if ((x1.length : Int) % (x5.length : Int)) < (y332.length : Int) then ((impl_TracesOf.f k (y332.set (((x1.length : Int) % (x5.length : Int)) : Int).toNat (⟨(rd_T40 y332 ((x1.length : Int) % (x5.length : Int))).f0, (rd_T40 y332 ((x1.length : Int) % (x5.length : Int))).f1, true⟩ : S40))).bind fun t336 => (laws_FnTracesLess.l0 k x6 t336 0)) else (none)) else (none)))) else (none)))
def laws_FnTracesLess.l0 : Nat → List Int → List Int → Int → Option (Bool)
 | 0, _, _, _ => none
 | k + 1, x6, x9, x10 => if x10 < (x9.length : Int) then (laws_FnTracesLess.j3 k x6 x9 x10 (decide (x10 < (x6.length : Int)))) else (laws_FnTracesLess.j3 k x6 x9 x10 false)
def laws_FnTracesLess.j3 : Nat → List Int → List Int → Int → Bool → Option (Bool)
 | 0, _, _, _, _ => none
 | k + 1, x6, x9, x10, x64 => if x64 = true then (if 0 ≤ x10 then (if x10 < (x9.length : Int) then (if x10 < (x6.length : Int) then ((impl_AllergensJoin.f (rd x9 x10) (rd x6 x10)).bind fun t341 => (if t341 = (rd x6 x10) then (laws_FnTracesLess.l0 k x6 x9 (wrap64 (x10 + 1))) else (some false))) else (none)) else (none)) else (none)) else (some ((x9.length : Int) == (x6.length : Int)))
end
def laws_FnTracesLess.f (k : Nat) (l0 : List Int) (l1 : List Int) : Option (Bool) := if (l0.length : Int) > 1048576 then (laws_FnTracesLess.j0 k l0 l1 true) else (laws_FnTracesLess.j0 k l0 l1 (decide ((l1.length : Int) > 1048576)))
theorem laws_FnTracesLess.mono_l : ∀ k, (∀ y0 y1 y2, LeO (laws_FnTracesLess.j0 k y0 y1 y2) (laws_FnTracesLess.j0 (k + 1) y0 y1 y2)) ∧ (∀ y0 y1 y2 y3 y4, LeO (laws_FnTracesLess.j1 k y0 y1 y2 y3 y4) (laws_FnTracesLess.j1 (k + 1) y0 y1 y2 y3 y4)) ∧ (∀ y0 y1 y2, LeO (laws_FnTracesLess.l0 k y0 y1 y2) (laws_FnTracesLess.l0 (k + 1) y0 y1 y2)) ∧ (∀ y0 y1 y2 y3, LeO (laws_FnTracesLess.j3 k y0 y1 y2 y3) (laws_FnTracesLess.j3 (k + 1) y0 y1 y2 y3))
 | 0 => ⟨fun _ _ _ r h => by simp [laws_FnTracesLess.j0] at h, fun _ _ _ _ _ r h => by simp [laws_FnTracesLess.j1] at h, fun _ _ _ r h => by simp [laws_FnTracesLess.l0] at h, fun _ _ _ _ r h => by simp [laws_FnTracesLess.j3] at h⟩
 | k + 1 => by
  obtain ⟨ih0, ih1, ih2, ih3⟩ := laws_FnTracesLess.mono_l k
  refine ⟨?_, ?_, ?_, ?_⟩
  ·intro y0 y1 y2
   unfold laws_FnTracesLess.j0
   repeat' first
   | (with_reducible exact ih0 _ _ _)
   | (with_reducible exact ih1 _ _ _ _ _)
   | (with_reducible exact ih2 _ _ _)
   | (with_reducible exact ih3 _ _ _ _)
   | (with_reducible exact impl_TracesOf.mono _ _)
   | (with_reducible exact laws_sameInts.mono _ _ _)
   | (with_reducible exact spec_DrawTracesOf.mono _ _)
   | (with_reducible exact spec_TracesOf.mono _ _)
   | (with_reducible exact spec_UsesValid.mono _ _)
   | (with_reducible exact LeO.refl _)
   | (with_reducible exact LeO.none _)
   | (with_reducible refine LeO.ite ?_ ?_)
   | (with_reducible refine LeO.bind ?_ (fun _ => ?_))
   | exact ih0 _ _ _
   | exact ih1 _ _ _ _ _
   | exact ih2 _ _ _
   | exact ih3 _ _ _ _
   | exact impl_TracesOf.mono _ _
   | exact laws_sameInts.mono _ _ _
   | exact spec_DrawTracesOf.mono _ _
   | exact spec_TracesOf.mono _ _
   | exact spec_UsesValid.mono _ _
   | exact LeO.none _
   | refine LeO.ite ?_ ?_
   | refine LeO.bind ?_ (fun _ => ?_)
  ·intro y0 y1 y2 y3 y4
   unfold laws_FnTracesLess.j1
   repeat' first
   | (with_reducible exact ih0 _ _ _)
   | (with_reducible exact ih1 _ _ _ _ _)
   | (with_reducible exact ih2 _ _ _)
   | (with_reducible exact ih3 _ _ _ _)
   | (with_reducible exact impl_TracesOf.mono _ _)
   | (with_reducible exact laws_sameInts.mono _ _ _)
   | (with_reducible exact spec_DrawTracesOf.mono _ _)
   | (with_reducible exact spec_TracesOf.mono _ _)
   | (with_reducible exact spec_UsesValid.mono _ _)
   | (with_reducible exact LeO.refl _)
   | (with_reducible exact LeO.none _)
   | (with_reducible refine LeO.ite ?_ ?_)
   | (with_reducible refine LeO.bind ?_ (fun _ => ?_))
   | exact ih0 _ _ _
   | exact ih1 _ _ _ _ _
   | exact ih2 _ _ _
   | exact ih3 _ _ _ _
   | exact impl_TracesOf.mono _ _
   | exact laws_sameInts.mono _ _ _
   | exact spec_DrawTracesOf.mono _ _
   | exact spec_TracesOf.mono _ _
   | exact spec_UsesValid.mono _ _
   | exact LeO.none _
   | refine LeO.ite ?_ ?_
   | refine LeO.bind ?_ (fun _ => ?_)
  ·intro y0 y1 y2
   unfold laws_FnTracesLess.l0
   repeat' first
   | (with_reducible exact ih0 _ _ _)
   | (with_reducible exact ih1 _ _ _ _ _)
   | (with_reducible exact ih2 _ _ _)
   | (with_reducible exact ih3 _ _ _ _)
   | (with_reducible exact impl_TracesOf.mono _ _)
   | (with_reducible exact laws_sameInts.mono _ _ _)
   | (with_reducible exact spec_DrawTracesOf.mono _ _)
   | (with_reducible exact spec_TracesOf.mono _ _)
   | (with_reducible exact spec_UsesValid.mono _ _)
   | (with_reducible exact LeO.refl _)
   | (with_reducible exact LeO.none _)
   | (with_reducible refine LeO.ite ?_ ?_)
   | (with_reducible refine LeO.bind ?_ (fun _ => ?_))
   | exact ih0 _ _ _
   | exact ih1 _ _ _ _ _
   | exact ih2 _ _ _
   | exact ih3 _ _ _ _
   | exact impl_TracesOf.mono _ _
   | exact laws_sameInts.mono _ _ _
   | exact spec_DrawTracesOf.mono _ _
   | exact spec_TracesOf.mono _ _
   | exact spec_UsesValid.mono _ _
   | exact LeO.none _
   | refine LeO.ite ?_ ?_
   | refine LeO.bind ?_ (fun _ => ?_)
  ·intro y0 y1 y2 y3
   unfold laws_FnTracesLess.j3
   repeat' first
   | (with_reducible exact ih0 _ _ _)
   | (with_reducible exact ih1 _ _ _ _ _)
   | (with_reducible exact ih2 _ _ _)
   | (with_reducible exact ih3 _ _ _ _)
   | (with_reducible exact impl_TracesOf.mono _ _)
   | (with_reducible exact laws_sameInts.mono _ _ _)
   | (with_reducible exact spec_DrawTracesOf.mono _ _)
   | (with_reducible exact spec_TracesOf.mono _ _)
   | (with_reducible exact spec_UsesValid.mono _ _)
   | (with_reducible exact LeO.refl _)
   | (with_reducible exact LeO.none _)
   | (with_reducible refine LeO.ite ?_ ?_)
   | (with_reducible refine LeO.bind ?_ (fun _ => ?_))
   | exact ih0 _ _ _
   | exact ih1 _ _ _ _ _
   | exact ih2 _ _ _
   | exact ih3 _ _ _ _
   | exact impl_TracesOf.mono _ _
   | exact laws_sameInts.mono _ _ _
   | exact spec_DrawTracesOf.mono _ _
   | exact spec_TracesOf.mono _ _
   | exact spec_UsesValid.mono _ _
   | exact LeO.none _
   | refine LeO.ite ?_ ?_
   | refine LeO.bind ?_ (fun _ => ?_)
theorem laws_FnTracesLess.mono : ∀ a0 a1 k, LeO (laws_FnTracesLess.f k a0 a1) (laws_FnTracesLess.f (k + 1) a0 a1) := by
 intro a0 a1 k
 obtain ⟨ih0, ih1, ih2, ih3⟩ := laws_FnTracesLess.mono_l k
 unfold laws_FnTracesLess.f
 repeat' first
   | (with_reducible exact ih0 _ _ _)
   | (with_reducible exact ih1 _ _ _ _ _)
   | (with_reducible exact ih2 _ _ _)
   | (with_reducible exact ih3 _ _ _ _)
   | (with_reducible exact impl_TracesOf.mono _ _)
   | (with_reducible exact laws_sameInts.mono _ _ _)
   | (with_reducible exact spec_DrawTracesOf.mono _ _)
   | (with_reducible exact spec_TracesOf.mono _ _)
   | (with_reducible exact spec_UsesValid.mono _ _)
   | (with_reducible exact LeO.refl _)
   | (with_reducible exact LeO.none _)
   | (with_reducible refine LeO.ite ?_ ?_)
   | (with_reducible refine LeO.bind ?_ (fun _ => ?_))
   | exact ih0 _ _ _
   | exact ih1 _ _ _ _ _
   | exact ih2 _ _ _
   | exact ih3 _ _ _ _
   | exact impl_TracesOf.mono _ _
   | exact laws_sameInts.mono _ _ _
   | exact spec_DrawTracesOf.mono _ _
   | exact spec_TracesOf.mono _ _
   | exact spec_UsesValid.mono _ _
   | exact LeO.none _
   | refine LeO.ite ?_ ?_
   | refine LeO.bind ?_ (fun _ => ?_)
set_option maxHeartbeats 8000000 in
set_option maxRecDepth 100000 in
theorem laws_FnTracesLess.calls (k : Nat) (A0 : Option Addr) (c0 : Nat) (l0 : List Int) (A1 : Option Addr) (c1 : Nat) (l1 : List Int) (r : Bool) (w : World) (hr0 : Kd.C (Kd.int .u8) w A0 l0.length l0) (hc0 : l0.length ≤ c0) (hr1 : Kd.C (Kd.int .u8) w A1 l1.length l1) (hc1 : l1.length ≤ c1) (h : laws_FnTracesLess.f k l0 l1 = some r) :
  Calls Try.prog 8 #[.slice A0 l0.length c0, .slice A1 l1.length c1] w fun e w' => e = .returned (.bool r) ∧ Below w.heap.size w w' := by
 have HR0 := Aside0.mk hr0
 have HC0 := Aside0.mk hc0
 clear hr0 hc0
 have HR1 := Aside0.mk hr1
 have HC1 := Aside0.mk hc1
 clear hr1 hc1
 have HB := Aside0.mk (Below.refl w.heap.size w)
 have H : (if (l0.length : Int) > 1048576 then (laws_FnTracesLess.j0 k l0 l1 true) else (laws_FnTracesLess.j0 k l0 l1 (decide ((l1.length : Int) > 1048576)))) = some r := h
 clear h
 have HC3 := Aside0.mk H
 clear H
 go_enter Try.func8, Try.ntmps8
 go_upto_region 1 with (fail)
 repeat (go_quiet (fail); go_upto_region 1 with (fail))
 go_cut [18] (fun v18 wc => ∃ (kq : Nat) (x18_2 : Bool), v18 = .bool x18_2 ∧ Aside0 (laws_FnTracesLess.j0 kq l0 l1 x18_2 = some r) ∧ Aside0 (kq ≤ k) ∧ Aside0 (Below w.heap.size w wc))
 case first =>
  have H := HC3.out
  clear HC3
  by_cases c4 : (l0.length : Int) > 1048576
  ·rw [if_pos c4] at H
   have c4b0 : decide (1048576 < (l0.length : Int)) = true := decide_eq_true c4
   have c4b1 : decide (1048576 < l0.length) = true := decide_eq_true (by omega)
   clear c4
   (first | rw [c4b0] | (simp only [i64_w, i32_w]; rw [c4b0]) | skip)
   have H' := Aside0.mk H
   clear H
   go_wp2
   repeat (go_quiet (fail); try go_wp2)
   go_meet
   case rel => exact ⟨_, (true), pF, H', ⟨by first | omega | exact Nat.le_refl _⟩, ⟨pB⟩⟩
  ·rw [if_neg c4] at H
   have c4b0 : decide (1048576 < (l0.length : Int)) = false := decide_eq_false c4
   have c4b1 : decide (1048576 < l0.length) = false := decide_eq_false (by omega)
   clear c4
   (first | rw [c4b0] | (simp only [i64_w, i32_w]; rw [c4b0]) | skip)
   have H' := Aside0.mk H
   clear H
   go_wp2
   repeat (go_quiet (fail); try go_wp2)
   go_meet
   case rel => exact ⟨_, (decide ((l1.length : Int) > 1048576)), pF, H', ⟨by first | omega | exact Nat.le_refl _⟩, ⟨pB⟩⟩
 case rest =>
  clear HC3
  try clear c1
  try clear p2
  try clear c4
  try clear c4b0
  try clear c4b1
  obtain ⟨kq, x18_2, rfl, HA, HJ2, HB⟩ := hcut
  cases kq with
  | zero => exact absurd HA.out (by simp [laws_FnTracesLess.j0])
  | succ kj2 =>
   have H := HA.out
   clear HA
   simp only [laws_FnTracesLess.j0] at H
   by_cases c5 : x18_2 = true
   ·subst c5
    have H1 : (some true) = some r := by rw [if_pos rfl] at H; exact H
    clear H
    have H := H1
    clear H1
    obtain rfl := Option.some.inj H
    go_wp2
    repeat (go_quiet (fail); try go_wp2)
    go_ret
    exact ⟨pE, pB⟩
   ·replace c5 := Bool.eq_false_iff.mpr c5
    subst c5
    have H1 : ((spec_DrawTracesOf.f kj2 l0).bind fun t317 => ((impl_TracesOf.f kj2 t317).bind fun t320 => ((spec_TracesOf.f kj2 t317).bind fun t323 => ((laws_sameInts.f kj2 t320 t323).bind fun t326 => (if t326 = true then ((spec_UsesValid.f kj2 t317).bind fun t327 => (if t327 = true then (laws_FnTracesLess.j1 kj2 l1 t317 t320 t323 ((t317.length : Int) == 0)) else (laws_FnTracesLess.j1 kj2 l1 t317 t320 t323 true))) else (laws_FnTracesLess.j1 kj2 l1 t317 t320 t323 true)))))) = some r := by rw [if_neg (show ¬ (false = true) by decide)] at H; exact H
    clear H
    have H := H1
    clear H1
    replace H := Option.bind_eq_some_iff.mp H
    obtain ⟨t317, A60, H⟩ := H
    replace H : ((impl_TracesOf.f kj2 t317).bind fun t320 => ((spec_TracesOf.f kj2 t317).bind fun t323 => ((laws_sameInts.f kj2 t320 t323).bind fun t326 => (if t326 = true then ((spec_UsesValid.f kj2 t317).bind fun t327 => (if t327 = true then (laws_FnTracesLess.j1 kj2 l1 t317 t320 t323 ((t317.length : Int) == 0)) else (laws_FnTracesLess.j1 kj2 l1 t317 t320 t323 true))) else (laws_FnTracesLess.j1 kj2 l1 t317 t320 t323 true))))) = some r := H
    have A6 := Aside0.mk A60
    clear A60
    replace H := Option.bind_eq_some_iff.mp H
    obtain ⟨t320, A70, H⟩ := H
    replace H : ((spec_TracesOf.f kj2 t317).bind fun t323 => ((laws_sameInts.f kj2 t320 t323).bind fun t326 => (if t326 = true then ((spec_UsesValid.f kj2 t317).bind fun t327 => (if t327 = true then (laws_FnTracesLess.j1 kj2 l1 t317 t320 t323 ((t317.length : Int) == 0)) else (laws_FnTracesLess.j1 kj2 l1 t317 t320 t323 true))) else (laws_FnTracesLess.j1 kj2 l1 t317 t320 t323 true)))) = some r := H
    have A7 := Aside0.mk A70
    clear A70
    replace H := Option.bind_eq_some_iff.mp H
    obtain ⟨t323, A80, H⟩ := H
    replace H : ((laws_sameInts.f kj2 t320 t323).bind fun t326 => (if t326 = true then ((spec_UsesValid.f kj2 t317).bind fun t327 => (if t327 = true then (laws_FnTracesLess.j1 kj2 l1 t317 t320 t323 ((t317.length : Int) == 0)) else (laws_FnTracesLess.j1 kj2 l1 t317 t320 t323 true))) else (laws_FnTracesLess.j1 kj2 l1 t317 t320 t323 true))) = some r := H
    have A8 := Aside0.mk A80
    clear A80
    have HC9 := Aside0.mk H
    clear H
    go_upto_region 6 with (first | (go_at_call 21; (with_reducible refine (spec_DrawTracesOf.calls kj2 _ _ l0 t317 _ ?side1 ?side2 A6.out).mono ?_); (case side1 => exact pS ((Kd.C_below HR0.out HB.out))); (case side2 => exact HC0.out); rintro e w10 ⟨v318, rfl, ho0, hb⟩; have n0_ := Aside0.mk (Kd.R_lower ho0 (below_size pB)); have n1_ := Aside0.mk (below_step pB hb); clear HB; have HO319 := n0_; have HB := n1_; clear n0_ n1_; (try clear hb); (try clear hb2); (try clear hk); (try clear hi); (try clear ho0); obtain ⟨Ao11, co11, eo11⟩ := Kd.R_slice HO319.out; subst eo11) | (go_at_call 22; (with_reducible refine (impl_TracesOf.calls kj2 _ _ t317 t320 _ ?side1 ?side2 A7.out).mono ?_); (case side1 => exact pS ((Kd.R_reads' HO319.out).2.2)); (case side2 => exact (Kd.R_reads' HO319.out).2.1); rintro e w12 ⟨v321, rfl, ho0, hb⟩; have n0_ := Aside0.mk (Kd.R_below (pR HO319) hb); have n1_ := Aside0.mk (Kd.R_lower ho0 (below_size pB)); have n2_ := Aside0.mk (below_step pB hb); clear HO319; clear HB; have HO319 := n0_; have HO322 := n1_; have HB := n2_; clear n0_ n1_ n2_; (try clear hb); (try clear hb2); (try clear hk); (try clear hi); (try clear ho0)) | (go_at_call 23; (with_reducible refine (spec_TracesOf.calls kj2 _ _ t317 t323 _ ?side1 ?side2 A8.out).mono ?_); (case side1 => exact pS ((Kd.R_reads' HO319.out).2.2)); (case side2 => exact (Kd.R_reads' HO319.out).2.1); rintro e w13 ⟨v324, rfl, ho0, hb⟩; have n0_ := Aside0.mk (Kd.R_below (pR HO319) hb); have n1_ := Aside0.mk (Kd.R_elder' (pR HO322) (Kd.R_base ho0) hb); have n2_ := Aside0.mk (Kd.R_lower (Kd.R_new' ho0 (Kd.R_lt (pR HO322))) (below_size pB)); have n3_ := Aside0.mk (below_step pB hb); clear HO319; clear HO322; clear HB; have HO319 := n0_; have HO322 := n1_; have HO325 := n2_; have HB := n3_; clear n0_ n1_ n2_ n3_; (try clear hb); (try clear hb2); (try clear hk); (try clear hi); (try clear ho0)))
    repeat (go_quiet (first | (go_at_call 21; (with_reducible refine (spec_DrawTracesOf.calls kj2 _ _ l0 t317 _ ?side1 ?side2 A6.out).mono ?_); (case side1 => exact pS ((Kd.C_below HR0.out HB.out))); (case side2 => exact HC0.out); rintro e w10 ⟨v318, rfl, ho0, hb⟩; have n0_ := Aside0.mk (Kd.R_lower ho0 (below_size pB)); have n1_ := Aside0.mk (below_step pB hb); clear HB; have HO319 := n0_; have HB := n1_; clear n0_ n1_; (try clear hb); (try clear hb2); (try clear hk); (try clear hi); (try clear ho0); obtain ⟨Ao11, co11, eo11⟩ := Kd.R_slice HO319.out; subst eo11) | (go_at_call 22; (with_reducible refine (impl_TracesOf.calls kj2 _ _ t317 t320 _ ?side1 ?side2 A7.out).mono ?_); (case side1 => exact pS ((Kd.R_reads' HO319.out).2.2)); (case side2 => exact (Kd.R_reads' HO319.out).2.1); rintro e w12 ⟨v321, rfl, ho0, hb⟩; have n0_ := Aside0.mk (Kd.R_below (pR HO319) hb); have n1_ := Aside0.mk (Kd.R_lower ho0 (below_size pB)); have n2_ := Aside0.mk (below_step pB hb); clear HO319; clear HB; have HO319 := n0_; have HO322 := n1_; have HB := n2_; clear n0_ n1_ n2_; (try clear hb); (try clear hb2); (try clear hk); (try clear hi); (try clear ho0)) | (go_at_call 23; (with_reducible refine (spec_TracesOf.calls kj2 _ _ t317 t323 _ ?side1 ?side2 A8.out).mono ?_); (case side1 => exact pS ((Kd.R_reads' HO319.out).2.2)); (case side2 => exact (Kd.R_reads' HO319.out).2.1); rintro e w13 ⟨v324, rfl, ho0, hb⟩; have n0_ := Aside0.mk (Kd.R_below (pR HO319) hb); have n1_ := Aside0.mk (Kd.R_elder' (pR HO322) (Kd.R_base ho0) hb); have n2_ := Aside0.mk (Kd.R_lower (Kd.R_new' ho0 (Kd.R_lt (pR HO322))) (below_size pB)); have n3_ := Aside0.mk (below_step pB hb); clear HO319; clear HO322; clear HB; have HO319 := n0_; have HO322 := n1_; have HO325 := n2_; have HB := n3_; clear n0_ n1_ n2_ n3_; (try clear hb); (try clear hb2); (try clear hk); (try clear hi); (try clear ho0))); go_upto_region 6 with (first | (go_at_call 21; (with_reducible refine (spec_DrawTracesOf.calls kj2 _ _ l0 t317 _ ?side1 ?side2 A6.out).mono ?_); (case side1 => exact pS ((Kd.C_below HR0.out HB.out))); (case side2 => exact HC0.out); rintro e w10 ⟨v318, rfl, ho0, hb⟩; have n0_ := Aside0.mk (Kd.R_lower ho0 (below_size pB)); have n1_ := Aside0.mk (below_step pB hb); clear HB; have HO319 := n0_; have HB := n1_; clear n0_ n1_; (try clear hb); (try clear hb2); (try clear hk); (try clear hi); (try clear ho0); obtain ⟨Ao11, co11, eo11⟩ := Kd.R_slice HO319.out; subst eo11) | (go_at_call 22; (with_reducible refine (impl_TracesOf.calls kj2 _ _ t317 t320 _ ?side1 ?side2 A7.out).mono ?_); (case side1 => exact pS ((Kd.R_reads' HO319.out).2.2)); (case side2 => exact (Kd.R_reads' HO319.out).2.1); rintro e w12 ⟨v321, rfl, ho0, hb⟩; have n0_ := Aside0.mk (Kd.R_below (pR HO319) hb); have n1_ := Aside0.mk (Kd.R_lower ho0 (below_size pB)); have n2_ := Aside0.mk (below_step pB hb); clear HO319; clear HB; have HO319 := n0_; have HO322 := n1_; have HB := n2_; clear n0_ n1_ n2_; (try clear hb); (try clear hb2); (try clear hk); (try clear hi); (try clear ho0)) | (go_at_call 23; (with_reducible refine (spec_TracesOf.calls kj2 _ _ t317 t323 _ ?side1 ?side2 A8.out).mono ?_); (case side1 => exact pS ((Kd.R_reads' HO319.out).2.2)); (case side2 => exact (Kd.R_reads' HO319.out).2.1); rintro e w13 ⟨v324, rfl, ho0, hb⟩; have n0_ := Aside0.mk (Kd.R_below (pR HO319) hb); have n1_ := Aside0.mk (Kd.R_elder' (pR HO322) (Kd.R_base ho0) hb); have n2_ := Aside0.mk (Kd.R_lower (Kd.R_new' ho0 (Kd.R_lt (pR HO322))) (below_size pB)); have n3_ := Aside0.mk (below_step pB hb); clear HO319; clear HO322; clear HB; have HO319 := n0_; have HO322 := n1_; have HO325 := n2_; have HB := n3_; clear n0_ n1_ n2_ n3_; (try clear hb); (try clear hb2); (try clear hk); (try clear hi); (try clear ho0))))
    (try simp only [Act.put, List.setIfInBounds_toArray, List.set_cons_zero, List.set_cons_succ])
    go_cut [38] (fun v38 wc => ∃ (kq : Nat) (x38_8 : Bool), v38 = .bool x38_8 ∧ Aside0 (laws_FnTracesLess.j1 kq l1 t317 t320 t323 x38_8 = some r) ∧ Aside0 (kq ≤ kj2) ∧ Aside0 (Kd.R k40 40 wc w.heap.size (fun _ => True) (.slice Ao11 t317.length co11) t317) ∧ Aside0 (Kd.R (Kd.int .i64) 3 wc w.heap.size (fun k_ => some k_ ≠ (v324 : Value).ownBlock) v321 t320) ∧ Aside0 (Kd.R (Kd.int .i64) 3 wc w.heap.size (fun k_ => some k_ ≠ (v321 : Value).ownBlock) v324 t323) ∧ Aside0 (Below w.heap.size w wc))
    case first =>
     have H := HC9.out
     clear HC9
     replace H := Option.bind_eq_some_iff.mp H
     obtain ⟨t326, A140, H⟩ := H
     replace H : (if t326 = true then ((spec_UsesValid.f kj2 t317).bind fun t327 => (if t327 = true then (laws_FnTracesLess.j1 kj2 l1 t317 t320 t323 ((t317.length : Int) == 0)) else (laws_FnTracesLess.j1 kj2 l1 t317 t320 t323 true))) else (laws_FnTracesLess.j1 kj2 l1 t317 t320 t323 true)) = some r := H
     have A14 := Aside0.mk A140
     clear A140
     by_cases c15 : t326 = true
     ·subst c15
      have H1 : ((spec_UsesValid.f kj2 t317).bind fun t327 => (if t327 = true then (laws_FnTracesLess.j1 kj2 l1 t317 t320 t323 ((t317.length : Int) == 0)) else (laws_FnTracesLess.j1 kj2 l1 t317 t320 t323 true))) = some r := by rw [if_pos rfl] at H; exact H
      clear H
      have H := H1
      clear H1
      replace H := Option.bind_eq_some_iff.mp H
      obtain ⟨t327, A160, H⟩ := H
      replace H : (if t327 = true then (laws_FnTracesLess.j1 kj2 l1 t317 t320 t323 ((t317.length : Int) == 0)) else (laws_FnTracesLess.j1 kj2 l1 t317 t320 t323 true)) = some r := H
      have A16 := Aside0.mk A160
      clear A160
      by_cases c17 : t327 = true
      ·subst c17
       have H1 : (laws_FnTracesLess.j1 kj2 l1 t317 t320 t323 ((t317.length : Int) == 0)) = some r := by rw [if_pos rfl] at H; exact H
       clear H
       have H := H1
       clear H1
       have H' := Aside0.mk H
       clear H
       obtain ⟨Ao18, co18, eo18⟩ := Kd.R_slice HO322.out
       subst eo18
       obtain ⟨Ao19, co19, eo19⟩ := Kd.R_slice HO325.out
       subst eo19
       go_wp2_with (first | (go_at_call 24; (with_reducible refine (laws_sameInts.calls kj2 _ _ t320 _ _ t323 true _ ?side1 ?side2 ?side3 ?side4 A14.out).mono ?_); (case side1 => exact pS ((Kd.R_reads' HO322.out).2.2)); (case side2 => exact (Kd.R_reads' HO322.out).2.1); (case side3 => exact pS ((Kd.R_reads' HO325.out).2.2)); (case side4 => exact (Kd.R_reads' HO325.out).2.1); rintro e w' ⟨rfl, ⟨nd, rfl⟩⟩; (try first | exact ⟨rfl, _, World.drewN_drewN _ _ _⟩ | exact ⟨rfl, _, Eq.trans (World.drewN_drewN _ _ _) (congrArg (World.drewN _) (Nat.add_assoc _ _ _))⟩)) | (go_at_call 15; (with_reducible refine (spec_UsesValid.calls kj2 _ _ t317 true _ ?side1 ?side2 A16.out).mono ?_); (case side1 => exact pS ((Kd.R_reads' HO319.out).2.2)); (case side2 => exact (Kd.R_reads' HO319.out).2.1); rintro e w' ⟨rfl, ⟨nd, rfl⟩⟩; (try first | exact ⟨rfl, _, World.drewN_drewN _ _ _⟩ | exact ⟨rfl, _, Eq.trans (World.drewN_drewN _ _ _) (congrArg (World.drewN _) (Nat.add_assoc _ _ _))⟩)))
       repeat (go_quiet (first | (go_at_call 24; (with_reducible refine (laws_sameInts.calls kj2 _ _ t320 _ _ t323 true _ ?side1 ?side2 ?side3 ?side4 A14.out).mono ?_); (case side1 => exact pS ((Kd.R_reads' HO322.out).2.2)); (case side2 => exact (Kd.R_reads' HO322.out).2.1); (case side3 => exact pS ((Kd.R_reads' HO325.out).2.2)); (case side4 => exact (Kd.R_reads' HO325.out).2.1); rintro e w' ⟨rfl, ⟨nd, rfl⟩⟩; (try first | exact ⟨rfl, _, World.drewN_drewN _ _ _⟩ | exact ⟨rfl, _, Eq.trans (World.drewN_drewN _ _ _) (congrArg (World.drewN _) (Nat.add_assoc _ _ _))⟩)) | (go_at_call 15; (with_reducible refine (spec_UsesValid.calls kj2 _ _ t317 true _ ?side1 ?side2 A16.out).mono ?_); (case side1 => exact pS ((Kd.R_reads' HO319.out).2.2)); (case side2 => exact (Kd.R_reads' HO319.out).2.1); rintro e w' ⟨rfl, ⟨nd, rfl⟩⟩; (try first | exact ⟨rfl, _, World.drewN_drewN _ _ _⟩ | exact ⟨rfl, _, Eq.trans (World.drewN_drewN _ _ _) (congrArg (World.drewN _) (Nat.add_assoc _ _ _))⟩))); try go_wp2_with (first | (go_at_call 24; (with_reducible refine (laws_sameInts.calls kj2 _ _ t320 _ _ t323 true _ ?side1 ?side2 ?side3 ?side4 A14.out).mono ?_); (case side1 => exact pS ((Kd.R_reads' HO322.out).2.2)); (case side2 => exact (Kd.R_reads' HO322.out).2.1); (case side3 => exact pS ((Kd.R_reads' HO325.out).2.2)); (case side4 => exact (Kd.R_reads' HO325.out).2.1); rintro e w' ⟨rfl, ⟨nd, rfl⟩⟩; (try first | exact ⟨rfl, _, World.drewN_drewN _ _ _⟩ | exact ⟨rfl, _, Eq.trans (World.drewN_drewN _ _ _) (congrArg (World.drewN _) (Nat.add_assoc _ _ _))⟩)) | (go_at_call 15; (with_reducible refine (spec_UsesValid.calls kj2 _ _ t317 true _ ?side1 ?side2 A16.out).mono ?_); (case side1 => exact pS ((Kd.R_reads' HO319.out).2.2)); (case side2 => exact (Kd.R_reads' HO319.out).2.1); rintro e w' ⟨rfl, ⟨nd, rfl⟩⟩; (try first | exact ⟨rfl, _, World.drewN_drewN _ _ _⟩ | exact ⟨rfl, _, Eq.trans (World.drewN_drewN _ _ _) (congrArg (World.drewN _) (Nat.add_assoc _ _ _))⟩))))
       go_meet
       case rel => exact ⟨_, (((t317.length : Int) == 0)), pF, H', ⟨by have := HJ2.out; first | omega | exact Nat.le_refl _⟩, ⟨pR HO319⟩, ⟨by (with_reducible repeat (first | apply Kd.R_alloc | apply Kd.R_drewN | apply Kd.R_drew)); exact Kd.R_mono HO322.out (fun _ hk => hk.2)⟩, ⟨by (with_reducible repeat (first | apply Kd.R_alloc | apply Kd.R_drewN | apply Kd.R_drew)); exact Kd.R_mono HO325.out (fun _ hk => hk.2)⟩, ⟨pB⟩⟩
      ·replace c17 := Bool.eq_false_iff.mpr c17
       subst c17
       have H1 : (laws_FnTracesLess.j1 kj2 l1 t317 t320 t323 true) = some r := by rw [if_neg (show ¬ (false = true) by decide)] at H; exact H
       clear H
       have H := H1
       clear H1
       have H' := Aside0.mk H
       clear H
       obtain ⟨Ao20, co20, eo20⟩ := Kd.R_slice HO322.out
       subst eo20
       obtain ⟨Ao21, co21, eo21⟩ := Kd.R_slice HO325.out
       subst eo21
       go_wp2_with (first | (go_at_call 24; (with_reducible refine (laws_sameInts.calls kj2 _ _ t320 _ _ t323 true _ ?side1 ?side2 ?side3 ?side4 A14.out).mono ?_); (case side1 => exact pS ((Kd.R_reads' HO322.out).2.2)); (case side2 => exact (Kd.R_reads' HO322.out).2.1); (case side3 => exact pS ((Kd.R_reads' HO325.out).2.2)); (case side4 => exact (Kd.R_reads' HO325.out).2.1); rintro e w' ⟨rfl, ⟨nd, rfl⟩⟩; (try first | exact ⟨rfl, _, World.drewN_drewN _ _ _⟩ | exact ⟨rfl, _, Eq.trans (World.drewN_drewN _ _ _) (congrArg (World.drewN _) (Nat.add_assoc _ _ _))⟩)) | (go_at_call 15; (with_reducible refine (spec_UsesValid.calls kj2 _ _ t317 false _ ?side1 ?side2 A16.out).mono ?_); (case side1 => exact pS ((Kd.R_reads' HO319.out).2.2)); (case side2 => exact (Kd.R_reads' HO319.out).2.1); rintro e w' ⟨rfl, ⟨nd, rfl⟩⟩; (try first | exact ⟨rfl, _, World.drewN_drewN _ _ _⟩ | exact ⟨rfl, _, Eq.trans (World.drewN_drewN _ _ _) (congrArg (World.drewN _) (Nat.add_assoc _ _ _))⟩)))
       repeat (go_quiet (first | (go_at_call 24; (with_reducible refine (laws_sameInts.calls kj2 _ _ t320 _ _ t323 true _ ?side1 ?side2 ?side3 ?side4 A14.out).mono ?_); (case side1 => exact pS ((Kd.R_reads' HO322.out).2.2)); (case side2 => exact (Kd.R_reads' HO322.out).2.1); (case side3 => exact pS ((Kd.R_reads' HO325.out).2.2)); (case side4 => exact (Kd.R_reads' HO325.out).2.1); rintro e w' ⟨rfl, ⟨nd, rfl⟩⟩; (try first | exact ⟨rfl, _, World.drewN_drewN _ _ _⟩ | exact ⟨rfl, _, Eq.trans (World.drewN_drewN _ _ _) (congrArg (World.drewN _) (Nat.add_assoc _ _ _))⟩)) | (go_at_call 15; (with_reducible refine (spec_UsesValid.calls kj2 _ _ t317 false _ ?side1 ?side2 A16.out).mono ?_); (case side1 => exact pS ((Kd.R_reads' HO319.out).2.2)); (case side2 => exact (Kd.R_reads' HO319.out).2.1); rintro e w' ⟨rfl, ⟨nd, rfl⟩⟩; (try first | exact ⟨rfl, _, World.drewN_drewN _ _ _⟩ | exact ⟨rfl, _, Eq.trans (World.drewN_drewN _ _ _) (congrArg (World.drewN _) (Nat.add_assoc _ _ _))⟩))); try go_wp2_with (first | (go_at_call 24; (with_reducible refine (laws_sameInts.calls kj2 _ _ t320 _ _ t323 true _ ?side1 ?side2 ?side3 ?side4 A14.out).mono ?_); (case side1 => exact pS ((Kd.R_reads' HO322.out).2.2)); (case side2 => exact (Kd.R_reads' HO322.out).2.1); (case side3 => exact pS ((Kd.R_reads' HO325.out).2.2)); (case side4 => exact (Kd.R_reads' HO325.out).2.1); rintro e w' ⟨rfl, ⟨nd, rfl⟩⟩; (try first | exact ⟨rfl, _, World.drewN_drewN _ _ _⟩ | exact ⟨rfl, _, Eq.trans (World.drewN_drewN _ _ _) (congrArg (World.drewN _) (Nat.add_assoc _ _ _))⟩)) | (go_at_call 15; (with_reducible refine (spec_UsesValid.calls kj2 _ _ t317 false _ ?side1 ?side2 A16.out).mono ?_); (case side1 => exact pS ((Kd.R_reads' HO319.out).2.2)); (case side2 => exact (Kd.R_reads' HO319.out).2.1); rintro e w' ⟨rfl, ⟨nd, rfl⟩⟩; (try first | exact ⟨rfl, _, World.drewN_drewN _ _ _⟩ | exact ⟨rfl, _, Eq.trans (World.drewN_drewN _ _ _) (congrArg (World.drewN _) (Nat.add_assoc _ _ _))⟩))))
       go_meet
       case rel => exact ⟨_, (true), pF, H', ⟨by have := HJ2.out; first | omega | exact Nat.le_refl _⟩, ⟨pR HO319⟩, ⟨by (with_reducible repeat (first | apply Kd.R_alloc | apply Kd.R_drewN | apply Kd.R_drew)); exact Kd.R_mono HO322.out (fun _ hk => hk.2)⟩, ⟨by (with_reducible repeat (first | apply Kd.R_alloc | apply Kd.R_drewN | apply Kd.R_drew)); exact Kd.R_mono HO325.out (fun _ hk => hk.2)⟩, ⟨pB⟩⟩
     ·replace c15 := Bool.eq_false_iff.mpr c15
      subst c15
      have H1 : (laws_FnTracesLess.j1 kj2 l1 t317 t320 t323 true) = some r := by rw [if_neg (show ¬ (false = true) by decide)] at H; exact H
      clear H
      have H := H1
      clear H1
      have H' := Aside0.mk H
      clear H
      obtain ⟨Ao22, co22, eo22⟩ := Kd.R_slice HO322.out
      subst eo22
      obtain ⟨Ao23, co23, eo23⟩ := Kd.R_slice HO325.out
      subst eo23
      go_wp2_with (first | (go_at_call 24; (with_reducible refine (laws_sameInts.calls kj2 _ _ t320 _ _ t323 false _ ?side1 ?side2 ?side3 ?side4 A14.out).mono ?_); (case side1 => exact pS ((Kd.R_reads' HO322.out).2.2)); (case side2 => exact (Kd.R_reads' HO322.out).2.1); (case side3 => exact pS ((Kd.R_reads' HO325.out).2.2)); (case side4 => exact (Kd.R_reads' HO325.out).2.1); rintro e w' ⟨rfl, ⟨nd, rfl⟩⟩; (try first | exact ⟨rfl, _, World.drewN_drewN _ _ _⟩ | exact ⟨rfl, _, Eq.trans (World.drewN_drewN _ _ _) (congrArg (World.drewN _) (Nat.add_assoc _ _ _))⟩)))
      repeat (go_quiet (first | (go_at_call 24; (with_reducible refine (laws_sameInts.calls kj2 _ _ t320 _ _ t323 false _ ?side1 ?side2 ?side3 ?side4 A14.out).mono ?_); (case side1 => exact pS ((Kd.R_reads' HO322.out).2.2)); (case side2 => exact (Kd.R_reads' HO322.out).2.1); (case side3 => exact pS ((Kd.R_reads' HO325.out).2.2)); (case side4 => exact (Kd.R_reads' HO325.out).2.1); rintro e w' ⟨rfl, ⟨nd, rfl⟩⟩; (try first | exact ⟨rfl, _, World.drewN_drewN _ _ _⟩ | exact ⟨rfl, _, Eq.trans (World.drewN_drewN _ _ _) (congrArg (World.drewN _) (Nat.add_assoc _ _ _))⟩))); try go_wp2_with (first | (go_at_call 24; (with_reducible refine (laws_sameInts.calls kj2 _ _ t320 _ _ t323 false _ ?side1 ?side2 ?side3 ?side4 A14.out).mono ?_); (case side1 => exact pS ((Kd.R_reads' HO322.out).2.2)); (case side2 => exact (Kd.R_reads' HO322.out).2.1); (case side3 => exact pS ((Kd.R_reads' HO325.out).2.2)); (case side4 => exact (Kd.R_reads' HO325.out).2.1); rintro e w' ⟨rfl, ⟨nd, rfl⟩⟩; (try first | exact ⟨rfl, _, World.drewN_drewN _ _ _⟩ | exact ⟨rfl, _, Eq.trans (World.drewN_drewN _ _ _) (congrArg (World.drewN _) (Nat.add_assoc _ _ _))⟩))))
      go_meet
      case rel => exact ⟨_, (true), pF, H', ⟨by have := HJ2.out; first | omega | exact Nat.le_refl _⟩, ⟨pR HO319⟩, ⟨by (with_reducible repeat (first | apply Kd.R_alloc | apply Kd.R_drewN | apply Kd.R_drew)); exact Kd.R_mono HO322.out (fun _ hk => hk.2)⟩, ⟨by (with_reducible repeat (first | apply Kd.R_alloc | apply Kd.R_drewN | apply Kd.R_drew)); exact Kd.R_mono HO325.out (fun _ hk => hk.2)⟩, ⟨pB⟩⟩
    case rest =>
     clear HC9
     try clear c1
     try clear p2
     try clear c4
     try clear c4b0
     try clear c4b1
     try clear c5
     try clear c8
     try clear c15
     try clear c17
     try clear p2
     obtain ⟨kq, x38_8, rfl, HA, HJ8, HO_5, HO_6, HO_7, HB⟩ := hcut
     cases kq with
     | zero => exact absurd HA.out (by simp [laws_FnTracesLess.j1])
     | succ kj8 =>
      have H := HA.out
      clear HA
      simp only [laws_FnTracesLess.j1] at H
      by_cases c24 : x38_8 = true
      ·subst c24
       have H1 : ((laws_sameInts.f kj8 t320 t323).bind fun t328 => (some t328)) = some r := by rw [if_pos rfl] at H; exact H
       clear H
       have H := H1
       clear H1
       replace H := Option.bind_eq_some_iff.mp H
       obtain ⟨t328, A250, H⟩ := H
       replace H : (some t328) = some r := H
       have A25 := Aside0.mk A250
       clear A250
       obtain rfl := Option.some.inj H
       obtain ⟨Ao26, co26, eo26⟩ := Kd.R_slice HO_6.out
       subst eo26
       obtain ⟨Ao27, co27, eo27⟩ := Kd.R_slice HO_7.out
       subst eo27
       go_wp2_with (first | (go_at_call 24; (with_reducible refine (laws_sameInts.calls kj8 _ _ t320 _ _ t323 t328 _ ?side1 ?side2 ?side3 ?side4 A25.out).mono ?_); (case side1 => exact pS ((Kd.R_reads' HO_6.out).2.2)); (case side2 => exact (Kd.R_reads' HO_6.out).2.1); (case side3 => exact pS ((Kd.R_reads' HO_7.out).2.2)); (case side4 => exact (Kd.R_reads' HO_7.out).2.1); rintro e w' ⟨rfl, ⟨nd, rfl⟩⟩; (try first | exact ⟨rfl, _, World.drewN_drewN _ _ _⟩ | exact ⟨rfl, _, Eq.trans (World.drewN_drewN _ _ _) (congrArg (World.drewN _) (Nat.add_assoc _ _ _))⟩)))
       repeat (go_quiet (first | (go_at_call 24; (with_reducible refine (laws_sameInts.calls kj8 _ _ t320 _ _ t323 t328 _ ?side1 ?side2 ?side3 ?side4 A25.out).mono ?_); (case side1 => exact pS ((Kd.R_reads' HO_6.out).2.2)); (case side2 => exact (Kd.R_reads' HO_6.out).2.1); (case side3 => exact pS ((Kd.R_reads' HO_7.out).2.2)); (case side4 => exact (Kd.R_reads' HO_7.out).2.1); rintro e w' ⟨rfl, ⟨nd, rfl⟩⟩; (try first | exact ⟨rfl, _, World.drewN_drewN _ _ _⟩ | exact ⟨rfl, _, Eq.trans (World.drewN_drewN _ _ _) (congrArg (World.drewN _) (Nat.add_assoc _ _ _))⟩))); try go_wp2_with (first | (go_at_call 24; (with_reducible refine (laws_sameInts.calls kj8 _ _ t320 _ _ t323 t328 _ ?side1 ?side2 ?side3 ?side4 A25.out).mono ?_); (case side1 => exact pS ((Kd.R_reads' HO_6.out).2.2)); (case side2 => exact (Kd.R_reads' HO_6.out).2.1); (case side3 => exact pS ((Kd.R_reads' HO_7.out).2.2)); (case side4 => exact (Kd.R_reads' HO_7.out).2.1); rintro e w' ⟨rfl, ⟨nd, rfl⟩⟩; (try first | exact ⟨rfl, _, World.drewN_drewN _ _ _⟩ | exact ⟨rfl, _, Eq.trans (World.drewN_drewN _ _ _) (congrArg (World.drewN _) (Nat.add_assoc _ _ _))⟩))))
       go_ret
       exact ⟨pE, pB⟩
      ·replace c24 := Bool.eq_false_iff.mpr c24
       subst c24
       have H1 : ((some (([] : List (S40)) : List (S40))).bind fun y329 => (if y329.length + t317.length < 5864062014805 then ((some (y329 ++ t317 : List (S40))).bind fun y332 => (if (t317.length : Int) = 0 then (none) else (if 0 ≤ ((l1.length : Int) % (t317.length : Int)) then (if ((l1.length : Int) % (t317.length : Int)) < (y332.length : Int) then ((impl_TracesOf.f kj8 (y332.set (((l1.length : Int) % (t317.length : Int)) : Int).toNat (⟨(rd_T40 y332 ((l1.length : Int) % (t317.length : Int))).f0, (rd_T40 y332 ((l1.length : Int) % (t317.length : Int))).f1, true⟩ : S40))).bind fun t336 => (laws_FnTracesLess.l0 kj8 t320 t336 0)) else (none)) else (none)))) else (none))) = some r := by rw [if_neg (show ¬ (false = true) by decide)] at H; exact H
       clear H
       have H := H1
       clear H1
       obtain ⟨y329, hy329⟩ : ∃ y_ : List (S40), y_ = (([] : List (S40))) := ⟨_, rfl⟩
       replace H : (if y329.length + t317.length < 5864062014805 then ((some (y329 ++ t317 : List (S40))).bind fun y332 => (if (t317.length : Int) = 0 then (none) else (if 0 ≤ ((l1.length : Int) % (t317.length : Int)) then (if ((l1.length : Int) % (t317.length : Int)) < (y332.length : Int) then ((impl_TracesOf.f kj8 (y332.set (((l1.length : Int) % (t317.length : Int)) : Int).toNat (⟨(rd_T40 y332 ((l1.length : Int) % (t317.length : Int))).f0, (rd_T40 y332 ((l1.length : Int) % (t317.length : Int))).f1, true⟩ : S40))).bind fun t336 => (laws_FnTracesLess.l0 kj8 t320 t336 0)) else (none)) else (none)))) else (none)) = some r := by first | (rw [hy329]; with_reducible exact H) | (have H2_ := (Option.bind_some _ _).symm.trans H; rw [hy329]; with_reducible exact H2_) | (have H2_ := (Option.bind_some _ _).symm.trans H; with_reducible exact H2_) | with_reducible exact H | (rw [hy329]; exact H) | exact H
       have Ny329 := Aside0.mk hy329
       clear hy329
       by_cases c28 : y329.length + t317.length < 5864062014805
       ·rw [if_pos c28] at H
        have LMc28 := Aside0.mk c28
        clear c28
        obtain ⟨y332, hy332⟩ : ∃ y_ : List (S40), y_ = (y329 ++ t317) := ⟨_, rfl⟩
        replace H : (if (t317.length : Int) = 0 then (none) else (if 0 ≤ ((l1.length : Int) % (t317.length : Int)) then (if ((l1.length : Int) % (t317.length : Int)) < (y332.length : Int) then ((impl_TracesOf.f kj8 (y332.set (((l1.length : Int) % (t317.length : Int)) : Int).toNat (⟨(rd_T40 y332 ((l1.length : Int) % (t317.length : Int))).f0, (rd_T40 y332 ((l1.length : Int) % (t317.length : Int))).f1, true⟩ : S40))).bind fun t336 => (laws_FnTracesLess.l0 kj8 t320 t336 0)) else (none)) else (none))) = some r := by first | (rw [hy332]; with_reducible exact H) | (have H2_ := (Option.bind_some _ _).symm.trans H; rw [hy332]; with_reducible exact H2_) | (have H2_ := (Option.bind_some _ _).symm.trans H; with_reducible exact H2_) | with_reducible exact H | (rw [hy332]; exact H) | exact H
        have Ny332 := Aside0.mk hy332
        clear hy332
        by_cases c29 : (t317.length : Int) = 0
        ·rw [if_pos c29] at H
         exact absurd H (by simp)
        ·rw [if_neg c29] at H
         have c29b0 : ((t317.length : Int) == 0) = false := beq_eq_false_iff_ne.mpr c29
         have c29b1 : ((t317.length : Int) != 0) = true := bne_iff_ne.mpr c29
         have c29b2 : ¬ (t317 = []) := fun h_ => c29 (by rw [h_]; rfl)
         obtain ⟨ji30, hji30⟩ : ∃ j_ : Int, ((l1.length : Int) % (t317.length : Int)) = j_ := ⟨_, rfl⟩
         replace H : (if 0 ≤ (ji30) then (if (ji30) < (y332.length : Int) then ((impl_TracesOf.f kj8 (y332.set ((ji30) : Int).toNat (⟨(rd_T40 y332 (ji30)).f0, (rd_T40 y332 (ji30)).f1, true⟩ : S40))).bind fun t336 => (laws_FnTracesLess.l0 kj8 t320 t336 0)) else (none)) else (none)) = some r := by first | (rw [hji30] at H; exact H) | (simp only [hji30] at H ⊢; exact H)
         by_cases c31 : 0 ≤ (ji30)
         ·rw [if_pos c31] at H
          have c31b0 : decide (0 ≤ (ji30)) = true := decide_eq_true c31
          clear c31
          by_cases c32 : (ji30) < (y332.length : Int)
          ·rw [if_pos c32] at H
           have c32b0 : decide ((ji30) < (y332.length : Int)) = true := decide_eq_true c32
           clear c32
           obtain ⟨y335, hy335⟩ : ∃ y_ : List (S40), y_ = (y332.set ((ji30) : Int).toNat (⟨(rd_T40 y332 (ji30)).f0, (rd_T40 y332 (ji30)).f1, true⟩ : S40)) := ⟨_, rfl⟩
           replace H : ((impl_TracesOf.f kj8 y335).bind fun t336 => (laws_FnTracesLess.l0 kj8 t320 t336 0)) = some r := by first | (rw [hy335]; with_reducible exact H) | (have H2_ := (Option.bind_some _ _).symm.trans H; rw [hy335]; with_reducible exact H2_) | (have H2_ := (Option.bind_some _ _).symm.trans H; with_reducible exact H2_) | with_reducible exact H | (rw [hy335]; exact H) | exact H
           have Ny335 := Aside0.mk hy335
           clear hy335
           replace H := Option.bind_eq_some_iff.mp H
           obtain ⟨t336, A340, H⟩ := H
           replace H : (laws_FnTracesLess.l0 kj8 t320 t336 0) = some r := H
           have A34 := Aside0.mk A340
           clear A340
           have H' := Aside0.mk H
           clear H
           go_wp2_with (first | ((with_reducible refine gate_dst (N := 42) rfl ?_); (try (refine gate_guard (by rfl) ?_; dsimp only)); refine Kd.R_lit k40 _ 40 ?hg (N := 42) ?hd (xs := ([] : List (S40))) (inner := []) (ok := fun _ => True) (okp := fun _ => True) ?hr ?hp (fun _ hk => hk) trivial (Below.refl _ _) (Nat.le_refl _) (by simp) ?_; (case hd => rfl); (case hg => rfl); (case hr => first | (go_simp; done) | (go_simp; rfl)); (case hp => exact (Reps.none _ _)); intro v330 w35 ho36 hb hg_ hnew_; clear hg_ hnew_; (first | rw [← Ny329.out] at ho36 | (simp only [Int.reduceToNat] at ho36; rw [← Ny329.out] at ho36)); have n0_ := Aside0.mk (Kd.R_elder' (pR HO_5) (Kd.R_base ho36) hb); have n1_ := Aside0.mk (Kd.R_below (pR HO_6) hb); have n2_ := Aside0.mk (Kd.R_below (pR HO_7) hb); have n3_ := Aside0.mk (Kd.R_lower (Kd.R_new' ho36 (Kd.R_lt (pR HO_5))) (below_size pB)); have n4_ := Aside0.mk (below_step pB hb); clear HO_5; clear HO_6; clear HO_7; clear HB; have HO_5 := n0_; have HO_6 := n1_; have HO_7 := n2_; have HO331 := n3_; have HB := n4_; clear n0_ n1_ n2_ n3_ n4_; clear hb ho36) | ((with_reducible refine gate_builtin (b := .append) (xs := #[.tmp 42, .tmp 43]) rfl ?_); (try (refine gate_guard (by rfl) ?_; dsimp only)); at_builtin; refine Kd.R_append_rows k40 (w0 := w) w.heap.size rfl (.tmp 42) (.tmp 43) 25 40 (.agg #[(.int .i64 0), (.int .i64 0), (.bool false)]) 24 rfl Try.underlying25 info40 rfl (by decide) (by omega) v330 y329 t317 _ _ _ (fun k_ => some k_ ≠ (.slice Ao11 t317.length co11 : Value).ownBlock) (fun _ => False) rfl rfl ?aO ?aR (fun _ _ h => h) (fun _ h => h.elim) ?aF ?aB ?aS ?aL ?_; (case aR => exact pS ((Kd.R_reads' HO_5.out).2.2)); (case aB => exact pB); (case aF => exact (fun k_ hk => Kd.fresh' (Kd.R_lt (pR HO_5)) k_ hk)); (case aO => exact (by (with_reducible repeat (first | apply Kd.R_alloc | apply Kd.R_drewN | apply Kd.R_drew)); exact Kd.R_mono HO331.out (fun _ hk => hk.2))); (case aS => exact (below_size pB)); (case aL => have := LMc28.out; omega); intro v333 w37 ho hb hg hat; rw [← Ny332.out] at ho; have n0_ := Aside0.mk (Kd.R_after (ok := (fun _ => True)) (pR HO_5) hg hat); have n1_ := Aside0.mk (Kd.R_over' (pR HO_6) (Kd.R_typed (pR HO331)) (by decide) hg); have n2_ := Aside0.mk (Kd.R_over' (pR HO_7) (Kd.R_typed (pR HO331)) (by decide) hg); have n3_ := Aside0.mk (hb); have n4_ := Aside0.mk (ho); clear HO_5; clear HO_6; clear HO_7; clear HB; clear HO331; have HO_5 := n0_; have HO_6 := n1_; have HO_7 := n2_; have HB := n3_; have HO334 := n4_; clear n0_ n1_ n2_ n3_ n4_; clear ho hb hg hat; have p33 : 0 ≤ ((ji30) : Int) := of_decide_eq_true pA; have q33 : ((ji30) : Int) < ((y332.length : Int) : Int) := of_decide_eq_true pA; obtain ⟨go33, co33, eo33, gb33, gl33, cl33, HG33⟩ := Kd.R_form HO334.out (by omega); (first | cases eo33 | (injection eo33 with ea_ en_ ec_; (first | subst ea_ | (injection ea_ with ea_; subst ea_)); subst ec_; clear en_)); have GB33 := Aside0.mk gb33; have GG33 := Aside0.mk HG33; clear gb33 gl33 HG33; obtain ⟨ce33, hcl33, hM33, hcc33, hfr33⟩ := Kd.R_elem HO334.out z40 ((ji30) : Int) p33 q33; obtain rfl := k40_openM hM33; have hx33_0 : w37.cell? ⟨go33, ((ji30) : Int).toNat * 3, none⟩ = some (.int .i64 ((rd_T40 y332 (ji30)).f0)) := hcc33 0 _ rfl; have hx33_1 : w37.cell? ⟨go33, ((ji30) : Int).toNat * 3 + 1, none⟩ = some (.int .i64 ((rd_T40 y332 (ji30)).f1)) := hcc33 1 _ rfl; have hx33_2 : w37.cell? ⟨go33, ((ji30) : Int).toNat * 3 + 2, none⟩ = some (.bool ((rd_T40 y332 (ji30)).f2)) := hcc33 2 _ rfl; have hf33_0 : w37.frozen? ⟨go33, ((ji30) : Int).toNat * 3, none⟩ = false := hfr33 0; have hf33_1 : w37.frozen? ⟨go33, ((ji30) : Int).toNat * 3 + 1, none⟩ = false := hfr33 1; have hf33_2 : w37.frozen? ⟨go33, ((ji30) : Int).toNat * 3 + 2, none⟩ = false := hfr33 2; clear hcl33 hcc33 hfr33 hM33; replace p33 := eq_true p33; replace q33 := eq_true q33; have HX38 := Aside0.mk (show Kd.R k40 40 w37 w.heap.size (fun k_ => some k_ ≠ (.slice Ao11 t317.length co11 : Value).ownBlock) (.slice (some ⟨go33, 0, none⟩) y332.length co33) y332 from (pR HO334)); obtain ⟨ce38, hcl38, hM38, hcc38, hfr38⟩ := Kd.R_elem HX38.out z40 ((ji30) : Int) (of_decide_eq_true pA) (by have h_ : ((ji30) : Int) < ((y332.length : Int) : Int) := of_decide_eq_true pA; first | exact h_ | (have e_ := (Kd.R_reads' HO334.out).1; omega) | simpa using h_); obtain rfl := k40_openM hM38; have HP38 := Kd.R_seg HX38.out ((ji30) : Int) (of_decide_eq_true pA) (by have h_ : ((ji30) : Int) < ((y332.length : Int) : Int) := of_decide_eq_true pA; first | exact h_ | (have e_ := (Kd.R_reads' HO334.out).1; omega) | simpa using h_) (seg := [.bool true]) (j := 2) hcl38 hcc38 (show 3 ≤ 3 from by decide) (x' := (⟨(rd_T40 y332 (ji30)).f0, (rd_T40 y332 (ji30)).f1, true⟩ : S40)) (k40_mkM _ _ _ (⟨(rd_T40 y332 (ji30)).f0, (rd_T40 y332 (ji30)).f1, true⟩ : S40) ) (fun _ hk => hk); have hx38_2 := hcc38 2 _ rfl; (try simp only [show (k40).sz = 3 from rfl, Nat.mul_one, Nat.add_zero] at hx38_2); have hf38_2 := hfr38 2; (try simp only [show (k40).sz = 3 from rfl, Nat.mul_one, Nat.add_zero] at hf38_2); clear hcl38 hcc38 hfr38 hM38) | ((with_reducible refine gate_store (t := 4) (p := 52) rfl ?_); (try (rw [drewN_self w37]; generalize hq_ : World.drewN w37 _ = w37; have n0_ := Aside0.mk (Kd.R_at hq_ HO_5.out); have n1_ := Aside0.mk (Kd.R_at hq_ HO_6.out); have n2_ := Aside0.mk (Kd.R_at hq_ HO_7.out); have n3_ := Aside0.mk (Kd.R_at hq_ HO334.out); have n4_ := Aside0.mk (below_at hq_ HB.out); clear hq_ HO_5 HO_6 HO_7 HO334 HB; have HO_5 := n0_; have HO_6 := n1_; have HO_7 := n2_; have HO334 := n3_; have HB := n4_; clear n0_ n1_ n2_ n3_ n4_; (try (have HX38 := Aside0.mk (show Kd.R k40 40 w37 w.heap.size (fun k_ => some k_ ≠ (.slice Ao11 t317.length co11 : Value).ownBlock) (.slice (some ⟨go33, 0, none⟩) y332.length co33) y332 from (pR HO334)))); (try (obtain ⟨ce38, hcl38, hM38, hcc38, hfr38⟩ := Kd.R_elem HX38.out z40 ((ji30) : Int) (of_decide_eq_true pA) (by have h_ : ((ji30) : Int) < ((y332.length : Int) : Int) := of_decide_eq_true pA; first | exact h_ | (have e_ := (Kd.R_reads' HO334.out).1; omega) | simpa using h_))); (try (obtain rfl := k40_openM hM38)); (try (have HP38 := Kd.R_seg HX38.out ((ji30) : Int) (of_decide_eq_true pA) (by have h_ : ((ji30) : Int) < ((y332.length : Int) : Int) := of_decide_eq_true pA; first | exact h_ | (have e_ := (Kd.R_reads' HO334.out).1; omega) | simpa using h_) (seg := [.bool true]) (j := 2) hcl38 hcc38 (show 3 ≤ 3 from by decide) (x' := (⟨(rd_T40 y332 (ji30)).f0, (rd_T40 y332 (ji30)).f1, true⟩ : S40)) (k40_mkM _ _ _ (⟨(rd_T40 y332 (ji30)).f0, (rd_T40 y332 (ji30)).f1, true⟩ : S40) ) (fun _ hk => hk))); (try (have hx38_2 := hcc38 2 _ rfl)); (try (try simp only [show (k40).sz = 3 from rfl, Nat.mul_one, Nat.add_zero] at hx38_2)); (try (have hf38_2 := hfr38 2)); (try (try simp only [show (k40).sz = 3 from rfl, Nat.mul_one, Nat.add_zero] at hf38_2)); (try (clear hcl38 hcc38 hfr38 hM38)))); refine store_event (t := 4) (p := 52) (v := ?vo_w39) (w1 := (w37.setCell ⟨go33, ((ji30) : Int).toNat * 3 + 2, none⟩ (.bool true))) ?hg ?ho ?hn ?hr ?_; (case ho => rfl); (case hg => rfl); (case hn => rfl); (case hr => first | (go_simp; done) | (go_simp; rfl)); intro w39 hw; have hg : w37.grownBy w39 (some go33) := (by rw [hw]; exact HP38.2); have hp_ : Kd.R k40 40 w39 w.heap.size (fun k_ => some k_ ≠ (.slice Ao11 t317.length co11 : Value).ownBlock) (.slice (some ⟨go33, 0, none⟩) y332.length co33) y335 := (by rw [hw, Ny335.out]; exact HP38.1); clear HP38; have n0_ := Aside0.mk (Kd.R_after (v := (.slice (some ⟨go33, 0, none⟩) y332.length co33)) (v1 := (.slice (some ⟨go33, 0, none⟩) y332.length co33)) (ok := (fun _ => True)) (pR HO_5) hg (.inl rfl)); have n1_ := Aside0.mk (Kd.R_over' (v := (.slice (some ⟨go33, 0, none⟩) y332.length co33)) (pR HO_6) (Kd.R_typed HO334.out) (by decide) hg); have n2_ := Aside0.mk (Kd.R_over' (v := (.slice (some ⟨go33, 0, none⟩) y332.length co33)) (pR HO_7) (Kd.R_typed HO334.out) (by decide) hg); have n3_ := Aside0.mk (hp_); have n4_ := Aside0.mk ((by rw [hw]; exact below_set (HB.out) GB33.out : Below w.heap.size w w39)); clear HO_5; clear HO_6; clear HO_7; clear HO334; clear HB; have HO_5 := n0_; have HO_6 := n1_; have HO_7 := n2_; have HO334 := n3_; have HB := n4_; clear n0_ n1_ n2_ n3_ n4_; clear hg hw hp_) | (go_at_call 22; refine calls_of_args (args' := #[.slice (some ⟨go33, 0, none⟩) y335.length co33]) (by first | (rw [show y335.length = y332.length from (Kd.R_reads' HO334.out).1.symm] <;> rfl) | rfl) ?_; (with_reducible refine (impl_TracesOf.calls kj8 _ _ y335 t336 _ ?side1 ?side2 A34.out).mono ?_); (case side1 => exact pS ((Kd.R_reads' HO334.out).2.2)); (case side2 => rw [show y335.length = y332.length from (Kd.R_reads' HO334.out).1.symm]; exact (Kd.R_reads' HO334.out).2.1); rintro e w40 ⟨v337, rfl, ho0, hb⟩; have n0_ := Aside0.mk (Kd.R_below (pR HO_5) hb); have n1_ := Aside0.mk (Kd.R_elder' (pR HO_6) (Kd.R_base ho0) hb); have n2_ := Aside0.mk (Kd.R_elder' (pR HO_7) (Kd.R_base ho0) hb); have n3_ := Aside0.mk (Kd.R_below (pR HO334) hb); have n4_ := Aside0.mk (Kd.R_lower (Kd.R_new' (Kd.R_new' ho0 (Kd.R_lt (pR HO_6))) (Kd.R_lt (pR HO_7))) (below_size pB)); have n5_ := Aside0.mk (below_step pB hb); clear HO_5; clear HO_6; clear HO_7; clear HO334; clear HB; have HO_5 := n0_; have HO_6 := n1_; have HO_7 := n2_; have HO334 := n3_; have HO338 := n4_; have HB := n5_; clear n0_ n1_ n2_ n3_ n4_ n5_; (try clear hb); (try clear hb2); (try clear hk); (try clear hi); (try clear ho0)))
           repeat (go_quiet (first | ((with_reducible refine gate_dst (N := 42) rfl ?_); (try (refine gate_guard (by rfl) ?_; dsimp only)); refine Kd.R_lit k40 _ 40 ?hg (N := 42) ?hd (xs := ([] : List (S40))) (inner := []) (ok := fun _ => True) (okp := fun _ => True) ?hr ?hp (fun _ hk => hk) trivial (Below.refl _ _) (Nat.le_refl _) (by simp) ?_; (case hd => rfl); (case hg => rfl); (case hr => first | (go_simp; done) | (go_simp; rfl)); (case hp => exact (Reps.none _ _)); intro v330 w35 ho36 hb hg_ hnew_; clear hg_ hnew_; (first | rw [← Ny329.out] at ho36 | (simp only [Int.reduceToNat] at ho36; rw [← Ny329.out] at ho36)); have n0_ := Aside0.mk (Kd.R_elder' (pR HO_5) (Kd.R_base ho36) hb); have n1_ := Aside0.mk (Kd.R_below (pR HO_6) hb); have n2_ := Aside0.mk (Kd.R_below (pR HO_7) hb); have n3_ := Aside0.mk (Kd.R_lower (Kd.R_new' ho36 (Kd.R_lt (pR HO_5))) (below_size pB)); have n4_ := Aside0.mk (below_step pB hb); clear HO_5; clear HO_6; clear HO_7; clear HB; have HO_5 := n0_; have HO_6 := n1_; have HO_7 := n2_; have HO331 := n3_; have HB := n4_; clear n0_ n1_ n2_ n3_ n4_; clear hb ho36) | ((with_reducible refine gate_builtin (b := .append) (xs := #[.tmp 42, .tmp 43]) rfl ?_); (try (refine gate_guard (by rfl) ?_; dsimp only)); at_builtin; refine Kd.R_append_rows k40 (w0 := w) w.heap.size rfl (.tmp 42) (.tmp 43) 25 40 (.agg #[(.int .i64 0), (.int .i64 0), (.bool false)]) 24 rfl Try.underlying25 info40 rfl (by decide) (by omega) v330 y329 t317 _ _ _ (fun k_ => some k_ ≠ (.slice Ao11 t317.length co11 : Value).ownBlock) (fun _ => False) rfl rfl ?aO ?aR (fun _ _ h => h) (fun _ h => h.elim) ?aF ?aB ?aS ?aL ?_; (case aR => exact pS ((Kd.R_reads' HO_5.out).2.2)); (case aB => exact pB); (case aF => exact (fun k_ hk => Kd.fresh' (Kd.R_lt (pR HO_5)) k_ hk)); (case aO => exact (by (with_reducible repeat (first | apply Kd.R_alloc | apply Kd.R_drewN | apply Kd.R_drew)); exact Kd.R_mono HO331.out (fun _ hk => hk.2))); (case aS => exact (below_size pB)); (case aL => have := LMc28.out; omega); intro v333 w37 ho hb hg hat; rw [← Ny332.out] at ho; have n0_ := Aside0.mk (Kd.R_after (ok := (fun _ => True)) (pR HO_5) hg hat); have n1_ := Aside0.mk (Kd.R_over' (pR HO_6) (Kd.R_typed (pR HO331)) (by decide) hg); have n2_ := Aside0.mk (Kd.R_over' (pR HO_7) (Kd.R_typed (pR HO331)) (by decide) hg); have n3_ := Aside0.mk (hb); have n4_ := Aside0.mk (ho); clear HO_5; clear HO_6; clear HO_7; clear HB; clear HO331; have HO_5 := n0_; have HO_6 := n1_; have HO_7 := n2_; have HB := n3_; have HO334 := n4_; clear n0_ n1_ n2_ n3_ n4_; clear ho hb hg hat; have p33 : 0 ≤ ((ji30) : Int) := of_decide_eq_true pA; have q33 : ((ji30) : Int) < ((y332.length : Int) : Int) := of_decide_eq_true pA; obtain ⟨go33, co33, eo33, gb33, gl33, cl33, HG33⟩ := Kd.R_form HO334.out (by omega); (first | cases eo33 | (injection eo33 with ea_ en_ ec_; (first | subst ea_ | (injection ea_ with ea_; subst ea_)); subst ec_; clear en_)); have GB33 := Aside0.mk gb33; have GG33 := Aside0.mk HG33; clear gb33 gl33 HG33; obtain ⟨ce33, hcl33, hM33, hcc33, hfr33⟩ := Kd.R_elem HO334.out z40 ((ji30) : Int) p33 q33; obtain rfl := k40_openM hM33; have hx33_0 : w37.cell? ⟨go33, ((ji30) : Int).toNat * 3, none⟩ = some (.int .i64 ((rd_T40 y332 (ji30)).f0)) := hcc33 0 _ rfl; have hx33_1 : w37.cell? ⟨go33, ((ji30) : Int).toNat * 3 + 1, none⟩ = some (.int .i64 ((rd_T40 y332 (ji30)).f1)) := hcc33 1 _ rfl; have hx33_2 : w37.cell? ⟨go33, ((ji30) : Int).toNat * 3 + 2, none⟩ = some (.bool ((rd_T40 y332 (ji30)).f2)) := hcc33 2 _ rfl; have hf33_0 : w37.frozen? ⟨go33, ((ji30) : Int).toNat * 3, none⟩ = false := hfr33 0; have hf33_1 : w37.frozen? ⟨go33, ((ji30) : Int).toNat * 3 + 1, none⟩ = false := hfr33 1; have hf33_2 : w37.frozen? ⟨go33, ((ji30) : Int).toNat * 3 + 2, none⟩ = false := hfr33 2; clear hcl33 hcc33 hfr33 hM33; replace p33 := eq_true p33; replace q33 := eq_true q33; have HX38 := Aside0.mk (show Kd.R k40 40 w37 w.heap.size (fun k_ => some k_ ≠ (.slice Ao11 t317.length co11 : Value).ownBlock) (.slice (some ⟨go33, 0, none⟩) y332.length co33) y332 from (pR HO334)); obtain ⟨ce38, hcl38, hM38, hcc38, hfr38⟩ := Kd.R_elem HX38.out z40 ((ji30) : Int) (of_decide_eq_true pA) (by have h_ : ((ji30) : Int) < ((y332.length : Int) : Int) := of_decide_eq_true pA; first | exact h_ | (have e_ := (Kd.R_reads' HO334.out).1; omega) | simpa using h_); obtain rfl := k40_openM hM38; have HP38 := Kd.R_seg HX38.out ((ji30) : Int) (of_decide_eq_true pA) (by have h_ : ((ji30) : Int) < ((y332.length : Int) : Int) := of_decide_eq_true pA; first | exact h_ | (have e_ := (Kd.R_reads' HO334.out).1; omega) | simpa using h_) (seg := [.bool true]) (j := 2) hcl38 hcc38 (show 3 ≤ 3 from by decide) (x' := (⟨(rd_T40 y332 (ji30)).f0, (rd_T40 y332 (ji30)).f1, true⟩ : S40)) (k40_mkM _ _ _ (⟨(rd_T40 y332 (ji30)).f0, (rd_T40 y332 (ji30)).f1, true⟩ : S40) ) (fun _ hk => hk); have hx38_2 := hcc38 2 _ rfl; (try simp only [show (k40).sz = 3 from rfl, Nat.mul_one, Nat.add_zero] at hx38_2); have hf38_2 := hfr38 2; (try simp only [show (k40).sz = 3 from rfl, Nat.mul_one, Nat.add_zero] at hf38_2); clear hcl38 hcc38 hfr38 hM38) | ((with_reducible refine gate_store (t := 4) (p := 52) rfl ?_); (try (rw [drewN_self w37]; generalize hq_ : World.drewN w37 _ = w37; have n0_ := Aside0.mk (Kd.R_at hq_ HO_5.out); have n1_ := Aside0.mk (Kd.R_at hq_ HO_6.out); have n2_ := Aside0.mk (Kd.R_at hq_ HO_7.out); have n3_ := Aside0.mk (Kd.R_at hq_ HO334.out); have n4_ := Aside0.mk (below_at hq_ HB.out); clear hq_ HO_5 HO_6 HO_7 HO334 HB; have HO_5 := n0_; have HO_6 := n1_; have HO_7 := n2_; have HO334 := n3_; have HB := n4_; clear n0_ n1_ n2_ n3_ n4_; (try (have HX38 := Aside0.mk (show Kd.R k40 40 w37 w.heap.size (fun k_ => some k_ ≠ (.slice Ao11 t317.length co11 : Value).ownBlock) (.slice (some ⟨go33, 0, none⟩) y332.length co33) y332 from (pR HO334)))); (try (obtain ⟨ce38, hcl38, hM38, hcc38, hfr38⟩ := Kd.R_elem HX38.out z40 ((ji30) : Int) (of_decide_eq_true pA) (by have h_ : ((ji30) : Int) < ((y332.length : Int) : Int) := of_decide_eq_true pA; first | exact h_ | (have e_ := (Kd.R_reads' HO334.out).1; omega) | simpa using h_))); (try (obtain rfl := k40_openM hM38)); (try (have HP38 := Kd.R_seg HX38.out ((ji30) : Int) (of_decide_eq_true pA) (by have h_ : ((ji30) : Int) < ((y332.length : Int) : Int) := of_decide_eq_true pA; first | exact h_ | (have e_ := (Kd.R_reads' HO334.out).1; omega) | simpa using h_) (seg := [.bool true]) (j := 2) hcl38 hcc38 (show 3 ≤ 3 from by decide) (x' := (⟨(rd_T40 y332 (ji30)).f0, (rd_T40 y332 (ji30)).f1, true⟩ : S40)) (k40_mkM _ _ _ (⟨(rd_T40 y332 (ji30)).f0, (rd_T40 y332 (ji30)).f1, true⟩ : S40) ) (fun _ hk => hk))); (try (have hx38_2 := hcc38 2 _ rfl)); (try (try simp only [show (k40).sz = 3 from rfl, Nat.mul_one, Nat.add_zero] at hx38_2)); (try (have hf38_2 := hfr38 2)); (try (try simp only [show (k40).sz = 3 from rfl, Nat.mul_one, Nat.add_zero] at hf38_2)); (try (clear hcl38 hcc38 hfr38 hM38)))); refine store_event (t := 4) (p := 52) (v := ?vo_w39) (w1 := (w37.setCell ⟨go33, ((ji30) : Int).toNat * 3 + 2, none⟩ (.bool true))) ?hg ?ho ?hn ?hr ?_; (case ho => rfl); (case hg => rfl); (case hn => rfl); (case hr => first | (go_simp; done) | (go_simp; rfl)); intro w39 hw; have hg : w37.grownBy w39 (some go33) := (by rw [hw]; exact HP38.2); have hp_ : Kd.R k40 40 w39 w.heap.size (fun k_ => some k_ ≠ (.slice Ao11 t317.length co11 : Value).ownBlock) (.slice (some ⟨go33, 0, none⟩) y332.length co33) y335 := (by rw [hw, Ny335.out]; exact HP38.1); clear HP38; have n0_ := Aside0.mk (Kd.R_after (v := (.slice (some ⟨go33, 0, none⟩) y332.length co33)) (v1 := (.slice (some ⟨go33, 0, none⟩) y332.length co33)) (ok := (fun _ => True)) (pR HO_5) hg (.inl rfl)); have n1_ := Aside0.mk (Kd.R_over' (v := (.slice (some ⟨go33, 0, none⟩) y332.length co33)) (pR HO_6) (Kd.R_typed HO334.out) (by decide) hg); have n2_ := Aside0.mk (Kd.R_over' (v := (.slice (some ⟨go33, 0, none⟩) y332.length co33)) (pR HO_7) (Kd.R_typed HO334.out) (by decide) hg); have n3_ := Aside0.mk (hp_); have n4_ := Aside0.mk ((by rw [hw]; exact below_set (HB.out) GB33.out : Below w.heap.size w w39)); clear HO_5; clear HO_6; clear HO_7; clear HO334; clear HB; have HO_5 := n0_; have HO_6 := n1_; have HO_7 := n2_; have HO334 := n3_; have HB := n4_; clear n0_ n1_ n2_ n3_ n4_; clear hg hw hp_) | (go_at_call 22; refine calls_of_args (args' := #[.slice (some ⟨go33, 0, none⟩) y335.length co33]) (by first | (rw [show y335.length = y332.length from (Kd.R_reads' HO334.out).1.symm] <;> rfl) | rfl) ?_; (with_reducible refine (impl_TracesOf.calls kj8 _ _ y335 t336 _ ?side1 ?side2 A34.out).mono ?_); (case side1 => exact pS ((Kd.R_reads' HO334.out).2.2)); (case side2 => rw [show y335.length = y332.length from (Kd.R_reads' HO334.out).1.symm]; exact (Kd.R_reads' HO334.out).2.1); rintro e w40 ⟨v337, rfl, ho0, hb⟩; have n0_ := Aside0.mk (Kd.R_below (pR HO_5) hb); have n1_ := Aside0.mk (Kd.R_elder' (pR HO_6) (Kd.R_base ho0) hb); have n2_ := Aside0.mk (Kd.R_elder' (pR HO_7) (Kd.R_base ho0) hb); have n3_ := Aside0.mk (Kd.R_below (pR HO334) hb); have n4_ := Aside0.mk (Kd.R_lower (Kd.R_new' (Kd.R_new' ho0 (Kd.R_lt (pR HO_6))) (Kd.R_lt (pR HO_7))) (below_size pB)); have n5_ := Aside0.mk (below_step pB hb); clear HO_5; clear HO_6; clear HO_7; clear HO334; clear HB; have HO_5 := n0_; have HO_6 := n1_; have HO_7 := n2_; have HO334 := n3_; have HO338 := n4_; have HB := n5_; clear n0_ n1_ n2_ n3_ n4_ n5_; (try clear hb); (try clear hb2); (try clear hk); (try clear hi); (try clear ho0))); try go_wp2_with (first | ((with_reducible refine gate_dst (N := 42) rfl ?_); (try (refine gate_guard (by rfl) ?_; dsimp only)); refine Kd.R_lit k40 _ 40 ?hg (N := 42) ?hd (xs := ([] : List (S40))) (inner := []) (ok := fun _ => True) (okp := fun _ => True) ?hr ?hp (fun _ hk => hk) trivial (Below.refl _ _) (Nat.le_refl _) (by simp) ?_; (case hd => rfl); (case hg => rfl); (case hr => first | (go_simp; done) | (go_simp; rfl)); (case hp => exact (Reps.none _ _)); intro v330 w35 ho36 hb hg_ hnew_; clear hg_ hnew_; (first | rw [← Ny329.out] at ho36 | (simp only [Int.reduceToNat] at ho36; rw [← Ny329.out] at ho36)); have n0_ := Aside0.mk (Kd.R_elder' (pR HO_5) (Kd.R_base ho36) hb); have n1_ := Aside0.mk (Kd.R_below (pR HO_6) hb); have n2_ := Aside0.mk (Kd.R_below (pR HO_7) hb); have n3_ := Aside0.mk (Kd.R_lower (Kd.R_new' ho36 (Kd.R_lt (pR HO_5))) (below_size pB)); have n4_ := Aside0.mk (below_step pB hb); clear HO_5; clear HO_6; clear HO_7; clear HB; have HO_5 := n0_; have HO_6 := n1_; have HO_7 := n2_; have HO331 := n3_; have HB := n4_; clear n0_ n1_ n2_ n3_ n4_; clear hb ho36) | ((with_reducible refine gate_builtin (b := .append) (xs := #[.tmp 42, .tmp 43]) rfl ?_); (try (refine gate_guard (by rfl) ?_; dsimp only)); at_builtin; refine Kd.R_append_rows k40 (w0 := w) w.heap.size rfl (.tmp 42) (.tmp 43) 25 40 (.agg #[(.int .i64 0), (.int .i64 0), (.bool false)]) 24 rfl Try.underlying25 info40 rfl (by decide) (by omega) v330 y329 t317 _ _ _ (fun k_ => some k_ ≠ (.slice Ao11 t317.length co11 : Value).ownBlock) (fun _ => False) rfl rfl ?aO ?aR (fun _ _ h => h) (fun _ h => h.elim) ?aF ?aB ?aS ?aL ?_; (case aR => exact pS ((Kd.R_reads' HO_5.out).2.2)); (case aB => exact pB); (case aF => exact (fun k_ hk => Kd.fresh' (Kd.R_lt (pR HO_5)) k_ hk)); (case aO => exact (by (with_reducible repeat (first | apply Kd.R_alloc | apply Kd.R_drewN | apply Kd.R_drew)); exact Kd.R_mono HO331.out (fun _ hk => hk.2))); (case aS => exact (below_size pB)); (case aL => have := LMc28.out; omega); intro v333 w37 ho hb hg hat; rw [← Ny332.out] at ho; have n0_ := Aside0.mk (Kd.R_after (ok := (fun _ => True)) (pR HO_5) hg hat); have n1_ := Aside0.mk (Kd.R_over' (pR HO_6) (Kd.R_typed (pR HO331)) (by decide) hg); have n2_ := Aside0.mk (Kd.R_over' (pR HO_7) (Kd.R_typed (pR HO331)) (by decide) hg); have n3_ := Aside0.mk (hb); have n4_ := Aside0.mk (ho); clear HO_5; clear HO_6; clear HO_7; clear HB; clear HO331; have HO_5 := n0_; have HO_6 := n1_; have HO_7 := n2_; have HB := n3_; have HO334 := n4_; clear n0_ n1_ n2_ n3_ n4_; clear ho hb hg hat; have p33 : 0 ≤ ((ji30) : Int) := of_decide_eq_true pA; have q33 : ((ji30) : Int) < ((y332.length : Int) : Int) := of_decide_eq_true pA; obtain ⟨go33, co33, eo33, gb33, gl33, cl33, HG33⟩ := Kd.R_form HO334.out (by omega); (first | cases eo33 | (injection eo33 with ea_ en_ ec_; (first | subst ea_ | (injection ea_ with ea_; subst ea_)); subst ec_; clear en_)); have GB33 := Aside0.mk gb33; have GG33 := Aside0.mk HG33; clear gb33 gl33 HG33; obtain ⟨ce33, hcl33, hM33, hcc33, hfr33⟩ := Kd.R_elem HO334.out z40 ((ji30) : Int) p33 q33; obtain rfl := k40_openM hM33; have hx33_0 : w37.cell? ⟨go33, ((ji30) : Int).toNat * 3, none⟩ = some (.int .i64 ((rd_T40 y332 (ji30)).f0)) := hcc33 0 _ rfl; have hx33_1 : w37.cell? ⟨go33, ((ji30) : Int).toNat * 3 + 1, none⟩ = some (.int .i64 ((rd_T40 y332 (ji30)).f1)) := hcc33 1 _ rfl; have hx33_2 : w37.cell? ⟨go33, ((ji30) : Int).toNat * 3 + 2, none⟩ = some (.bool ((rd_T40 y332 (ji30)).f2)) := hcc33 2 _ rfl; have hf33_0 : w37.frozen? ⟨go33, ((ji30) : Int).toNat * 3, none⟩ = false := hfr33 0; have hf33_1 : w37.frozen? ⟨go33, ((ji30) : Int).toNat * 3 + 1, none⟩ = false := hfr33 1; have hf33_2 : w37.frozen? ⟨go33, ((ji30) : Int).toNat * 3 + 2, none⟩ = false := hfr33 2; clear hcl33 hcc33 hfr33 hM33; replace p33 := eq_true p33; replace q33 := eq_true q33; have HX38 := Aside0.mk (show Kd.R k40 40 w37 w.heap.size (fun k_ => some k_ ≠ (.slice Ao11 t317.length co11 : Value).ownBlock) (.slice (some ⟨go33, 0, none⟩) y332.length co33) y332 from (pR HO334)); obtain ⟨ce38, hcl38, hM38, hcc38, hfr38⟩ := Kd.R_elem HX38.out z40 ((ji30) : Int) (of_decide_eq_true pA) (by have h_ : ((ji30) : Int) < ((y332.length : Int) : Int) := of_decide_eq_true pA; first | exact h_ | (have e_ := (Kd.R_reads' HO334.out).1; omega) | simpa using h_); obtain rfl := k40_openM hM38; have HP38 := Kd.R_seg HX38.out ((ji30) : Int) (of_decide_eq_true pA) (by have h_ : ((ji30) : Int) < ((y332.length : Int) : Int) := of_decide_eq_true pA; first | exact h_ | (have e_ := (Kd.R_reads' HO334.out).1; omega) | simpa using h_) (seg := [.bool true]) (j := 2) hcl38 hcc38 (show 3 ≤ 3 from by decide) (x' := (⟨(rd_T40 y332 (ji30)).f0, (rd_T40 y332 (ji30)).f1, true⟩ : S40)) (k40_mkM _ _ _ (⟨(rd_T40 y332 (ji30)).f0, (rd_T40 y332 (ji30)).f1, true⟩ : S40) ) (fun _ hk => hk); have hx38_2 := hcc38 2 _ rfl; (try simp only [show (k40).sz = 3 from rfl, Nat.mul_one, Nat.add_zero] at hx38_2); have hf38_2 := hfr38 2; (try simp only [show (k40).sz = 3 from rfl, Nat.mul_one, Nat.add_zero] at hf38_2); clear hcl38 hcc38 hfr38 hM38) | ((with_reducible refine gate_store (t := 4) (p := 52) rfl ?_); (try (rw [drewN_self w37]; generalize hq_ : World.drewN w37 _ = w37; have n0_ := Aside0.mk (Kd.R_at hq_ HO_5.out); have n1_ := Aside0.mk (Kd.R_at hq_ HO_6.out); have n2_ := Aside0.mk (Kd.R_at hq_ HO_7.out); have n3_ := Aside0.mk (Kd.R_at hq_ HO334.out); have n4_ := Aside0.mk (below_at hq_ HB.out); clear hq_ HO_5 HO_6 HO_7 HO334 HB; have HO_5 := n0_; have HO_6 := n1_; have HO_7 := n2_; have HO334 := n3_; have HB := n4_; clear n0_ n1_ n2_ n3_ n4_; (try (have HX38 := Aside0.mk (show Kd.R k40 40 w37 w.heap.size (fun k_ => some k_ ≠ (.slice Ao11 t317.length co11 : Value).ownBlock) (.slice (some ⟨go33, 0, none⟩) y332.length co33) y332 from (pR HO334)))); (try (obtain ⟨ce38, hcl38, hM38, hcc38, hfr38⟩ := Kd.R_elem HX38.out z40 ((ji30) : Int) (of_decide_eq_true pA) (by have h_ : ((ji30) : Int) < ((y332.length : Int) : Int) := of_decide_eq_true pA; first | exact h_ | (have e_ := (Kd.R_reads' HO334.out).1; omega) | simpa using h_))); (try (obtain rfl := k40_openM hM38)); (try (have HP38 := Kd.R_seg HX38.out ((ji30) : Int) (of_decide_eq_true pA) (by have h_ : ((ji30) : Int) < ((y332.length : Int) : Int) := of_decide_eq_true pA; first | exact h_ | (have e_ := (Kd.R_reads' HO334.out).1; omega) | simpa using h_) (seg := [.bool true]) (j := 2) hcl38 hcc38 (show 3 ≤ 3 from by decide) (x' := (⟨(rd_T40 y332 (ji30)).f0, (rd_T40 y332 (ji30)).f1, true⟩ : S40)) (k40_mkM _ _ _ (⟨(rd_T40 y332 (ji30)).f0, (rd_T40 y332 (ji30)).f1, true⟩ : S40) ) (fun _ hk => hk))); (try (have hx38_2 := hcc38 2 _ rfl)); (try (try simp only [show (k40).sz = 3 from rfl, Nat.mul_one, Nat.add_zero] at hx38_2)); (try (have hf38_2 := hfr38 2)); (try (try simp only [show (k40).sz = 3 from rfl, Nat.mul_one, Nat.add_zero] at hf38_2)); (try (clear hcl38 hcc38 hfr38 hM38)))); refine store_event (t := 4) (p := 52) (v := ?vo_w39) (w1 := (w37.setCell ⟨go33, ((ji30) : Int).toNat * 3 + 2, none⟩ (.bool true))) ?hg ?ho ?hn ?hr ?_; (case ho => rfl); (case hg => rfl); (case hn => rfl); (case hr => first | (go_simp; done) | (go_simp; rfl)); intro w39 hw; have hg : w37.grownBy w39 (some go33) := (by rw [hw]; exact HP38.2); have hp_ : Kd.R k40 40 w39 w.heap.size (fun k_ => some k_ ≠ (.slice Ao11 t317.length co11 : Value).ownBlock) (.slice (some ⟨go33, 0, none⟩) y332.length co33) y335 := (by rw [hw, Ny335.out]; exact HP38.1); clear HP38; have n0_ := Aside0.mk (Kd.R_after (v := (.slice (some ⟨go33, 0, none⟩) y332.length co33)) (v1 := (.slice (some ⟨go33, 0, none⟩) y332.length co33)) (ok := (fun _ => True)) (pR HO_5) hg (.inl rfl)); have n1_ := Aside0.mk (Kd.R_over' (v := (.slice (some ⟨go33, 0, none⟩) y332.length co33)) (pR HO_6) (Kd.R_typed HO334.out) (by decide) hg); have n2_ := Aside0.mk (Kd.R_over' (v := (.slice (some ⟨go33, 0, none⟩) y332.length co33)) (pR HO_7) (Kd.R_typed HO334.out) (by decide) hg); have n3_ := Aside0.mk (hp_); have n4_ := Aside0.mk ((by rw [hw]; exact below_set (HB.out) GB33.out : Below w.heap.size w w39)); clear HO_5; clear HO_6; clear HO_7; clear HO334; clear HB; have HO_5 := n0_; have HO_6 := n1_; have HO_7 := n2_; have HO334 := n3_; have HB := n4_; clear n0_ n1_ n2_ n3_ n4_; clear hg hw hp_) | (go_at_call 22; refine calls_of_args (args' := #[.slice (some ⟨go33, 0, none⟩) y335.length co33]) (by first | (rw [show y335.length = y332.length from (Kd.R_reads' HO334.out).1.symm] <;> rfl) | rfl) ?_; (with_reducible refine (impl_TracesOf.calls kj8 _ _ y335 t336 _ ?side1 ?side2 A34.out).mono ?_); (case side1 => exact pS ((Kd.R_reads' HO334.out).2.2)); (case side2 => rw [show y335.length = y332.length from (Kd.R_reads' HO334.out).1.symm]; exact (Kd.R_reads' HO334.out).2.1); rintro e w40 ⟨v337, rfl, ho0, hb⟩; have n0_ := Aside0.mk (Kd.R_below (pR HO_5) hb); have n1_ := Aside0.mk (Kd.R_elder' (pR HO_6) (Kd.R_base ho0) hb); have n2_ := Aside0.mk (Kd.R_elder' (pR HO_7) (Kd.R_base ho0) hb); have n3_ := Aside0.mk (Kd.R_below (pR HO334) hb); have n4_ := Aside0.mk (Kd.R_lower (Kd.R_new' (Kd.R_new' ho0 (Kd.R_lt (pR HO_6))) (Kd.R_lt (pR HO_7))) (below_size pB)); have n5_ := Aside0.mk (below_step pB hb); clear HO_5; clear HO_6; clear HO_7; clear HO334; clear HB; have HO_5 := n0_; have HO_6 := n1_; have HO_7 := n2_; have HO334 := n3_; have HO338 := n4_; have HB := n5_; clear n0_ n1_ n2_ n3_ n4_ n5_; (try clear hb); (try clear hb2); (try clear hk); (try clear hi); (try clear ho0))))
           go_loopg [10] kj8 (fun kq v10 w' => ∃ (x10_3 : Int), v10 = .int .i64 x10_3 ∧ Aside0 (laws_FnTracesLess.l0 kq t320 t336 x10_3 = some r) ∧ Aside0 (kq ≤ kj8) ∧ Aside0 (Kd.R (Kd.int .i64) 3 w' w.heap.size (fun k_ => some k_ ≠ (v337 : Value).ownBlock) v321 t320) ∧ Aside0 (Kd.R (Kd.int .i64) 3 w' w.heap.size (fun k_ => some k_ ≠ (v321 : Value).ownBlock) v337 t336) ∧ Aside0 (Below w.heap.size w w'))
           case atStart => exact ⟨(0), pF, H', ⟨Nat.le_refl _⟩, ⟨by (with_reducible repeat (first | apply Kd.R_alloc | apply Kd.R_drewN | apply Kd.R_drew)); exact Kd.R_mono HO_6.out (fun _ hk => hk.2)⟩, ⟨by (with_reducible repeat (first | apply Kd.R_alloc | apply Kd.R_drewN | apply Kd.R_drew)); exact Kd.R_mono HO338.out (fun _ hk => hk.1.2)⟩, ⟨pB⟩⟩
           case round =>
            clear H'
            try clear c1
            try clear c2
            try clear p2
            try clear c3
            try clear p3
            try clear q3
            try clear hx3
            try clear hf3
            try clear c4
            try clear c4b0
            try clear c4b1
            try clear c5
            try clear c8
            try clear c15
            try clear c17
            try clear c24
            try clear c28
            try clear c29
            try clear c29b0
            try clear c29b1
            try clear c29b2
            try clear c31
            try clear c31b0
            try clear c32
            try clear c32b0
            try clear c33
            try clear p33
            try clear q33
            try clear hx33
            try clear hf33
            try clear c38
            try clear hx38
            try clear hf38
            try clear hx33_0
            try clear hx33_1
            try clear hx33_2
            try clear hx38_2
            try clear p2
            try clear p33
            try clear q33
            obtain ⟨x10_3, rfl, HA, HK3, HO_6, HO_9, HB⟩ := hrel
            cases gk with
            | zero => exact absurd HA.out (by simp [laws_FnTracesLess.l0])
            | succ k3 =>
             have H := HA.out
             clear HA
             simp only [laws_FnTracesLess.l0] at H
             have HC41 := Aside0.mk H
             clear H
             go_upto_region 12 with (fail)
             repeat (go_quiet (fail); go_upto_region 12 with (fail))
             go_cut [64] (fun v64 wc => ∃ (kq : Nat) (x64_40 : Bool), v64 = .bool x64_40 ∧ Aside0 (laws_FnTracesLess.j3 kq t320 t336 x10_3 x64_40 = some r) ∧ Aside0 (kq ≤ k3) ∧ Aside0 (Kd.R (Kd.int .i64) 3 wc w.heap.size (fun k_ => some k_ ≠ (v337 : Value).ownBlock) v321 t320) ∧ Aside0 (Kd.R (Kd.int .i64) 3 wc w.heap.size (fun k_ => some k_ ≠ (v321 : Value).ownBlock) v337 t336) ∧ Aside0 (Below w.heap.size w wc))
             case first =>
              have H := HC41.out
              clear HC41
              by_cases c42 : x10_3 < (t336.length : Int)
              ·rw [if_pos c42] at H
               have c42b0 : decide (x10_3 < (t336.length : Int)) = true := decide_eq_true c42
               clear c42
               (first | rw [c42b0] | (simp only [i64_w, i32_w]; rw [c42b0]) | skip)
               have H' := Aside0.mk H
               clear H
               obtain ⟨Ao43, co43, eo43⟩ := Kd.R_slice HO_9.out
               subst eo43
               obtain ⟨Ao44, co44, eo44⟩ := Kd.R_slice HO_6.out
               subst eo44
               go_wp2
               repeat (go_quiet (fail); try go_wp2)
               go_meet
               case rel => exact ⟨_, (decide (x10_3 < (t320.length : Int))), pF, H', ⟨by have := HJ2.out; have := HJ8.out; have := HK3.out; first | omega | exact Nat.le_refl _⟩, ⟨pR HO_6⟩, ⟨pR HO_9⟩, ⟨pB⟩⟩
              ·rw [if_neg c42] at H
               have c42b0 : decide (x10_3 < (t336.length : Int)) = false := decide_eq_false c42
               clear c42
               (first | rw [c42b0] | (simp only [i64_w, i32_w]; rw [c42b0]) | skip)
               have H' := Aside0.mk H
               clear H
               obtain ⟨Ao45, co45, eo45⟩ := Kd.R_slice HO_9.out
               subst eo45
               go_wp2
               repeat (go_quiet (fail); try go_wp2)
               go_meet
               case rel => exact ⟨_, (false), pF, H', ⟨by have := HJ2.out; have := HJ8.out; have := HK3.out; first | omega | exact Nat.le_refl _⟩, ⟨pR HO_6⟩, ⟨pR HO_9⟩, ⟨pB⟩⟩
             case rest =>
              clear HC41
              try clear c1
              try clear c2
              try clear p2
              try clear c3
              try clear p3
              try clear q3
              try clear hx3
              try clear hf3
              try clear c4
              try clear c4b0
              try clear c4b1
              try clear c5
              try clear c8
              try clear c15
              try clear c17
              try clear c24
              try clear c28
              try clear c29
              try clear c29b0
              try clear c29b1
              try clear c29b2
              try clear c31
              try clear c31b0
              try clear c32
              try clear c32b0
              try clear c33
              try clear p33
              try clear q33
              try clear hx33
              try clear hf33
              try clear c38
              try clear hx38
              try clear hf38
              try clear c42
              try clear c42b0
              try clear hx33_0
              try clear hx33_1
              try clear hx33_2
              try clear hx38_2
              try clear p2
              try clear p3
              try clear p33
              try clear q3
              try clear q33
              obtain ⟨kq, x64_40, rfl, HA, HJ40, HO_6, HO_9, HB⟩ := hcut
              cases kq with
              | zero => exact absurd HA.out (by simp [laws_FnTracesLess.j3])
              | succ kj40 =>
               have H := HA.out
               clear HA
               simp only [laws_FnTracesLess.j3] at H
               by_cases c46 : x64_40 = true
               ·subst c46
                have H1 : (if 0 ≤ x10_3 then (if x10_3 < (t336.length : Int) then (if x10_3 < (t320.length : Int) then ((impl_AllergensJoin.f (rd t336 x10_3) (rd t320 x10_3)).bind fun t341 => (if t341 = (rd t320 x10_3) then (laws_FnTracesLess.l0 kj40 t320 t336 (wrap64 (x10_3 + 1))) else (some false))) else (none)) else (none)) else (none)) = some r := by rw [if_pos rfl] at H; exact H
                clear H
                have H := H1
                clear H1
                by_cases c47 : 0 ≤ x10_3
                ·rw [if_pos c47] at H
                 have c47b0 : decide (0 ≤ x10_3) = true := decide_eq_true c47
                 clear c47
                 by_cases c48 : x10_3 < (t336.length : Int)
                 ·rw [if_pos c48] at H
                  have c48b0 : decide (x10_3 < (t336.length : Int)) = true := decide_eq_true c48
                  clear c48
                  by_cases c49 : x10_3 < (t320.length : Int)
                  ·rw [if_pos c49] at H
                   have c49b0 : decide (x10_3 < (t320.length : Int)) = true := decide_eq_true c49
                   clear c49
                   replace H := Option.bind_eq_some_iff.mp H
                   obtain ⟨t341, A500, H⟩ := H
                   replace H : (if t341 = (rd t320 x10_3) then (laws_FnTracesLess.l0 kj40 t320 t336 (wrap64 (x10_3 + 1))) else (some false)) = some r := H
                   have A50 := Aside0.mk A500
                   clear A500
                   by_cases c51 : t341 = (rd t320 x10_3)
                   ·rw [if_pos c51] at H
                    have c51b0 : (t341 == (rd t320 x10_3)) = true := beq_iff_eq.mpr c51
                    have c51b1 : (t341 != (rd t320 x10_3)) = false := bne_eq_false_iff_eq.mpr c51
                    clear c51
                    have H' := Aside0.mk H
                    clear H
                    obtain ⟨Ao52, co52, eo52⟩ := Kd.R_slice HO_9.out
                    subst eo52
                    have p339 : 0 ≤ (x10_3 : Int) := of_decide_eq_true pA
                    have q339 : x10_3 < (t336.length : Int) := of_decide_eq_true pA
                    obtain ⟨ad339, e339, hx339_0⟩ := Kd.at_int (Kd.R_reads' HO_9.out).2.2 x10_3 p339 q339
                    cases e339
                    replace p339 := eq_true p339
                    replace q339 := eq_true q339
                    obtain ⟨Ao53, co53, eo53⟩ := Kd.R_slice HO_6.out
                    subst eo53
                    have p340 : 0 ≤ (x10_3 : Int) := of_decide_eq_true pA
                    have q340 : x10_3 < (t320.length : Int) := of_decide_eq_true pA
                    obtain ⟨ad340, e340, hx340_0⟩ := Kd.at_int (Kd.R_reads' HO_6.out).2.2 x10_3 p340 q340
                    cases e340
                    replace p340 := eq_true p340
                    replace q340 := eq_true q340
                    go_wp2_with (first | (go_at_call 26; (with_reducible refine (impl_AllergensJoin.calls (rd t336 x10_3) (rd t320 x10_3) t341 _ A50.out).mono ?_); rintro e w' ⟨rfl, ⟨nd, rfl⟩⟩; (try first | exact ⟨rfl, _, World.drewN_drewN _ _ _⟩ | exact ⟨rfl, _, Eq.trans (World.drewN_drewN _ _ _) (congrArg (World.drewN _) (Nat.add_assoc _ _ _))⟩); have p342 : 0 ≤ (x10_3 : Int) := of_decide_eq_true pA; have q342 : x10_3 < (t320.length : Int) := of_decide_eq_true pA; obtain ⟨ad342, e342, hx342_0⟩ := Kd.at_int (Kd.R_reads' HO_6.out).2.2 x10_3 p342 q342; obtain rfl : ad340 = ad342 := (by injection e342); replace p342 := eq_true p342; replace q342 := eq_true q342))
                    repeat (go_quiet (first | (go_at_call 26; (with_reducible refine (impl_AllergensJoin.calls (rd t336 x10_3) (rd t320 x10_3) t341 _ A50.out).mono ?_); rintro e w' ⟨rfl, ⟨nd, rfl⟩⟩; (try first | exact ⟨rfl, _, World.drewN_drewN _ _ _⟩ | exact ⟨rfl, _, Eq.trans (World.drewN_drewN _ _ _) (congrArg (World.drewN _) (Nat.add_assoc _ _ _))⟩); have p342 : 0 ≤ (x10_3 : Int) := of_decide_eq_true pA; have q342 : x10_3 < (t320.length : Int) := of_decide_eq_true pA; obtain ⟨ad342, e342, hx342_0⟩ := Kd.at_int (Kd.R_reads' HO_6.out).2.2 x10_3 p342 q342; obtain rfl : ad340 = ad342 := (by injection e342); replace p342 := eq_true p342; replace q342 := eq_true q342)); try go_wp2_with (first | (go_at_call 26; (with_reducible refine (impl_AllergensJoin.calls (rd t336 x10_3) (rd t320 x10_3) t341 _ A50.out).mono ?_); rintro e w' ⟨rfl, ⟨nd, rfl⟩⟩; (try first | exact ⟨rfl, _, World.drewN_drewN _ _ _⟩ | exact ⟨rfl, _, Eq.trans (World.drewN_drewN _ _ _) (congrArg (World.drewN _) (Nat.add_assoc _ _ _))⟩); have p342 : 0 ≤ (x10_3 : Int) := of_decide_eq_true pA; have q342 : x10_3 < (t320.length : Int) := of_decide_eq_true pA; obtain ⟨ad342, e342, hx342_0⟩ := Kd.at_int (Kd.R_reads' HO_6.out).2.2 x10_3 p342 q342; obtain rfl : ad340 = ad342 := (by injection e342); replace p342 := eq_true p342; replace q342 := eq_true q342)))
                    go_roundg kj40
                    case measure => have := HJ2.out; have := HJ8.out; have := HK3.out; have := HJ40.out; omega
                    case rel => exact ⟨(wrap64 (x10_3 + 1)), pF, H', ⟨by have := HJ2.out; have := HJ8.out; have := HK3.out; have := HJ40.out; omega⟩, ⟨pR HO_6⟩, ⟨pR HO_9⟩, ⟨pB⟩⟩
                   ·rw [if_neg c51] at H
                    have c51b0 : (t341 == (rd t320 x10_3)) = false := beq_eq_false_iff_ne.mpr c51
                    have c51b1 : (t341 != (rd t320 x10_3)) = true := bne_iff_ne.mpr c51
                    obtain rfl := Option.some.inj H
                    obtain ⟨Ao54, co54, eo54⟩ := Kd.R_slice HO_9.out
                    subst eo54
                    have p339 : 0 ≤ (x10_3 : Int) := of_decide_eq_true pA
                    have q339 : x10_3 < (t336.length : Int) := of_decide_eq_true pA
                    obtain ⟨ad339, e339, hx339_0⟩ := Kd.at_int (Kd.R_reads' HO_9.out).2.2 x10_3 p339 q339
                    cases e339
                    replace p339 := eq_true p339
                    replace q339 := eq_true q339
                    obtain ⟨Ao55, co55, eo55⟩ := Kd.R_slice HO_6.out
                    subst eo55
                    have p340 : 0 ≤ (x10_3 : Int) := of_decide_eq_true pA
                    have q340 : x10_3 < (t320.length : Int) := of_decide_eq_true pA
                    obtain ⟨ad340, e340, hx340_0⟩ := Kd.at_int (Kd.R_reads' HO_6.out).2.2 x10_3 p340 q340
                    cases e340
                    replace p340 := eq_true p340
                    replace q340 := eq_true q340
                    go_wp2_with (first | (go_at_call 26; (with_reducible refine (impl_AllergensJoin.calls (rd t336 x10_3) (rd t320 x10_3) t341 _ A50.out).mono ?_); rintro e w' ⟨rfl, ⟨nd, rfl⟩⟩; (try first | exact ⟨rfl, _, World.drewN_drewN _ _ _⟩ | exact ⟨rfl, _, Eq.trans (World.drewN_drewN _ _ _) (congrArg (World.drewN _) (Nat.add_assoc _ _ _))⟩); have p342 : 0 ≤ (x10_3 : Int) := of_decide_eq_true pA; have q342 : x10_3 < (t320.length : Int) := of_decide_eq_true pA; obtain ⟨ad342, e342, hx342_0⟩ := Kd.at_int (Kd.R_reads' HO_6.out).2.2 x10_3 p342 q342; obtain rfl : ad340 = ad342 := (by injection e342); replace p342 := eq_true p342; replace q342 := eq_true q342))
                    repeat (go_quiet (first | (go_at_call 26; (with_reducible refine (impl_AllergensJoin.calls (rd t336 x10_3) (rd t320 x10_3) t341 _ A50.out).mono ?_); rintro e w' ⟨rfl, ⟨nd, rfl⟩⟩; (try first | exact ⟨rfl, _, World.drewN_drewN _ _ _⟩ | exact ⟨rfl, _, Eq.trans (World.drewN_drewN _ _ _) (congrArg (World.drewN _) (Nat.add_assoc _ _ _))⟩); have p342 : 0 ≤ (x10_3 : Int) := of_decide_eq_true pA; have q342 : x10_3 < (t320.length : Int) := of_decide_eq_true pA; obtain ⟨ad342, e342, hx342_0⟩ := Kd.at_int (Kd.R_reads' HO_6.out).2.2 x10_3 p342 q342; obtain rfl : ad340 = ad342 := (by injection e342); replace p342 := eq_true p342; replace q342 := eq_true q342)); try go_wp2_with (first | (go_at_call 26; (with_reducible refine (impl_AllergensJoin.calls (rd t336 x10_3) (rd t320 x10_3) t341 _ A50.out).mono ?_); rintro e w' ⟨rfl, ⟨nd, rfl⟩⟩; (try first | exact ⟨rfl, _, World.drewN_drewN _ _ _⟩ | exact ⟨rfl, _, Eq.trans (World.drewN_drewN _ _ _) (congrArg (World.drewN _) (Nat.add_assoc _ _ _))⟩); have p342 : 0 ≤ (x10_3 : Int) := of_decide_eq_true pA; have q342 : x10_3 < (t320.length : Int) := of_decide_eq_true pA; obtain ⟨ad342, e342, hx342_0⟩ := Kd.at_int (Kd.R_reads' HO_6.out).2.2 x10_3 p342 q342; obtain rfl : ad340 = ad342 := (by injection e342); replace p342 := eq_true p342; replace q342 := eq_true q342)))
                    go_ret
                    exact ⟨by first | rfl | (simp [errW_none, errW_some] <;> rfl) | (simp only [← hji30]; first | rfl | (simp [errW_none, errW_some] <;> rfl)) | (simp [*, errW_none, errW_some] <;> rfl), pB⟩
                  ·rw [if_neg c49] at H
                   exact absurd H (by simp)
                 ·rw [if_neg c48] at H
                  exact absurd H (by simp)
                ·rw [if_neg c47] at H
                 exact absurd H (by simp)
               ·replace c46 := Bool.eq_false_iff.mpr c46
                subst c46
                have H1 : (some ((t336.length : Int) == (t320.length : Int))) = some r := by rw [if_neg (show ¬ (false = true) by decide)] at H; exact H
                clear H
                have H := H1
                clear H1
                obtain rfl := Option.some.inj H
                obtain ⟨Ao56, co56, eo56⟩ := Kd.R_slice HO_9.out
                subst eo56
                obtain ⟨Ao57, co57, eo57⟩ := Kd.R_slice HO_6.out
                subst eo57
                go_wp2
                repeat (go_quiet (fail); try go_wp2)
                go_ret
                exact ⟨by first | rfl | (simp [errW_none, errW_some] <;> rfl) | (simp only [← hji30]; first | rfl | (simp [errW_none, errW_some] <;> rfl)) | (simp [*, errW_none, errW_some] <;> rfl), pB⟩
          ·rw [if_neg c32] at H
           exact absurd H (by simp)
         ·rw [if_neg c31] at H
          exact absurd H (by simp)
       ·rw [if_neg c28] at H
        exact absurd H (by simp)

/-- THE ONE PURE STATEMENT of laws_FnTracesLess: yours. -/
def laws_FnTracesLess.Pure : Prop := ∀ (l0 : List Int) (l1 : List Int), l0.length ≤ maxLen → l0.length * 1 ≤ 140737488351232 → (∀ x ∈ l0, (Lit.int .u8 x).wf = true) → l1.length ≤ maxLen → l1.length * 1 ≤ 140737488351232 → (∀ x ∈ l1, (Lit.int .u8 x).wf = true) → ∃ k, laws_FnTracesLess.f k l0 l1 = some true
theorem laws_FnTracesLess.walk (P : laws_FnTracesLess.Pure) (a0 : Option Addr) (len0 cap0 : Nat) (z0 : List Int) (a1 : Option Addr) (len1 cap1 : Nat) (z1 : List Int) (w : World) (w0 : (a0 = none ∧ len0 = 0 ∧ cap0 = 0 ∧ z0 = []) ∨ ∃ x, a0 = some x ∧ len0 ≤ cap0 ∧ cap0 ≤ maxLen ∧ z0.length = cap0 ∧ (∀ i, i < z0.length → w.cell? (x.add i) = some (.int .u8 (z0.getD i 0))) ∧ ∀ n ∈ z0, (Lit.int .u8 n).wf = true) (y0 : len0 * 1 ≤ 140737488351232) (w1 : (a1 = none ∧ len1 = 0 ∧ cap1 = 0 ∧ z1 = []) ∨ ∃ x, a1 = some x ∧ len1 ≤ cap1 ∧ cap1 ≤ maxLen ∧ z1.length = cap1 ∧ (∀ i, i < z1.length → w.cell? (x.add i) = some (.int .u8 (z1.getD i 0))) ∧ ∀ n ∈ z1, (Lit.int .u8 n).wf = true) (y1 : len1 * 1 ≤ 140737488351232) :
  Calls Try.prog 8 #[.slice a0 len0 cap0, .slice a1 len1 cap1] w fun e w' => e = .returned (.bool true) ∧ Below w.heap.size w w' := by
 obtain ⟨l0, rfl, hr0, hm0, hw0, hc0⟩ := ReadsInt.ofRowC w0
 obtain ⟨l1, rfl, hr1, hm1, hw1, hc1⟩ := ReadsInt.ofRowC w1
 obtain ⟨k, h⟩ := P l0 l1 hm0 y0 hw0 hm1 y1 hw1
 refine (laws_FnTracesLess.calls k _ _ l0 _ _ l1 true w (Kd.C_of_reads (d := (0 : Int)) (h1 := fun _ => rfl) hr0) hc0 (Kd.C_of_reads (d := (0 : Int)) (h1 := fun _ => rfl) hr1) hc1 h).mono ?_
 rintro e w' ⟨rfl, hd⟩
 exact ⟨rfl, hd⟩

end Go.Proofs.Ytglpjchpgjaanaa.Q
