-- Written by the kit's print.py for all laws of the seat at once (one namespace), by a program of this session.
import Derived.Test.YtglpjchpgjaanaaQx0
import Derived.Test.YtglpjchpgjaanaaQx3
import Derived.Test.YtglpjchpgjaanaaQx11
import Derived.Test.YtglpjchpgjaanaaQx12
import Derived.Test.YtglpjchpgjaanaaQx13
namespace Go.Proofs.Ytglpjchpgjaanaa.Q
open Go.RowKit Go.Proofs.YtglpjchpgjaanaaW.PrintWords Go.Proofs.YtglpjchpgjaanaaW.PrintLast Go.Proofs.YtglpjchpgjaanaaW.PrintMore
attribute [local go_sem] max2_int min2_int max_two min_two max_three min_three max_four min_four   -- for this text's walks alone
set_option linter.unusedVariables false
set_option linter.unusedSimpArgs false

/-! ### laws_FnTracesBegin: function 5 -/
mutual
def laws_FnTracesBegin.j0 : Nat → List Int → List Int → Bool → Option (Bool)
 | 0, _, _, _ => none
 | k + 1, x0, x1, x17 => if x17 = true then (some true) else ((spec_DrawTracesOf.f k x0).bind fun t242 => ((impl_TracesOf.f k t242).bind fun t245 => ((spec_TracesOf.f k t242).bind fun t248 => ((laws_sameInts.f k t245 t248).bind fun t251 => (if t251 = true then ((spec_UsesValid.f k t242).bind fun t252 => (laws_FnTracesBegin.j1 k x1 t242 t245 t248 (!t252))) else (laws_FnTracesBegin.j1 k x1 t242 t245 t248 true))))))
def laws_FnTracesBegin.j1 : Nat → List Int → List (S40) → List Int → List Int → Bool → Option (Bool)
 | 0, _, _, _, _, _ => none
 | k + 1, x1, x5, x6, x7, x32 => if x32 = true then ((laws_sameInts.f k x6 x7).bind fun t253 => (some t253)) else (if (wrap64 ((x5.length : Int) + 1)) = 0 then (none) else (if 0 ≤ ((x1.length : Int) % (wrap64 ((x5.length : Int) + 1))) then (if ((x1.length : Int) % (wrap64 ((x5.length : Int) + 1))) ≤ (x5.length : Int) then ((impl_TracesOf.f k (x5.take (((x1.length : Int) % (wrap64 ((x5.length : Int) + 1))) : Int).toNat)).bind fun t258 => (if (t258.length : Int) = ((x1.length : Int) % (wrap64 ((x5.length : Int) + 1))) then (if (x6.length : Int) = (x5.length : Int) then (if ((x1.length : Int) % (wrap64 ((x5.length : Int) + 1))) ≤ (x6.length : Int) then ((laws_sameInts.f k t258 (x6.take (((x1.length : Int) % (wrap64 ((x5.length : Int) + 1))) : Int).toNat)).bind fun t265 => (some t265)) else (none)) else (some false)) else (some false))) else (none)) else (none)))
end
def laws_FnTracesBegin.f (k : Nat) (l0 : List Int) (l1 : List Int) : Option (Bool) := if (l0.length : Int) > 1048576 then (laws_FnTracesBegin.j0 k l0 l1 true) else (laws_FnTracesBegin.j0 k l0 l1 (decide ((l1.length : Int) > 1048576)))
theorem laws_FnTracesBegin.mono_l : ∀ k, (∀ y0 y1 y2, LeO (laws_FnTracesBegin.j0 k y0 y1 y2) (laws_FnTracesBegin.j0 (k + 1) y0 y1 y2)) ∧ (∀ y0 y1 y2 y3 y4, LeO (laws_FnTracesBegin.j1 k y0 y1 y2 y3 y4) (laws_FnTracesBegin.j1 (k + 1) y0 y1 y2 y3 y4))
 | 0 => ⟨fun _ _ _ r h => by simp [laws_FnTracesBegin.j0] at h, fun _ _ _ _ _ r h => by simp [laws_FnTracesBegin.j1] at h⟩
 | k + 1 => by
  obtain ⟨ih0, ih1⟩ := laws_FnTracesBegin.mono_l k
  refine ⟨?_, ?_⟩
  ·intro y0 y1 y2
   unfold laws_FnTracesBegin.j0
   repeat' first
   | (with_reducible exact ih0 _ _ _)
   | (with_reducible exact ih1 _ _ _ _ _)
   | (with_reducible exact impl_TracesOf.mono _ _)
   | (with_reducible exact laws_sameInts.mono _ _ _)
   | (with_reducible exact spec_DrawTracesOf.mono _ _)
   | (with_reducible exact spec_TracesOf.mono _ _)
   | (with_reducible exact spec_UsesValid.mono _ _)
   | (with_reducible exact LeO.refl _)
   | (with_reducible exact LeO.none _)
   | (with_reducible refine LeO.ite ?_ ?_)
   | (with_reducible refine LeO.bind ?_ (fun _ => ?_))
   | exact ih0 _ _ _
   | exact ih1 _ _ _ _ _
   | exact impl_TracesOf.mono _ _
   | exact laws_sameInts.mono _ _ _
   | exact spec_DrawTracesOf.mono _ _
   | exact spec_TracesOf.mono _ _
   | exact spec_UsesValid.mono _ _
   | exact LeO.none _
   | refine LeO.ite ?_ ?_
   | refine LeO.bind ?_ (fun _ => ?_)
  ·intro y0 y1 y2 y3 y4
   unfold laws_FnTracesBegin.j1
   repeat' first
   | (with_reducible exact ih0 _ _ _)
   | (with_reducible exact ih1 _ _ _ _ _)
   | (with_reducible exact impl_TracesOf.mono _ _)
   | (with_reducible exact laws_sameInts.mono _ _ _)
   | (with_reducible exact spec_DrawTracesOf.mono _ _)
   | (with_reducible exact spec_TracesOf.mono _ _)
   | (with_reducible exact spec_UsesValid.mono _ _)
   | (with_reducible exact LeO.refl _)
   | (with_reducible exact LeO.none _)
   | (with_reducible refine LeO.ite ?_ ?_)
   | (with_reducible refine LeO.bind ?_ (fun _ => ?_))
   | exact ih0 _ _ _
   | exact ih1 _ _ _ _ _
   | exact impl_TracesOf.mono _ _
   | exact laws_sameInts.mono _ _ _
   | exact spec_DrawTracesOf.mono _ _
   | exact spec_TracesOf.mono _ _
   | exact spec_UsesValid.mono _ _
   | exact LeO.none _
   | refine LeO.ite ?_ ?_
   | refine LeO.bind ?_ (fun _ => ?_)
theorem laws_FnTracesBegin.mono : ∀ a0 a1 k, LeO (laws_FnTracesBegin.f k a0 a1) (laws_FnTracesBegin.f (k + 1) a0 a1) := by
 intro a0 a1 k
 obtain ⟨ih0, ih1⟩ := laws_FnTracesBegin.mono_l k
 unfold laws_FnTracesBegin.f
 repeat' first
   | (with_reducible exact ih0 _ _ _)
   | (with_reducible exact ih1 _ _ _ _ _)
   | (with_reducible exact impl_TracesOf.mono _ _)
   | (with_reducible exact laws_sameInts.mono _ _ _)
   | (with_reducible exact spec_DrawTracesOf.mono _ _)
   | (with_reducible exact spec_TracesOf.mono _ _)
   | (with_reducible exact spec_UsesValid.mono _ _)
   | (with_reducible exact LeO.refl _)
   | (with_reducible exact LeO.none _)
   | (with_reducible refine LeO.ite ?_ ?_)
   | (with_reducible refine LeO.bind ?_ (fun _ => ?_))
   | exact ih0 _ _ _
   | exact ih1 _ _ _ _ _
   | exact impl_TracesOf.mono _ _
   | exact laws_sameInts.mono _ _ _
   | exact spec_DrawTracesOf.mono _ _
   | exact spec_TracesOf.mono _ _
   | exact spec_UsesValid.mono _ _
   | exact LeO.none _
   | refine LeO.ite ?_ ?_
   | refine LeO.bind ?_ (fun _ => ?_)
set_option maxHeartbeats 8000000 in
set_option maxRecDepth 100000 in
theorem laws_FnTracesBegin.calls (k : Nat) (A0 : Option Addr) (c0 : Nat) (l0 : List Int) (A1 : Option Addr) (c1 : Nat) (l1 : List Int) (r : Bool) (w : World) (hr0 : Kd.C (Kd.int .u8) w A0 l0.length l0) (hc0 : l0.length ≤ c0) (hr1 : Kd.C (Kd.int .u8) w A1 l1.length l1) (hc1 : l1.length ≤ c1) (h : laws_FnTracesBegin.f k l0 l1 = some r) :
  Calls Try.prog 5 #[.slice A0 l0.length c0, .slice A1 l1.length c1] w fun e w' => e = .returned (.bool r) ∧ Below w.heap.size w w' := by
 have HR0 := Aside0.mk hr0
 have HC0 := Aside0.mk hc0
 clear hr0 hc0
 have HR1 := Aside0.mk hr1
 have HC1 := Aside0.mk hc1
 clear hr1 hc1
 have HB := Aside0.mk (Below.refl w.heap.size w)
 have H : (if (l0.length : Int) > 1048576 then (laws_FnTracesBegin.j0 k l0 l1 true) else (laws_FnTracesBegin.j0 k l0 l1 (decide ((l1.length : Int) > 1048576)))) = some r := h
 clear h
 have HC3 := Aside0.mk H
 clear H
 go_enter Try.func5, Try.ntmps5
 go_upto_region 1 with (fail)
 go_cut [17] (fun v17 wc => ∃ (kq : Nat) (x17_2 : Bool), v17 = .bool x17_2 ∧ Aside0 (laws_FnTracesBegin.j0 kq l0 l1 x17_2 = some r) ∧ Aside0 (kq ≤ k) ∧ Aside0 (Below w.heap.size w wc))
 case first =>
  have H := HC3.out
  clear HC3
  by_cases c4 : (l0.length : Int) > 1048576
  ·rw [if_pos c4] at H
   have c4b0 : decide (1048576 < (l0.length : Int)) = true := decide_eq_true c4
   have c4b1 : decide (1048576 < l0.length) = true := decide_eq_true (by omega)
   clear c4
   (first | rw [c4b0] | (simp only [i64_w, i32_w]; rw [c4b0]) | skip)
   have H' := Aside0.mk H
   clear H
   go_wp2
   go_meet
   case rel => exact ⟨_, (true), pF, H', ⟨by first | omega | exact Nat.le_refl _⟩, ⟨pB⟩⟩
  ·rw [if_neg c4] at H
   have c4b0 : decide (1048576 < (l0.length : Int)) = false := decide_eq_false c4
   have c4b1 : decide (1048576 < l0.length) = false := decide_eq_false (by omega)
   clear c4
   (first | rw [c4b0] | (simp only [i64_w, i32_w]; rw [c4b0]) | skip)
   have H' := Aside0.mk H
   clear H
   go_wp2
   go_meet
   case rel => exact ⟨_, (decide ((l1.length : Int) > 1048576)), pF, H', ⟨by first | omega | exact Nat.le_refl _⟩, ⟨pB⟩⟩
 case rest =>
  clear HC3
  try clear c1
  try clear p2
  try clear c4
  try clear c4b0
  try clear c4b1
  obtain ⟨kq, x17_2, rfl, HA, HJ2, HB⟩ := hcut
  cases kq with
  | zero => exact absurd HA.out (by simp [laws_FnTracesBegin.j0])
  | succ kj2 =>
   have H := HA.out
   clear HA
   simp only [laws_FnTracesBegin.j0] at H
   by_cases c5 : x17_2 = true
   ·subst c5
    have H1 : (some true) = some r := by rw [if_pos rfl] at H; exact H
    clear H
    have H := H1
    clear H1
    obtain rfl := Option.some.inj H
    go_wp2
    go_ret
    exact ⟨pE, pB⟩
   ·replace c5 := Bool.eq_false_iff.mpr c5
    subst c5
    have H1 : ((spec_DrawTracesOf.f kj2 l0).bind fun t242 => ((impl_TracesOf.f kj2 t242).bind fun t245 => ((spec_TracesOf.f kj2 t242).bind fun t248 => ((laws_sameInts.f kj2 t245 t248).bind fun t251 => (if t251 = true then ((spec_UsesValid.f kj2 t242).bind fun t252 => (laws_FnTracesBegin.j1 kj2 l1 t242 t245 t248 (!t252))) else (laws_FnTracesBegin.j1 kj2 l1 t242 t245 t248 true)))))) = some r := by rw [if_neg (show ¬ (false = true) by decide)] at H; exact H
    clear H
    have H := H1
    clear H1
    replace H := Option.bind_eq_some_iff.mp H
    obtain ⟨t242, A60, H⟩ := H
    replace H : ((impl_TracesOf.f kj2 t242).bind fun t245 => ((spec_TracesOf.f kj2 t242).bind fun t248 => ((laws_sameInts.f kj2 t245 t248).bind fun t251 => (if t251 = true then ((spec_UsesValid.f kj2 t242).bind fun t252 => (laws_FnTracesBegin.j1 kj2 l1 t242 t245 t248 (!t252))) else (laws_FnTracesBegin.j1 kj2 l1 t242 t245 t248 true))))) = some r := H
    have A6 := Aside0.mk A60
    clear A60
    replace H := Option.bind_eq_some_iff.mp H
    obtain ⟨t245, A70, H⟩ := H
    replace H : ((spec_TracesOf.f kj2 t242).bind fun t248 => ((laws_sameInts.f kj2 t245 t248).bind fun t251 => (if t251 = true then ((spec_UsesValid.f kj2 t242).bind fun t252 => (laws_FnTracesBegin.j1 kj2 l1 t242 t245 t248 (!t252))) else (laws_FnTracesBegin.j1 kj2 l1 t242 t245 t248 true)))) = some r := H
    have A7 := Aside0.mk A70
    clear A70
    replace H := Option.bind_eq_some_iff.mp H
    obtain ⟨t248, A80, H⟩ := H
    replace H : ((laws_sameInts.f kj2 t245 t248).bind fun t251 => (if t251 = true then ((spec_UsesValid.f kj2 t242).bind fun t252 => (laws_FnTracesBegin.j1 kj2 l1 t242 t245 t248 (!t252))) else (laws_FnTracesBegin.j1 kj2 l1 t242 t245 t248 true))) = some r := H
    have A8 := Aside0.mk A80
    clear A80
    have HC9 := Aside0.mk H
    clear H
    go_upto_region 6 with (first | ((with_reducible refine gate_callee (f := 21) rfl ?_); refine goesL_ (some 19) rfl rfl Try.func21 pL rfl #[.slice A0 l0.length c0] rfl pM ?_; (with_reducible refine (spec_DrawTracesOf.calls kj2 _ _ l0 t242 _ ?side1 ?side2 A6.out).mono ?_); (case side1 => exact pS ((Kd.C_below HR0.out HB.out))); (case side2 => exact HC0.out); rintro e w10 ⟨v243, rfl, ho0, hb⟩; refine ⟨_, rfl, ?_⟩; have n0_ := Aside0.mk (Kd.R_lower ho0 (below_size pB)); have n1_ := Aside0.mk (below_step pB hb); clear HB; have HO244 := n0_; have HB := n1_; clear n0_ n1_; (try clear hb); (try clear hb2); (try clear hk); (try clear hi); (try clear ho0); obtain ⟨Ao11, co11, eo11⟩ := Kd.R_slice HO244.out; subst eo11) | ((with_reducible refine gate_callee (f := 22) rfl ?_); refine goesL_ (some 21) rfl rfl Try.func22 pL rfl #[.slice Ao11 t242.length co11] rfl pM ?_; (with_reducible refine (impl_TracesOf.calls kj2 _ _ t242 t245 _ ?side1 ?side2 A7.out).mono ?_); (case side1 => exact pS ((Kd.R_reads' HO244.out).2.2)); (case side2 => exact (Kd.R_reads' HO244.out).2.1); rintro e w12 ⟨v246, rfl, ho0, hb⟩; refine ⟨_, rfl, ?_⟩; have n0_ := Aside0.mk (Kd.R_below (pR HO244) hb); have n1_ := Aside0.mk (Kd.R_lower ho0 (below_size pB)); have n2_ := Aside0.mk (below_step pB hb); clear HO244; clear HB; have HO244 := n0_; have HO247 := n1_; have HB := n2_; clear n0_ n1_ n2_; (try clear hb); (try clear hb2); (try clear hk); (try clear hi); (try clear ho0)) | ((with_reducible refine gate_callee (f := 23) rfl ?_); refine goesL_ (some 23) rfl rfl Try.func23 pL rfl #[.slice Ao11 t242.length co11] rfl pM ?_; (with_reducible refine (spec_TracesOf.calls kj2 _ _ t242 t248 _ ?side1 ?side2 A8.out).mono ?_); (case side1 => exact pS ((Kd.R_reads' HO244.out).2.2)); (case side2 => exact (Kd.R_reads' HO244.out).2.1); rintro e w13 ⟨v249, rfl, ho0, hb⟩; refine ⟨_, rfl, ?_⟩; have n0_ := Aside0.mk (Kd.R_below (pR HO244) hb); have n1_ := Aside0.mk (Kd.R_elder' (pR HO247) (Kd.R_base ho0) hb); have n2_ := Aside0.mk (Kd.R_lower (Kd.R_new' ho0 (Kd.R_lt (pR HO247))) (below_size pB)); have n3_ := Aside0.mk (below_step pB hb); clear HO244; clear HO247; clear HB; have HO244 := n0_; have HO247 := n1_; have HO250 := n2_; have HB := n3_; clear n0_ n1_ n2_ n3_; (try clear hb); (try clear hb2); (try clear hk); (try clear hi); (try clear ho0)))
    (try simp only [Act.put, List.setIfInBounds_toArray, List.set_cons_zero, List.set_cons_succ])
    go_cut [32] (fun v32 wc => ∃ (kq : Nat) (x32_8 : Bool), v32 = .bool x32_8 ∧ Aside0 (laws_FnTracesBegin.j1 kq l1 t242 t245 t248 x32_8 = some r) ∧ Aside0 (kq ≤ kj2) ∧ Aside0 (Kd.R k40 40 wc w.heap.size (fun _ => True) (.slice Ao11 t242.length co11) t242) ∧ Aside0 (Kd.R (Kd.int .i64) 3 wc w.heap.size (fun k_ => some k_ ≠ (v249 : Value).ownBlock) v246 t245) ∧ Aside0 (Kd.R (Kd.int .i64) 3 wc w.heap.size (fun k_ => some k_ ≠ (v246 : Value).ownBlock) v249 t248) ∧ Aside0 (Below w.heap.size w wc))
    case first =>
     have H := HC9.out
     clear HC9
     replace H := Option.bind_eq_some_iff.mp H
     obtain ⟨t251, A140, H⟩ := H
     replace H : (if t251 = true then ((spec_UsesValid.f kj2 t242).bind fun t252 => (laws_FnTracesBegin.j1 kj2 l1 t242 t245 t248 (!t252))) else (laws_FnTracesBegin.j1 kj2 l1 t242 t245 t248 true)) = some r := H
     have A14 := Aside0.mk A140
     clear A140
     by_cases c15 : t251 = true
     ·subst c15
      have H1 : ((spec_UsesValid.f kj2 t242).bind fun t252 => (laws_FnTracesBegin.j1 kj2 l1 t242 t245 t248 (!t252))) = some r := by rw [if_pos rfl] at H; exact H
      clear H
      have H := H1
      clear H1
      replace H := Option.bind_eq_some_iff.mp H
      obtain ⟨t252, A160, H⟩ := H
      replace H : (laws_FnTracesBegin.j1 kj2 l1 t242 t245 t248 (!t252)) = some r := H
      have A16 := Aside0.mk A160
      clear A160
      have H' := Aside0.mk H
      clear H
      obtain ⟨Ao17, co17, eo17⟩ := Kd.R_slice HO247.out
      subst eo17
      obtain ⟨Ao18, co18, eo18⟩ := Kd.R_slice HO250.out
      subst eo18
      go_wp2_with (first | ((with_reducible refine gate_callee (f := 24) rfl ?_); refine goesL_ (some 26) rfl rfl Try.func24 pL rfl #[.slice Ao17 t245.length co17, .slice Ao18 t248.length co18] rfl pM ?_; (with_reducible refine (laws_sameInts.calls kj2 _ _ t245 _ _ t248 true _ ?side1 ?side2 ?side3 ?side4 A14.out).mono ?_); (case side1 => exact pS ((Kd.R_reads' HO247.out).2.2)); (case side2 => exact (Kd.R_reads' HO247.out).2.1); (case side3 => exact pS ((Kd.R_reads' HO250.out).2.2)); (case side4 => exact (Kd.R_reads' HO250.out).2.1); rintro e w' ⟨rfl, ⟨nd, rfl⟩⟩; refine ⟨_, rfl, ?_⟩) | (go_at_call 15; (with_reducible refine (spec_UsesValid.calls kj2 _ _ t242 t252 _ ?side1 ?side2 A16.out).mono ?_); (case side1 => exact pS ((Kd.R_reads' HO244.out).2.2)); (case side2 => exact (Kd.R_reads' HO244.out).2.1); rintro e w' ⟨rfl, ⟨nd, rfl⟩⟩))
      go_meet
      case rel => exact ⟨_, (!t252), pF, H', ⟨by have := HJ2.out; first | omega | exact Nat.le_refl _⟩, ⟨pR HO244⟩, ⟨by (with_reducible repeat (first | apply Kd.R_alloc | apply Kd.R_drewN | apply Kd.R_drew)); exact Kd.R_mono HO247.out (fun _ hk => hk.2)⟩, ⟨by (with_reducible repeat (first | apply Kd.R_alloc | apply Kd.R_drewN | apply Kd.R_drew)); exact Kd.R_mono HO250.out (fun _ hk => hk.2)⟩, ⟨pB⟩⟩
     ·replace c15 := Bool.eq_false_iff.mpr c15
      subst c15
      have H1 : (laws_FnTracesBegin.j1 kj2 l1 t242 t245 t248 true) = some r := by rw [if_neg (show ¬ (false = true) by decide)] at H; exact H
      clear H
      have H := H1
      clear H1
      have H' := Aside0.mk H
      clear H
      obtain ⟨Ao19, co19, eo19⟩ := Kd.R_slice HO247.out
      subst eo19
      obtain ⟨Ao20, co20, eo20⟩ := Kd.R_slice HO250.out
      subst eo20
      go_wp2_with (first | ((with_reducible refine gate_callee (f := 24) rfl ?_); refine goesL_ (some 26) rfl rfl Try.func24 pL rfl #[.slice Ao19 t245.length co19, .slice Ao20 t248.length co20] rfl pM ?_; (with_reducible refine (laws_sameInts.calls kj2 _ _ t245 _ _ t248 false _ ?side1 ?side2 ?side3 ?side4 A14.out).mono ?_); (case side1 => exact pS ((Kd.R_reads' HO247.out).2.2)); (case side2 => exact (Kd.R_reads' HO247.out).2.1); (case side3 => exact pS ((Kd.R_reads' HO250.out).2.2)); (case side4 => exact (Kd.R_reads' HO250.out).2.1); rintro e w' ⟨rfl, ⟨nd, rfl⟩⟩; refine ⟨_, rfl, ?_⟩))
      go_meet
      case rel => exact ⟨_, (true), pF, H', ⟨by have := HJ2.out; first | omega | exact Nat.le_refl _⟩, ⟨pR HO244⟩, ⟨by (with_reducible repeat (first | apply Kd.R_alloc | apply Kd.R_drewN | apply Kd.R_drew)); exact Kd.R_mono HO247.out (fun _ hk => hk.2)⟩, ⟨by (with_reducible repeat (first | apply Kd.R_alloc | apply Kd.R_drewN | apply Kd.R_drew)); exact Kd.R_mono HO250.out (fun _ hk => hk.2)⟩, ⟨pB⟩⟩
    case rest =>
     clear HC9
     try clear c1
     try clear c2
     try clear p2
     try clear c4
     try clear c4b0
     try clear c4b1
     try clear c5
     try clear c15
     try clear p2
     obtain ⟨kq, x32_8, rfl, HA, HJ8, HO_5, HO_6, HO_7, HB⟩ := hcut
     cases kq with
     | zero => exact absurd HA.out (by simp [laws_FnTracesBegin.j1])
     | succ kj8 =>
      have H := HA.out
      clear HA
      simp only [laws_FnTracesBegin.j1] at H
      by_cases c21 : x32_8 = true
      ·subst c21
       have H1 : ((laws_sameInts.f kj8 t245 t248).bind fun t253 => (some t253)) = some r := by rw [if_pos rfl] at H; exact H
       clear H
       have H := H1
       clear H1
       replace H := Option.bind_eq_some_iff.mp H
       obtain ⟨t253, A220, H⟩ := H
       replace H : (some t253) = some r := H
       have A22 := Aside0.mk A220
       clear A220
       obtain rfl := Option.some.inj H
       obtain ⟨Ao23, co23, eo23⟩ := Kd.R_slice HO_6.out
       subst eo23
       obtain ⟨Ao24, co24, eo24⟩ := Kd.R_slice HO_7.out
       subst eo24
       go_wp2_with (first | ((with_reducible refine gate_callee (f := 24) rfl ?_); refine goesL_ (some 35) rfl rfl Try.func24 pL rfl #[.slice Ao23 t245.length co23, .slice Ao24 t248.length co24] rfl pM ?_; (with_reducible refine (laws_sameInts.calls kj8 _ _ t245 _ _ t248 t253 _ ?side1 ?side2 ?side3 ?side4 A22.out).mono ?_); (case side1 => exact pS ((Kd.R_reads' HO_6.out).2.2)); (case side2 => exact (Kd.R_reads' HO_6.out).2.1); (case side3 => exact pS ((Kd.R_reads' HO_7.out).2.2)); (case side4 => exact (Kd.R_reads' HO_7.out).2.1); rintro e w' ⟨rfl, ⟨nd, rfl⟩⟩; refine ⟨_, rfl, ?_⟩))
       go_ret
       exact ⟨pE, pB⟩
      ·replace c21 := Bool.eq_false_iff.mpr c21
       subst c21
       have H1 : (if (wrap64 ((t242.length : Int) + 1)) = 0 then (none) else (if 0 ≤ ((l1.length : Int) % (wrap64 ((t242.length : Int) + 1))) then (if ((l1.length : Int) % (wrap64 ((t242.length : Int) + 1))) ≤ (t242.length : Int) then ((impl_TracesOf.f kj8 (t242.take (((l1.length : Int) % (wrap64 ((t242.length : Int) + 1))) : Int).toNat)).bind fun t258 => (if (t258.length : Int) = ((l1.length : Int) % (wrap64 ((t242.length : Int) + 1))) then (if (t245.length : Int) = (t242.length : Int) then (if ((l1.length : Int) % (wrap64 ((t242.length : Int) + 1))) ≤ (t245.length : Int) then ((laws_sameInts.f kj8 t258 (t245.take (((l1.length : Int) % (wrap64 ((t242.length : Int) + 1))) : Int).toNat)).bind fun t265 => (some t265)) else (none)) else (some false)) else (some false))) else (none)) else (none))) = some r := by rw [if_neg (show ¬ (false = true) by decide)] at H; exact H
       clear H
       have H := H1
       clear H1
       by_cases c25 : (wrap64 ((t242.length : Int) + 1)) = 0
       ·rw [if_pos c25] at H
        exact absurd H (by simp)
       ·rw [if_neg c25] at H
        have c25b0 : ((wrap64 ((t242.length : Int) + 1)) == 0) = false := beq_eq_false_iff_ne.mpr c25
        have c25b1 : ((wrap64 ((t242.length : Int) + 1)) != 0) = true := bne_iff_ne.mpr c25
        obtain ⟨ji26, hji26⟩ : ∃ j_ : Int, ((l1.length : Int) % (wrap64 ((t242.length : Int) + 1))) = j_ := ⟨_, rfl⟩
        replace H : (if 0 ≤ (ji26) then (if (ji26) ≤ (t242.length : Int) then ((impl_TracesOf.f kj8 (t242.take ((ji26) : Int).toNat)).bind fun t258 => (if (t258.length : Int) = (ji26) then (if (t245.length : Int) = (t242.length : Int) then (if (ji26) ≤ (t245.length : Int) then ((laws_sameInts.f kj8 t258 (t245.take ((ji26) : Int).toNat)).bind fun t265 => (some t265)) else (none)) else (some false)) else (some false))) else (none)) else (none)) = some r := by first | (rw [hji26] at H; exact H) | (simp only [hji26] at H ⊢; exact H)
        by_cases c27 : 0 ≤ (ji26)
        ·rw [if_pos c27] at H
         have c27b0 := eq_true c27
         have c27b1 : decide (0 ≤ (ji26)) = true := decide_eq_true c27
         clear c27
         by_cases c28 : (ji26) ≤ (t242.length : Int)
         ·rw [if_pos c28] at H
          have c28b0 := eq_true c28
          have c28b1 : decide ((ji26) ≤ (t242.length : Int)) = true := decide_eq_true c28
          clear c28
          obtain ⟨y254, hy254⟩ : ∃ y_ : List (S40), y_ = (t242.take ((ji26) : Int).toNat) := ⟨_, rfl⟩
          replace H : ((impl_TracesOf.f kj8 y254).bind fun t258 => (if (t258.length : Int) = (ji26) then (if (t245.length : Int) = (t242.length : Int) then (if (ji26) ≤ (t245.length : Int) then ((laws_sameInts.f kj8 t258 (t245.take ((ji26) : Int).toNat)).bind fun t265 => (some t265)) else (none)) else (some false)) else (some false))) = some r := by first | (rw [hy254]; with_reducible exact H) | (have H2_ := (Option.bind_some _ _).symm.trans H; rw [hy254]; with_reducible exact H2_) | (have H2_ := (Option.bind_some _ _).symm.trans H; with_reducible exact H2_) | with_reducible exact H | (rw [hy254]; exact H) | exact H
          have Ny254 := Aside0.mk hy254
          clear hy254
          replace H := Option.bind_eq_some_iff.mp H
          obtain ⟨t258, A290, H⟩ := H
          replace H : (if (t258.length : Int) = (ji26) then (if (t245.length : Int) = (t242.length : Int) then (if (ji26) ≤ (t245.length : Int) then ((laws_sameInts.f kj8 t258 (t245.take ((ji26) : Int).toNat)).bind fun t265 => (some t265)) else (none)) else (some false)) else (some false)) = some r := H
          have A29 := Aside0.mk A290
          clear A290
          by_cases c30 : (t258.length : Int) = (ji26)
          ·rw [if_pos c30] at H
           have c30b0 : ((t258.length : Int) == (ji26)) = true := beq_iff_eq.mpr c30
           have c30b1 : ((t258.length : Int) != (ji26)) = false := bne_eq_false_iff_eq.mpr c30
           clear c30
           by_cases c31 : (t245.length : Int) = (t242.length : Int)
           ·rw [if_pos c31] at H
            have c31b0 : ((t245.length : Int) == (t242.length : Int)) = true := beq_iff_eq.mpr c31
            have c31b1 : ((t245.length : Int) != (t242.length : Int)) = false := bne_eq_false_iff_eq.mpr c31
            have c31b2 : (t245.length == t242.length) = true := by first | simpa using c31 | (simp at c31 ⊢; omega)
            clear c31
            have c32b0 := eq_true (of_decide_eq_true pA : 0 ≤ (ji26))
            by_cases c33 : (ji26) ≤ (t245.length : Int)
            ·rw [if_pos c33] at H
             have c33b0 := eq_true c33
             have c33b1 : decide ((ji26) ≤ (t245.length : Int)) = true := decide_eq_true c33
             clear c33
             obtain ⟨y261, hy261⟩ : ∃ y_ : List Int, y_ = (t245.take ((ji26) : Int).toNat) := ⟨_, rfl⟩
             replace H : ((laws_sameInts.f kj8 t258 y261).bind fun t265 => (some t265)) = some r := by first | (rw [hy261]; with_reducible exact H) | (have H2_ := (Option.bind_some _ _).symm.trans H; rw [hy261]; with_reducible exact H2_) | (have H2_ := (Option.bind_some _ _).symm.trans H; with_reducible exact H2_) | with_reducible exact H | (rw [hy261]; exact H) | exact H
             have Ny261 := Aside0.mk hy261
             clear hy261
             replace H := Option.bind_eq_some_iff.mp H
             obtain ⟨t265, A340, H⟩ := H
             replace H : (some t265) = some r := H
             have A34 := Aside0.mk A340
             clear A340
             obtain rfl := Option.some.inj H
             have q35 : ((ji26) : Int) ≤ ((t242.length : Int) : Int) := of_decide_eq_true pA
             obtain ⟨i035, hi035, _, hsz35, _⟩ := info_parts info40
             have hroom35 : t242.length ≤ co11 := (Kd.R_reads' HO_5.out).2.1
             have hC35 : Kd.C k40 _ Ao11 t242.length t242 := (Kd.R_reads' HO_5.out).2.2
             have hcut35 := cut_to (P := Try.prog) 25 40 .i64 Try.underlying25 hi035 Ao11 t242.length co11 (ji26) (of_decide_eq_true pA) q35 hroom35
             have hr35 := Kd.C_take (m := ((ji26) : Int).toNat) hC35 (by omega)
             have hy35 : y254.length = ((ji26) : Int).toNat := (by rw [Ny254.out, List.length_take]; omega)
             rw [← Ny254.out] at hr35
             rw [← hy35] at hcut35
             have HR257 := Aside0.mk hr35
             have HC257 := Aside0.mk (show y254.length ≤ co11 from by omega)
             clear hr35 hC35 hroom35 hi035 hsz35
             have KY35 := Aside0.mk hy35
             clear hy35
             have KL35 := Aside0.mk (show ((ji26) : Int).toNat ≤ t242.length from by omega)
             replace q35 := eq_true q35
             go_wp2_with (first | ((with_reducible refine gate_callee (f := 22) rfl ?_); refine goesL_ (some 45) rfl rfl Try.func22 pL rfl #[.slice Ao11 y254.length co11] rfl pM ?_; (with_reducible refine (impl_TracesOf.calls kj8 _ _ y254 t258 _ ?side1 ?side2 A29.out).mono ?_); (case side1 => repeat (first | exact (by repeat (first | (with_reducible exact HR257.out) | (with_reducible refine Kd.C_alloc ?_ _) | (with_reducible refine Kd.C_drewN ?_ _) | (with_reducible refine Kd.C_drew ?_) | exact HR257.out)) | (with_reducible refine Kd.C_alloc ?_ _) | (with_reducible refine Kd.C_drewN ?_ _) | (with_reducible refine Kd.C_drew ?_))); (case side2 => exact HC257.out); rintro e w36 ⟨v259, rfl, ho0, hb⟩; refine ⟨_, rfl, ?_⟩; have n0_ := Aside0.mk (Kd.R_below (pR HO_5) hb); have n1_ := Aside0.mk (Kd.R_elder' (pR HO_6) (Kd.R_base ho0) hb); have n2_ := Aside0.mk (Kd.R_elder' (pR HO_7) (Kd.R_base ho0) hb); have n3_ := Aside0.mk (Kd.R_lower (Kd.R_new' (Kd.R_new' ho0 (Kd.R_lt (pR HO_6))) (Kd.R_lt (pR HO_7))) (below_size pB)); have n4_ := Aside0.mk (Kd.C_below (by repeat (first | (with_reducible exact HR257.out) | (with_reducible refine Kd.C_alloc ?_ _) | (with_reducible refine Kd.C_drewN ?_ _) | (with_reducible refine Kd.C_drew ?_) | exact HR257.out)) hb); have n5_ := Aside0.mk (below_step pB hb); clear HO_5; clear HO_6; clear HO_7; clear HR257; clear HB; have HO_5 := n0_; have HO_6 := n1_; have HO_7 := n2_; have HO260 := n3_; have HR257 := n4_; have HB := n5_; clear n0_ n1_ n2_ n3_ n4_ n5_; (try clear hb); (try clear hb2); (try clear hk); (try clear hi); (try clear ho0); obtain ⟨Ao37, co37, eo37⟩ := Kd.R_slice HO260.out; subst eo37; obtain ⟨Ao38, co38, eo38⟩ := Kd.R_slice HO_6.out; subst eo38; have q39 : ((ji26) : Int) ≤ ((t245.length : Int) : Int) := of_decide_eq_true pA; obtain ⟨i039, hi039, _, hsz39, _⟩ := info_parts info3; have hroom39 : t245.length ≤ co38 := (Kd.R_reads' HO_6.out).2.1; have hC39 : Kd.C (Kd.int .i64) _ Ao38 t245.length t245 := (Kd.R_reads' HO_6.out).2.2; have hcut39 := cut_to (P := Try.prog) 33 3 .i64 Try.underlying33 hi039 Ao38 t245.length co38 (ji26) (of_decide_eq_true pA) q39 hroom39; have hr39 := Kd.C_take (m := ((ji26) : Int).toNat) hC39 (by omega); have hy39 : y261.length = ((ji26) : Int).toNat := (by rw [Ny261.out, List.length_take]; omega); rw [← Ny261.out] at hr39; rw [← hy39] at hcut39; have HR264 := Aside0.mk hr39; have HC264 := Aside0.mk (show y261.length ≤ co38 from by omega); clear hr39 hC39 hroom39 hi039 hsz39; have KY39 := Aside0.mk hy39; clear hy39; have KL39 := Aside0.mk (show ((ji26) : Int).toNat ≤ t245.length from by omega); replace q39 := eq_true q39) | (go_at_call 24; (with_reducible refine (laws_sameInts.calls kj8 _ _ t258 _ _ y261 t265 _ ?side1 ?side2 ?side3 ?side4 A34.out).mono ?_); (case side1 => exact pS ((Kd.R_reads' HO260.out).2.2)); (case side2 => exact (Kd.R_reads' HO260.out).2.1); (case side3 => repeat (first | exact (by repeat (first | (with_reducible exact HR264.out) | (with_reducible refine Kd.C_alloc ?_ _) | (with_reducible refine Kd.C_drewN ?_ _) | (with_reducible refine Kd.C_drew ?_) | exact HR264.out)) | (with_reducible refine Kd.C_alloc ?_ _) | (with_reducible refine Kd.C_drewN ?_ _) | (with_reducible refine Kd.C_drew ?_))); (case side4 => exact HC264.out); rintro e w' ⟨rfl, ⟨nd, rfl⟩⟩))
             go_ret
             exact ⟨by first | rfl | (simp [errW_none, errW_some] <;> rfl) | (simp only [← hji26]; first | rfl | (simp [errW_none, errW_some] <;> rfl)) | (simp [*, errW_none, errW_some] <;> rfl), pB⟩
            ·rw [if_neg c33] at H
             exact absurd H (by simp)
           ·rw [if_neg c31] at H
            have c31b0 : ((t245.length : Int) == (t242.length : Int)) = false := beq_eq_false_iff_ne.mpr c31
            have c31b1 : ((t245.length : Int) != (t242.length : Int)) = true := bne_iff_ne.mpr c31
            have c31b2 : (t245.length == t242.length) = false := by first | simpa using c31 | (simp at c31 ⊢; omega)
            obtain rfl := Option.some.inj H
            have q40 : ((ji26) : Int) ≤ ((t242.length : Int) : Int) := of_decide_eq_true pA
            obtain ⟨i040, hi040, _, hsz40, _⟩ := info_parts info40
            have hroom40 : t242.length ≤ co11 := (Kd.R_reads' HO_5.out).2.1
            have hC40 : Kd.C k40 _ Ao11 t242.length t242 := (Kd.R_reads' HO_5.out).2.2
            have hcut40 := cut_to (P := Try.prog) 25 40 .i64 Try.underlying25 hi040 Ao11 t242.length co11 (ji26) (of_decide_eq_true pA) q40 hroom40
            have hr40 := Kd.C_take (m := ((ji26) : Int).toNat) hC40 (by omega)
            have hy40 : y254.length = ((ji26) : Int).toNat := (by rw [Ny254.out, List.length_take]; omega)
            rw [← Ny254.out] at hr40
            rw [← hy40] at hcut40
            have HR257 := Aside0.mk hr40
            have HC257 := Aside0.mk (show y254.length ≤ co11 from by omega)
            clear hr40 hC40 hroom40 hi040 hsz40
            have KY40 := Aside0.mk hy40
            clear hy40
            have KL40 := Aside0.mk (show ((ji26) : Int).toNat ≤ t242.length from by omega)
            replace q40 := eq_true q40
            go_wp2_with (first | ((with_reducible refine gate_callee (f := 22) rfl ?_); refine goesL_ (some 45) rfl rfl Try.func22 pL rfl #[.slice Ao11 y254.length co11] rfl pM ?_; (with_reducible refine (impl_TracesOf.calls kj8 _ _ y254 t258 _ ?side1 ?side2 A29.out).mono ?_); (case side1 => repeat (first | exact (by repeat (first | (with_reducible exact HR257.out) | (with_reducible refine Kd.C_alloc ?_ _) | (with_reducible refine Kd.C_drewN ?_ _) | (with_reducible refine Kd.C_drew ?_) | exact HR257.out)) | (with_reducible refine Kd.C_alloc ?_ _) | (with_reducible refine Kd.C_drewN ?_ _) | (with_reducible refine Kd.C_drew ?_))); (case side2 => exact HC257.out); rintro e w41 ⟨v259, rfl, ho0, hb⟩; refine ⟨_, rfl, ?_⟩; have n0_ := Aside0.mk (Kd.R_below (pR HO_5) hb); have n1_ := Aside0.mk (Kd.R_elder' (pR HO_6) (Kd.R_base ho0) hb); have n2_ := Aside0.mk (Kd.R_elder' (pR HO_7) (Kd.R_base ho0) hb); have n3_ := Aside0.mk (Kd.R_lower (Kd.R_new' (Kd.R_new' ho0 (Kd.R_lt (pR HO_6))) (Kd.R_lt (pR HO_7))) (below_size pB)); have n4_ := Aside0.mk (Kd.C_below (by repeat (first | (with_reducible exact HR257.out) | (with_reducible refine Kd.C_alloc ?_ _) | (with_reducible refine Kd.C_drewN ?_ _) | (with_reducible refine Kd.C_drew ?_) | exact HR257.out)) hb); have n5_ := Aside0.mk (below_step pB hb); clear HO_5; clear HO_6; clear HO_7; clear HR257; clear HB; have HO_5 := n0_; have HO_6 := n1_; have HO_7 := n2_; have HO260 := n3_; have HR257 := n4_; have HB := n5_; clear n0_ n1_ n2_ n3_ n4_ n5_; (try clear hb); (try clear hb2); (try clear hk); (try clear hi); (try clear ho0); obtain ⟨Ao42, co42, eo42⟩ := Kd.R_slice HO260.out; subst eo42; obtain ⟨Ao43, co43, eo43⟩ := Kd.R_slice HO_6.out; subst eo43))
            go_ret
            exact ⟨by first | rfl | (simp [errW_none, errW_some] <;> rfl) | (simp only [← hji26]; first | rfl | (simp [errW_none, errW_some] <;> rfl)) | (simp [*, errW_none, errW_some] <;> rfl), pB⟩
          ·rw [if_neg c30] at H
           have c30b0 : ((t258.length : Int) == (ji26)) = false := beq_eq_false_iff_ne.mpr c30
           have c30b1 : ((t258.length : Int) != (ji26)) = true := bne_iff_ne.mpr c30
           obtain rfl := Option.some.inj H
           have q44 : ((ji26) : Int) ≤ ((t242.length : Int) : Int) := of_decide_eq_true pA
           obtain ⟨i044, hi044, _, hsz44, _⟩ := info_parts info40
           have hroom44 : t242.length ≤ co11 := (Kd.R_reads' HO_5.out).2.1
           have hC44 : Kd.C k40 _ Ao11 t242.length t242 := (Kd.R_reads' HO_5.out).2.2
           have hcut44 := cut_to (P := Try.prog) 25 40 .i64 Try.underlying25 hi044 Ao11 t242.length co11 (ji26) (of_decide_eq_true pA) q44 hroom44
           have hr44 := Kd.C_take (m := ((ji26) : Int).toNat) hC44 (by omega)
           have hy44 : y254.length = ((ji26) : Int).toNat := (by rw [Ny254.out, List.length_take]; omega)
           rw [← Ny254.out] at hr44
           rw [← hy44] at hcut44
           have HR257 := Aside0.mk hr44
           have HC257 := Aside0.mk (show y254.length ≤ co11 from by omega)
           clear hr44 hC44 hroom44 hi044 hsz44
           have KY44 := Aside0.mk hy44
           clear hy44
           have KL44 := Aside0.mk (show ((ji26) : Int).toNat ≤ t242.length from by omega)
           replace q44 := eq_true q44
           go_wp2_with (first | ((with_reducible refine gate_callee (f := 22) rfl ?_); refine goesL_ (some 45) rfl rfl Try.func22 pL rfl #[.slice Ao11 y254.length co11] rfl pM ?_; (with_reducible refine (impl_TracesOf.calls kj8 _ _ y254 t258 _ ?side1 ?side2 A29.out).mono ?_); (case side1 => repeat (first | exact (by repeat (first | (with_reducible exact HR257.out) | (with_reducible refine Kd.C_alloc ?_ _) | (with_reducible refine Kd.C_drewN ?_ _) | (with_reducible refine Kd.C_drew ?_) | exact HR257.out)) | (with_reducible refine Kd.C_alloc ?_ _) | (with_reducible refine Kd.C_drewN ?_ _) | (with_reducible refine Kd.C_drew ?_))); (case side2 => exact HC257.out); rintro e w45 ⟨v259, rfl, ho0, hb⟩; refine ⟨_, rfl, ?_⟩; have n0_ := Aside0.mk (Kd.R_below (pR HO_5) hb); have n1_ := Aside0.mk (Kd.R_elder' (pR HO_6) (Kd.R_base ho0) hb); have n2_ := Aside0.mk (Kd.R_elder' (pR HO_7) (Kd.R_base ho0) hb); have n3_ := Aside0.mk (Kd.R_lower (Kd.R_new' (Kd.R_new' ho0 (Kd.R_lt (pR HO_6))) (Kd.R_lt (pR HO_7))) (below_size pB)); have n4_ := Aside0.mk (Kd.C_below (by repeat (first | (with_reducible exact HR257.out) | (with_reducible refine Kd.C_alloc ?_ _) | (with_reducible refine Kd.C_drewN ?_ _) | (with_reducible refine Kd.C_drew ?_) | exact HR257.out)) hb); have n5_ := Aside0.mk (below_step pB hb); clear HO_5; clear HO_6; clear HO_7; clear HR257; clear HB; have HO_5 := n0_; have HO_6 := n1_; have HO_7 := n2_; have HO260 := n3_; have HR257 := n4_; have HB := n5_; clear n0_ n1_ n2_ n3_ n4_ n5_; (try clear hb); (try clear hb2); (try clear hk); (try clear hi); (try clear ho0); obtain ⟨Ao46, co46, eo46⟩ := Kd.R_slice HO260.out; subst eo46))
           go_ret
           exact ⟨by first | rfl | (simp [errW_none, errW_some] <;> rfl) | (simp only [← hji26]; first | rfl | (simp [errW_none, errW_some] <;> rfl)) | (simp [*, errW_none, errW_some] <;> rfl), pB⟩
         ·rw [if_neg c28] at H
          exact absurd H (by simp)
        ·rw [if_neg c27] at H
         exact absurd H (by simp)

/-- THE ONE PURE STATEMENT of laws_FnTracesBegin: yours. -/
def laws_FnTracesBegin.Pure : Prop := ∀ (l0 : List Int) (l1 : List Int), l0.length ≤ maxLen → l0.length * 1 ≤ 140737488351232 → (∀ x ∈ l0, (Lit.int .u8 x).wf = true) → l1.length ≤ maxLen → l1.length * 1 ≤ 140737488351232 → (∀ x ∈ l1, (Lit.int .u8 x).wf = true) → ∃ k, laws_FnTracesBegin.f k l0 l1 = some true
theorem laws_FnTracesBegin.walk (P : laws_FnTracesBegin.Pure) (a0 : Option Addr) (len0 cap0 : Nat) (z0 : List Int) (a1 : Option Addr) (len1 cap1 : Nat) (z1 : List Int) (w : World) (w0 : (a0 = none ∧ len0 = 0 ∧ cap0 = 0 ∧ z0 = []) ∨ ∃ x, a0 = some x ∧ len0 ≤ cap0 ∧ cap0 ≤ maxLen ∧ z0.length = cap0 ∧ (∀ i, i < z0.length → w.cell? (x.add i) = some (.int .u8 (z0.getD i 0))) ∧ ∀ n ∈ z0, (Lit.int .u8 n).wf = true) (y0 : len0 * 1 ≤ 140737488351232) (w1 : (a1 = none ∧ len1 = 0 ∧ cap1 = 0 ∧ z1 = []) ∨ ∃ x, a1 = some x ∧ len1 ≤ cap1 ∧ cap1 ≤ maxLen ∧ z1.length = cap1 ∧ (∀ i, i < z1.length → w.cell? (x.add i) = some (.int .u8 (z1.getD i 0))) ∧ ∀ n ∈ z1, (Lit.int .u8 n).wf = true) (y1 : len1 * 1 ≤ 140737488351232) :
  Calls Try.prog 5 #[.slice a0 len0 cap0, .slice a1 len1 cap1] w fun e w' => e = .returned (.bool true) ∧ Below w.heap.size w w' := by
 obtain ⟨l0, rfl, hr0, hm0, hw0, hc0⟩ := ReadsInt.ofRowC w0
 obtain ⟨l1, rfl, hr1, hm1, hw1, hc1⟩ := ReadsInt.ofRowC w1
 obtain ⟨k, h⟩ := P l0 l1 hm0 y0 hw0 hm1 y1 hw1
 refine (laws_FnTracesBegin.calls k _ _ l0 _ _ l1 true w (Kd.C_of_reads (d := (0 : Int)) (h1 := fun _ => rfl) hr0) hc0 (Kd.C_of_reads (d := (0 : Int)) (h1 := fun _ => rfl) hr1) hc1 h).mono ?_
 rintro e w' ⟨rfl, hd⟩
 exact ⟨rfl, hd⟩

end Go.Proofs.Ytglpjchpgjaanaa.Q
