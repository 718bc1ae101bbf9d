-- Written by the kit's print.py for all laws of the seat at once (one namespace), by a program of this session.
import Derived.Test.YtglpjchpgjaanaaQx0
import Derived.Test.YtglpjchpgjaanaaQx2
import Derived.Test.YtglpjchpgjaanaaQx3
namespace Go.Proofs.Ytglpjchpgjaanaa.Q
open Go.RowKit Go.Proofs.YtglpjchpgjaanaaW.PrintWords Go.Proofs.YtglpjchpgjaanaaW.PrintLast Go.Proofs.YtglpjchpgjaanaaW.PrintMore
attribute [local go_sem] max2_int min2_int max_two min_two max_three min_three max_four min_four   -- for this text's walks alone
set_option linter.unusedVariables false
set_option linter.unusedSimpArgs false

/-! ### laws_FnExactUsesValid: function 3 -/
def laws_FnExactUsesValid.f (k : Nat) (l0 : List (S53)) : Option (Bool) := (laws_szUseS.f l0 1048576).bind fun t128 => (if t128 < 0 then (some true) else ((laws_toUseS.f k l0).bind fun t129 => ((spec_UsesValid.f k t129).bind fun t132 => ((laws_toUseS.f k l0).bind fun t133 => ((impl_UsesValid.f k t133).bind fun t136 => (if (t136 != t132) = true then (some false) else ((laws_toUseS.f k l0).bind fun t137 => ((laws_eqUseS.f k t133 t137).bind fun t140 => (if t140 = true then (some true) else (some false))))))))))
theorem laws_FnExactUsesValid.mono : ∀ a0 k, LeO (laws_FnExactUsesValid.f k a0) (laws_FnExactUsesValid.f (k + 1) a0) := by
 intro a0 k
 unfold laws_FnExactUsesValid.f
 repeat' first
   | (with_reducible exact impl_UsesValid.mono _ _)
   | (with_reducible exact laws_eqUseS.mono _ _ _)
   | (with_reducible exact laws_toUseS.mono _ _)
   | (with_reducible exact spec_UsesValid.mono _ _)
   | (with_reducible exact LeO.refl _)
   | (with_reducible exact LeO.none _)
   | (with_reducible refine LeO.ite ?_ ?_)
   | (with_reducible refine LeO.bind ?_ (fun _ => ?_))
   | exact impl_UsesValid.mono _ _
   | exact laws_eqUseS.mono _ _ _
   | exact laws_toUseS.mono _ _
   | exact spec_UsesValid.mono _ _
   | exact LeO.none _
   | refine LeO.ite ?_ ?_
   | refine LeO.bind ?_ (fun _ => ?_)
set_option maxHeartbeats 8000000 in
set_option maxRecDepth 100000 in
theorem laws_FnExactUsesValid.calls (k : Nat) (A0 : Option Addr) (c0 : Nat) (l0 : List (S53)) (r : Bool) (w : World) (hr0 : Kd.C k53 w A0 l0.length l0) (hc0 : l0.length ≤ c0) (h : laws_FnExactUsesValid.f k l0 = some r) :
  Calls Try.prog 3 #[.slice A0 l0.length c0] w fun e w' => e = .returned (.bool r) ∧ Below w.heap.size w w' := by
 have HR0 := Aside0.mk hr0
 have HC0 := Aside0.mk hc0
 clear hr0 hc0
 have HB := Aside0.mk (Below.refl w.heap.size w)
 have H : ((laws_szUseS.f l0 1048576).bind fun t128 => (if t128 < 0 then (some true) else ((laws_toUseS.f k l0).bind fun t129 => ((spec_UsesValid.f k t129).bind fun t132 => ((laws_toUseS.f k l0).bind fun t133 => ((impl_UsesValid.f k t133).bind fun t136 => (if (t136 != t132) = true then (some false) else ((laws_toUseS.f k l0).bind fun t137 => ((laws_eqUseS.f k t133 t137).bind fun t140 => (if t140 = true then (some true) else (some false))))))))))) = some r := h
 clear h
 replace H := Option.bind_eq_some_iff.mp H
 obtain ⟨t128, A20, H⟩ := H
 replace H : (if t128 < 0 then (some true) else ((laws_toUseS.f k l0).bind fun t129 => ((spec_UsesValid.f k t129).bind fun t132 => ((laws_toUseS.f k l0).bind fun t133 => ((impl_UsesValid.f k t133).bind fun t136 => (if (t136 != t132) = true then (some false) else ((laws_toUseS.f k l0).bind fun t137 => ((laws_eqUseS.f k t133 t137).bind fun t140 => (if t140 = true then (some true) else (some false)))))))))) = some r := H
 have A2 := Aside0.mk A20
 clear A20
 by_cases c3 : t128 < 0
 ·rw [if_pos c3] at H
  have c3b0 : decide (t128 < 0) = true := decide_eq_true c3
  clear c3
  obtain rfl := Option.some.inj H
  go_enter Try.func3, Try.ntmps3
  go_wp2_with (first | ((with_reducible refine gate_callee (f := 14) rfl ?_); refine goesL_ (some 9) rfl rfl Try.func14 pL rfl #[.slice A0 l0.length c0, .int .i64 1048576] rfl pM ?_; (with_reducible refine (laws_szUseS.calls _ _ l0 1048576 t128 _ ?side1 ?side2 A2.out).mono ?_); (case side1 => exact pS (HR0.out)); (case side2 => exact HC0.out); rintro e w' ⟨rfl, ⟨nd, rfl⟩⟩; refine ⟨_, rfl, ?_⟩))
  go_ret
  exact ⟨pE, pB⟩
 ·rw [if_neg c3] at H
  have c3b0 : decide (t128 < 0) = false := decide_eq_false c3
  clear c3
  replace H := Option.bind_eq_some_iff.mp H
  obtain ⟨t129, A40, H⟩ := H
  replace H : ((spec_UsesValid.f k t129).bind fun t132 => ((laws_toUseS.f k l0).bind fun t133 => ((impl_UsesValid.f k t133).bind fun t136 => (if (t136 != t132) = true then (some false) else ((laws_toUseS.f k l0).bind fun t137 => ((laws_eqUseS.f k t133 t137).bind fun t140 => (if t140 = true then (some true) else (some false)))))))) = some r := H
  have A4 := Aside0.mk A40
  clear A40
  replace H := Option.bind_eq_some_iff.mp H
  obtain ⟨t132, A50, H⟩ := H
  replace H : ((laws_toUseS.f k l0).bind fun t133 => ((impl_UsesValid.f k t133).bind fun t136 => (if (t136 != t132) = true then (some false) else ((laws_toUseS.f k l0).bind fun t137 => ((laws_eqUseS.f k t133 t137).bind fun t140 => (if t140 = true then (some true) else (some false))))))) = some r := H
  have A5 := Aside0.mk A50
  clear A50
  replace H := Option.bind_eq_some_iff.mp H
  obtain ⟨t133, A60, H⟩ := H
  replace H : ((impl_UsesValid.f k t133).bind fun t136 => (if (t136 != t132) = true then (some false) else ((laws_toUseS.f k l0).bind fun t137 => ((laws_eqUseS.f k t133 t137).bind fun t140 => (if t140 = true then (some true) else (some false)))))) = some r := H
  have A6 := Aside0.mk A60
  clear A60
  replace H := Option.bind_eq_some_iff.mp H
  obtain ⟨t136, A70, H⟩ := H
  replace H : (if (t136 != t132) = true then (some false) else ((laws_toUseS.f k l0).bind fun t137 => ((laws_eqUseS.f k t133 t137).bind fun t140 => (if t140 = true then (some true) else (some false))))) = some r := H
  have A7 := Aside0.mk A70
  clear A70
  by_cases c8 : (t136 != t132) = true
  ·rw [if_pos c8] at H
   have c8b0 : (t136 != t132) = true := c8
   (try (have c8b1 : decide (t136 = t132) = false := by simpa using c8))
   (try (have c8b2 : (t136 == t132) = false := by simpa using c8))
   (try (have c8b3 : ¬ (t136 = t132) := by simpa using c8))
   clear c8
   obtain rfl := Option.some.inj H
   go_enter Try.func3, Try.ntmps3
   go_wp2_with (first | ((with_reducible refine gate_callee (f := 14) rfl ?_); refine goesL_ (some 9) rfl rfl Try.func14 pL rfl #[.slice A0 l0.length c0, .int .i64 1048576] rfl pM ?_; (with_reducible refine (laws_szUseS.calls _ _ l0 1048576 t128 _ ?side1 ?side2 A2.out).mono ?_); (case side1 => exact pS (HR0.out)); (case side2 => exact HC0.out); rintro e w' ⟨rfl, ⟨nd, rfl⟩⟩; refine ⟨_, rfl, ?_⟩) | ((with_reducible refine gate_callee (f := 16) rfl ?_); refine goesL_ (some 13) rfl rfl Try.func16 pL rfl #[.slice A0 l0.length c0] rfl pM ?_; (with_reducible refine (laws_toUseS.calls k _ _ l0 t129 _ ?side1 ?side2 A4.out).mono ?_); (case side1 => exact pS (HR0.out)); (case side2 => exact HC0.out); rintro e w9 ⟨v130, rfl, ho0, hb⟩; refine ⟨_, rfl, ?_⟩; have n0_ := Aside0.mk (Kd.R_lower ho0 (below_size pB)); have n1_ := Aside0.mk (below_step pB hb); clear HB; have HO131 := n0_; have HB := n1_; clear n0_ n1_; (try clear hb); (try clear hb2); (try clear hk); (try clear hi); (try clear ho0); obtain ⟨Ao10, co10, eo10⟩ := Kd.R_slice HO131.out; subst eo10) | ((with_reducible refine gate_callee (f := 15) rfl ?_); refine goesL_ (some 14) rfl rfl Try.func15 pL rfl #[.slice Ao10 t129.length co10] rfl pM ?_; (with_reducible refine (spec_UsesValid.calls k _ _ t129 t132 _ ?side1 ?side2 A5.out).mono ?_); (case side1 => exact pS ((Kd.R_reads' HO131.out).2.2)); (case side2 => exact (Kd.R_reads' HO131.out).2.1); rintro e w' ⟨rfl, ⟨nd, rfl⟩⟩; refine ⟨_, rfl, ?_⟩) | ((with_reducible refine gate_callee (f := 16) rfl ?_); refine goesL_ (some 16) rfl rfl Try.func16 pL rfl #[.slice A0 l0.length c0] rfl pM ?_; (with_reducible refine (laws_toUseS.calls k _ _ l0 t133 _ ?side1 ?side2 A6.out).mono ?_); (case side1 => exact pS ((Kd.C_below HR0.out pB))); (case side2 => exact HC0.out); rintro e w11 ⟨v134, rfl, ho0, hb⟩; refine ⟨_, rfl, ?_⟩; have n0_ := Aside0.mk (Kd.R_elder' (pR HO131) (Kd.R_base ho0) hb); have n1_ := Aside0.mk (Kd.R_lower (Kd.R_new' ho0 (Kd.R_lt (pR HO131))) (below_size pB)); have n2_ := Aside0.mk (below_step pB hb); clear HO131; clear HB; have HO131 := n0_; have HO135 := n1_; have HB := n2_; clear n0_ n1_ n2_; (try clear hb); (try clear hb2); (try clear hk); (try clear hi); (try clear ho0); obtain ⟨Ao12, co12, eo12⟩ := Kd.R_slice HO135.out; subst eo12) | ((with_reducible refine gate_callee (f := 17) rfl ?_); refine goesL_ (some 18) rfl rfl Try.func17 pL rfl #[.slice Ao12 t133.length co12] rfl pM ?_; (with_reducible refine (impl_UsesValid.calls k _ _ t133 t136 _ ?side1 ?side2 A7.out).mono ?_); (case side1 => exact pS ((Kd.R_reads' HO135.out).2.2)); (case side2 => exact (Kd.R_reads' HO135.out).2.1); rintro e w13 ⟨rfl, hb⟩; refine ⟨_, rfl, ?_⟩; have n0_ := Aside0.mk (Kd.R_below (pR HO131) hb); have n1_ := Aside0.mk (Kd.R_below (pR HO135) hb); have n2_ := Aside0.mk (below_step pB hb); clear HO131; clear HO135; clear HB; have HO131 := n0_; have HO135 := n1_; have HB := n2_; clear n0_ n1_ n2_; (try clear hb); (try clear hb2); (try clear hk); (try clear hi)))
   go_ret
   exact ⟨pE, pB⟩
  ·rw [if_neg c8] at H
   have c8b0 : (t136 != t132) = false := by simpa using c8
   (try (have c8b1 : decide (t136 = t132) = true := by simpa using c8))
   (try (have c8b2 : (t136 == t132) = true := by simpa using c8))
   clear c8
   replace H := Option.bind_eq_some_iff.mp H
   obtain ⟨t137, A140, H⟩ := H
   replace H : ((laws_eqUseS.f k t133 t137).bind fun t140 => (if t140 = true then (some true) else (some false))) = some r := H
   have A14 := Aside0.mk A140
   clear A140
   replace H := Option.bind_eq_some_iff.mp H
   obtain ⟨t140, A150, H⟩ := H
   replace H : (if t140 = true then (some true) else (some false)) = some r := H
   have A15 := Aside0.mk A150
   clear A150
   by_cases c16 : t140 = true
   ·subst c16
    have H1 : (some true) = some r := by rw [if_pos rfl] at H; exact H
    clear H
    have H := H1
    clear H1
    obtain rfl := Option.some.inj H
    go_enter Try.func3, Try.ntmps3
    go_wp2_with (first | ((with_reducible refine gate_callee (f := 14) rfl ?_); refine goesL_ (some 9) rfl rfl Try.func14 pL rfl #[.slice A0 l0.length c0, .int .i64 1048576] rfl pM ?_; (with_reducible refine (laws_szUseS.calls _ _ l0 1048576 t128 _ ?side1 ?side2 A2.out).mono ?_); (case side1 => exact pS (HR0.out)); (case side2 => exact HC0.out); rintro e w' ⟨rfl, ⟨nd, rfl⟩⟩; refine ⟨_, rfl, ?_⟩) | ((with_reducible refine gate_callee (f := 16) rfl ?_); refine goesL_ (some 13) rfl rfl Try.func16 pL rfl #[.slice A0 l0.length c0] rfl pM ?_; (with_reducible refine (laws_toUseS.calls k _ _ l0 t129 _ ?side1 ?side2 A4.out).mono ?_); (case side1 => exact pS (HR0.out)); (case side2 => exact HC0.out); rintro e w17 ⟨v130, rfl, ho0, hb⟩; refine ⟨_, rfl, ?_⟩; have n0_ := Aside0.mk (Kd.R_lower ho0 (below_size pB)); have n1_ := Aside0.mk (below_step pB hb); clear HB; have HO131 := n0_; have HB := n1_; clear n0_ n1_; (try clear hb); (try clear hb2); (try clear hk); (try clear hi); (try clear ho0); obtain ⟨Ao18, co18, eo18⟩ := Kd.R_slice HO131.out; subst eo18) | ((with_reducible refine gate_callee (f := 15) rfl ?_); refine goesL_ (some 14) rfl rfl Try.func15 pL rfl #[.slice Ao18 t129.length co18] rfl pM ?_; (with_reducible refine (spec_UsesValid.calls k _ _ t129 t132 _ ?side1 ?side2 A5.out).mono ?_); (case side1 => exact pS ((Kd.R_reads' HO131.out).2.2)); (case side2 => exact (Kd.R_reads' HO131.out).2.1); rintro e w' ⟨rfl, ⟨nd, rfl⟩⟩; refine ⟨_, rfl, ?_⟩) | ((with_reducible refine gate_callee (f := 16) rfl ?_); refine goesL_ (some 16) rfl rfl Try.func16 pL rfl #[.slice A0 l0.length c0] rfl pM ?_; (with_reducible refine (laws_toUseS.calls k _ _ l0 t133 _ ?side1 ?side2 A6.out).mono ?_); (case side1 => exact pS ((Kd.C_below HR0.out pB))); (case side2 => exact HC0.out); rintro e w19 ⟨v134, rfl, ho0, hb⟩; refine ⟨_, rfl, ?_⟩; have n0_ := Aside0.mk (Kd.R_elder' (pR HO131) (Kd.R_base ho0) hb); have n1_ := Aside0.mk (Kd.R_lower (Kd.R_new' ho0 (Kd.R_lt (pR HO131))) (below_size pB)); have n2_ := Aside0.mk (below_step pB hb); clear HO131; clear HB; have HO131 := n0_; have HO135 := n1_; have HB := n2_; clear n0_ n1_ n2_; (try clear hb); (try clear hb2); (try clear hk); (try clear hi); (try clear ho0); obtain ⟨Ao20, co20, eo20⟩ := Kd.R_slice HO135.out; subst eo20) | ((with_reducible refine gate_callee (f := 17) rfl ?_); refine goesL_ (some 18) rfl rfl Try.func17 pL rfl #[.slice Ao20 t133.length co20] rfl pM ?_; (with_reducible refine (impl_UsesValid.calls k _ _ t133 t136 _ ?side1 ?side2 A7.out).mono ?_); (case side1 => exact pS ((Kd.R_reads' HO135.out).2.2)); (case side2 => exact (Kd.R_reads' HO135.out).2.1); rintro e w21 ⟨rfl, hb⟩; refine ⟨_, rfl, ?_⟩; have n0_ := Aside0.mk (Kd.R_below (pR HO131) hb); have n1_ := Aside0.mk (Kd.R_below (pR HO135) hb); have n2_ := Aside0.mk (below_step pB hb); clear HO131; clear HO135; clear HB; have HO131 := n0_; have HO135 := n1_; have HB := n2_; clear n0_ n1_ n2_; (try clear hb); (try clear hb2); (try clear hk); (try clear hi)) | ((with_reducible refine gate_callee (f := 16) rfl ?_); refine goesL_ (some 24) rfl rfl Try.func16 pL rfl #[.slice A0 l0.length c0] rfl pM ?_; (with_reducible refine (laws_toUseS.calls k _ _ l0 t137 _ ?side1 ?side2 A14.out).mono ?_); (case side1 => exact pS ((Kd.C_below HR0.out HB.out))); (case side2 => exact HC0.out); rintro e w22 ⟨v138, rfl, ho0, hb⟩; refine ⟨_, rfl, ?_⟩; have n0_ := Aside0.mk (Kd.R_elder' (pR HO131) (Kd.R_base ho0) hb); have n1_ := Aside0.mk (Kd.R_elder' (pR HO135) (Kd.R_base ho0) hb); have n2_ := Aside0.mk (Kd.R_lower (Kd.R_new' (Kd.R_new' ho0 (Kd.R_lt (pR HO131))) (Kd.R_lt (pR HO135))) (below_size pB)); have n3_ := Aside0.mk (below_step pB hb); clear HO131; clear HO135; clear HB; have HO131 := n0_; have HO135 := n1_; have HO139 := n2_; have HB := n3_; clear n0_ n1_ n2_ n3_; (try clear hb); (try clear hb2); (try clear hk); (try clear hi); (try clear ho0); obtain ⟨Ao23, co23, eo23⟩ := Kd.R_slice HO139.out; subst eo23) | ((with_reducible refine gate_callee (f := 18) rfl ?_); refine goesL_ (some 25) rfl rfl Try.func18 pL rfl #[.slice Ao20 t133.length co20, .slice Ao23 t137.length co23] rfl pM ?_; (with_reducible refine (laws_eqUseS.calls k _ _ t133 _ _ t137 true _ ?side1 ?side2 ?side3 ?side4 A15.out).mono ?_); (case side1 => exact pS ((Kd.R_reads' HO135.out).2.2)); (case side2 => exact (Kd.R_reads' HO135.out).2.1); (case side3 => exact pS ((Kd.R_reads' HO139.out).2.2)); (case side4 => exact (Kd.R_reads' HO139.out).2.1); rintro e w24 ⟨rfl, hb⟩; refine ⟨_, rfl, ?_⟩; have n0_ := Aside0.mk (Kd.R_below (pR HO131) hb); have n1_ := Aside0.mk (Kd.R_below (pR HO135) hb); have n2_ := Aside0.mk (Kd.R_below (pR HO139) hb); have n3_ := Aside0.mk (below_step pB hb); clear HO131; clear HO135; clear HO139; clear HB; have HO131 := n0_; have HO135 := n1_; have HO139 := n2_; have HB := n3_; clear n0_ n1_ n2_ n3_; (try clear hb); (try clear hb2); (try clear hk); (try clear hi)))
    go_ret
    exact ⟨pE, pB⟩
   ·replace c16 := Bool.eq_false_iff.mpr c16
    subst c16
    have H1 : (some false) = some r := by rw [if_neg (show ¬ (false = true) by decide)] at H; exact H
    clear H
    have H := H1
    clear H1
    obtain rfl := Option.some.inj H
    go_enter Try.func3, Try.ntmps3
    go_wp2_with (first | ((with_reducible refine gate_callee (f := 14) rfl ?_); refine goesL_ (some 9) rfl rfl Try.func14 pL rfl #[.slice A0 l0.length c0, .int .i64 1048576] rfl pM ?_; (with_reducible refine (laws_szUseS.calls _ _ l0 1048576 t128 _ ?side1 ?side2 A2.out).mono ?_); (case side1 => exact pS (HR0.out)); (case side2 => exact HC0.out); rintro e w' ⟨rfl, ⟨nd, rfl⟩⟩; refine ⟨_, rfl, ?_⟩) | ((with_reducible refine gate_callee (f := 16) rfl ?_); refine goesL_ (some 13) rfl rfl Try.func16 pL rfl #[.slice A0 l0.length c0] rfl pM ?_; (with_reducible refine (laws_toUseS.calls k _ _ l0 t129 _ ?side1 ?side2 A4.out).mono ?_); (case side1 => exact pS (HR0.out)); (case side2 => exact HC0.out); rintro e w25 ⟨v130, rfl, ho0, hb⟩; refine ⟨_, rfl, ?_⟩; have n0_ := Aside0.mk (Kd.R_lower ho0 (below_size pB)); have n1_ := Aside0.mk (below_step pB hb); clear HB; have HO131 := n0_; have HB := n1_; clear n0_ n1_; (try clear hb); (try clear hb2); (try clear hk); (try clear hi); (try clear ho0); obtain ⟨Ao26, co26, eo26⟩ := Kd.R_slice HO131.out; subst eo26) | ((with_reducible refine gate_callee (f := 15) rfl ?_); refine goesL_ (some 14) rfl rfl Try.func15 pL rfl #[.slice Ao26 t129.length co26] rfl pM ?_; (with_reducible refine (spec_UsesValid.calls k _ _ t129 t132 _ ?side1 ?side2 A5.out).mono ?_); (case side1 => exact pS ((Kd.R_reads' HO131.out).2.2)); (case side2 => exact (Kd.R_reads' HO131.out).2.1); rintro e w' ⟨rfl, ⟨nd, rfl⟩⟩; refine ⟨_, rfl, ?_⟩) | ((with_reducible refine gate_callee (f := 16) rfl ?_); refine goesL_ (some 16) rfl rfl Try.func16 pL rfl #[.slice A0 l0.length c0] rfl pM ?_; (with_reducible refine (laws_toUseS.calls k _ _ l0 t133 _ ?side1 ?side2 A6.out).mono ?_); (case side1 => exact pS ((Kd.C_below HR0.out pB))); (case side2 => exact HC0.out); rintro e w27 ⟨v134, rfl, ho0, hb⟩; refine ⟨_, rfl, ?_⟩; have n0_ := Aside0.mk (Kd.R_elder' (pR HO131) (Kd.R_base ho0) hb); have n1_ := Aside0.mk (Kd.R_lower (Kd.R_new' ho0 (Kd.R_lt (pR HO131))) (below_size pB)); have n2_ := Aside0.mk (below_step pB hb); clear HO131; clear HB; have HO131 := n0_; have HO135 := n1_; have HB := n2_; clear n0_ n1_ n2_; (try clear hb); (try clear hb2); (try clear hk); (try clear hi); (try clear ho0); obtain ⟨Ao28, co28, eo28⟩ := Kd.R_slice HO135.out; subst eo28) | ((with_reducible refine gate_callee (f := 17) rfl ?_); refine goesL_ (some 18) rfl rfl Try.func17 pL rfl #[.slice Ao28 t133.length co28] rfl pM ?_; (with_reducible refine (impl_UsesValid.calls k _ _ t133 t136 _ ?side1 ?side2 A7.out).mono ?_); (case side1 => exact pS ((Kd.R_reads' HO135.out).2.2)); (case side2 => exact (Kd.R_reads' HO135.out).2.1); rintro e w29 ⟨rfl, hb⟩; refine ⟨_, rfl, ?_⟩; have n0_ := Aside0.mk (Kd.R_below (pR HO131) hb); have n1_ := Aside0.mk (Kd.R_below (pR HO135) hb); have n2_ := Aside0.mk (below_step pB hb); clear HO131; clear HO135; clear HB; have HO131 := n0_; have HO135 := n1_; have HB := n2_; clear n0_ n1_ n2_; (try clear hb); (try clear hb2); (try clear hk); (try clear hi)) | ((with_reducible refine gate_callee (f := 16) rfl ?_); refine goesL_ (some 24) rfl rfl Try.func16 pL rfl #[.slice A0 l0.length c0] rfl pM ?_; (with_reducible refine (laws_toUseS.calls k _ _ l0 t137 _ ?side1 ?side2 A14.out).mono ?_); (case side1 => exact pS ((Kd.C_below HR0.out HB.out))); (case side2 => exact HC0.out); rintro e w30 ⟨v138, rfl, ho0, hb⟩; refine ⟨_, rfl, ?_⟩; have n0_ := Aside0.mk (Kd.R_elder' (pR HO131) (Kd.R_base ho0) hb); have n1_ := Aside0.mk (Kd.R_elder' (pR HO135) (Kd.R_base ho0) hb); have n2_ := Aside0.mk (Kd.R_lower (Kd.R_new' (Kd.R_new' ho0 (Kd.R_lt (pR HO131))) (Kd.R_lt (pR HO135))) (below_size pB)); have n3_ := Aside0.mk (below_step pB hb); clear HO131; clear HO135; clear HB; have HO131 := n0_; have HO135 := n1_; have HO139 := n2_; have HB := n3_; clear n0_ n1_ n2_ n3_; (try clear hb); (try clear hb2); (try clear hk); (try clear hi); (try clear ho0); obtain ⟨Ao31, co31, eo31⟩ := Kd.R_slice HO139.out; subst eo31) | ((with_reducible refine gate_callee (f := 18) rfl ?_); refine goesL_ (some 25) rfl rfl Try.func18 pL rfl #[.slice Ao28 t133.length co28, .slice Ao31 t137.length co31] rfl pM ?_; (with_reducible refine (laws_eqUseS.calls k _ _ t133 _ _ t137 false _ ?side1 ?side2 ?side3 ?side4 A15.out).mono ?_); (case side1 => exact pS ((Kd.R_reads' HO135.out).2.2)); (case side2 => exact (Kd.R_reads' HO135.out).2.1); (case side3 => exact pS ((Kd.R_reads' HO139.out).2.2)); (case side4 => exact (Kd.R_reads' HO139.out).2.1); rintro e w32 ⟨rfl, hb⟩; refine ⟨_, rfl, ?_⟩; have n0_ := Aside0.mk (Kd.R_below (pR HO131) hb); have n1_ := Aside0.mk (Kd.R_below (pR HO135) hb); have n2_ := Aside0.mk (Kd.R_below (pR HO139) hb); have n3_ := Aside0.mk (below_step pB hb); clear HO131; clear HO135; clear HO139; clear HB; have HO131 := n0_; have HO135 := n1_; have HO139 := n2_; have HB := n3_; clear n0_ n1_ n2_ n3_; (try clear hb); (try clear hb2); (try clear hk); (try clear hi)))
    go_ret
    exact ⟨pE, pB⟩

end Go.Proofs.Ytglpjchpgjaanaa.Q
