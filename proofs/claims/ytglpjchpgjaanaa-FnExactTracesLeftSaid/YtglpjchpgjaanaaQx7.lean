-- Written by the kit's print.py for all laws of the seat at once (one namespace), by a program of this session.
import Derived.Test.YtglpjchpgjaanaaQx0
import Derived.Test.YtglpjchpgjaanaaQx2
import Derived.Test.YtglpjchpgjaanaaQx6
namespace Go.Proofs.Ytglpjchpgjaanaa.Q
open Go.RowKit Go.Proofs.YtglpjchpgjaanaaW.PrintWords Go.Proofs.YtglpjchpgjaanaaW.PrintLast Go.Proofs.YtglpjchpgjaanaaW.PrintMore
attribute [local go_sem] max2_int min2_int max_two min_two max_three min_three max_four min_four   -- for this text's walks alone
set_option linter.unusedVariables false
set_option linter.unusedSimpArgs false

/-! ### laws_FnExactTracesLeft: function 4 -/
def laws_FnExactTracesLeft.f (k : Nat) (l0 : List (S53)) (a1 : Int) : Option (Bool) := (laws_szUseS.f l0 1048576).bind fun t159 => (if t159 < 0 then (some true) else ((laws_toUseS.f k l0).bind fun t160 => ((spec_TracesLeft.f k t160 a1).bind fun t163 => ((laws_toUseS.f k l0).bind fun t164 => ((impl_TracesLeft.f k t164 a1).bind fun t167 => (if t167 = t163 then ((laws_toUseS.f k l0).bind fun t168 => ((laws_eqUseS.f k t164 t168).bind fun t171 => (if t171 = true then (some true) else (some false)))) else (some false)))))))
theorem laws_FnExactTracesLeft.mono : ∀ a0 a1 k, LeO (laws_FnExactTracesLeft.f k a0 a1) (laws_FnExactTracesLeft.f (k + 1) a0 a1) := by
 intro a0 a1 k
 unfold laws_FnExactTracesLeft.f
 repeat' first
   | (with_reducible exact impl_TracesLeft.mono _ _ _)
   | (with_reducible exact laws_eqUseS.mono _ _ _)
   | (with_reducible exact laws_toUseS.mono _ _)
   | (with_reducible exact spec_TracesLeft.mono _ _ _)
   | (with_reducible exact LeO.refl _)
   | (with_reducible exact LeO.none _)
   | (with_reducible refine LeO.ite ?_ ?_)
   | (with_reducible refine LeO.bind ?_ (fun _ => ?_))
   | exact impl_TracesLeft.mono _ _ _
   | exact laws_eqUseS.mono _ _ _
   | exact laws_toUseS.mono _ _
   | exact spec_TracesLeft.mono _ _ _
   | exact LeO.none _
   | refine LeO.ite ?_ ?_
   | refine LeO.bind ?_ (fun _ => ?_)
set_option maxHeartbeats 8000000 in
set_option maxRecDepth 100000 in
theorem laws_FnExactTracesLeft.calls (k : Nat) (A0 : Option Addr) (c0 : Nat) (l0 : List (S53)) (a1 : Int) (r : Bool) (w : World) (hr0 : Kd.C k53 w A0 l0.length l0) (hc0 : l0.length ≤ c0) (h : laws_FnExactTracesLeft.f k l0 a1 = some r) :
  Calls Try.prog 4 #[.slice A0 l0.length c0, .int .i64 a1] w fun e w' => e = .returned (.bool r) ∧ Below w.heap.size w w' := by
 have HR0 := Aside0.mk hr0
 have HC0 := Aside0.mk hc0
 clear hr0 hc0
 have HB := Aside0.mk (Below.refl w.heap.size w)
 have H : ((laws_szUseS.f l0 1048576).bind fun t159 => (if t159 < 0 then (some true) else ((laws_toUseS.f k l0).bind fun t160 => ((spec_TracesLeft.f k t160 a1).bind fun t163 => ((laws_toUseS.f k l0).bind fun t164 => ((impl_TracesLeft.f k t164 a1).bind fun t167 => (if t167 = t163 then ((laws_toUseS.f k l0).bind fun t168 => ((laws_eqUseS.f k t164 t168).bind fun t171 => (if t171 = true then (some true) else (some false)))) else (some false)))))))) = some r := h
 clear h
 replace H := Option.bind_eq_some_iff.mp H
 obtain ⟨t159, A30, H⟩ := H
 replace H : (if t159 < 0 then (some true) else ((laws_toUseS.f k l0).bind fun t160 => ((spec_TracesLeft.f k t160 a1).bind fun t163 => ((laws_toUseS.f k l0).bind fun t164 => ((impl_TracesLeft.f k t164 a1).bind fun t167 => (if t167 = t163 then ((laws_toUseS.f k l0).bind fun t168 => ((laws_eqUseS.f k t164 t168).bind fun t171 => (if t171 = true then (some true) else (some false)))) else (some false))))))) = some r := H
 have A3 := Aside0.mk A30
 clear A30
 by_cases c4 : t159 < 0
 ·rw [if_pos c4] at H
  have c4b0 : decide (t159 < 0) = true := decide_eq_true c4
  clear c4
  obtain rfl := Option.some.inj H
  go_enter Try.func4, Try.ntmps4
  go_wp2_with (first | ((with_reducible refine gate_callee (f := 14) rfl ?_); refine goesL_ (some 11) rfl rfl Try.func14 pL rfl #[.slice A0 l0.length c0, .int .i64 1048576] rfl pM ?_; (with_reducible refine (laws_szUseS.calls _ _ l0 1048576 t159 _ ?side1 ?side2 A3.out).mono ?_); (case side1 => exact pS (HR0.out)); (case side2 => exact HC0.out); rintro e w' ⟨rfl, ⟨nd, rfl⟩⟩; refine ⟨_, rfl, ?_⟩))
  go_ret
  exact ⟨pE, pB⟩
 ·rw [if_neg c4] at H
  have c4b0 : decide (t159 < 0) = false := decide_eq_false c4
  clear c4
  replace H := Option.bind_eq_some_iff.mp H
  obtain ⟨t160, A50, H⟩ := H
  replace H : ((spec_TracesLeft.f k t160 a1).bind fun t163 => ((laws_toUseS.f k l0).bind fun t164 => ((impl_TracesLeft.f k t164 a1).bind fun t167 => (if t167 = t163 then ((laws_toUseS.f k l0).bind fun t168 => ((laws_eqUseS.f k t164 t168).bind fun t171 => (if t171 = true then (some true) else (some false)))) else (some false))))) = some r := H
  have A5 := Aside0.mk A50
  clear A50
  replace H := Option.bind_eq_some_iff.mp H
  obtain ⟨t163, A60, H⟩ := H
  replace H : ((laws_toUseS.f k l0).bind fun t164 => ((impl_TracesLeft.f k t164 a1).bind fun t167 => (if t167 = t163 then ((laws_toUseS.f k l0).bind fun t168 => ((laws_eqUseS.f k t164 t168).bind fun t171 => (if t171 = true then (some true) else (some false)))) else (some false)))) = some r := H
  have A6 := Aside0.mk A60
  clear A60
  replace H := Option.bind_eq_some_iff.mp H
  obtain ⟨t164, A70, H⟩ := H
  replace H : ((impl_TracesLeft.f k t164 a1).bind fun t167 => (if t167 = t163 then ((laws_toUseS.f k l0).bind fun t168 => ((laws_eqUseS.f k t164 t168).bind fun t171 => (if t171 = true then (some true) else (some false)))) else (some false))) = some r := H
  have A7 := Aside0.mk A70
  clear A70
  replace H := Option.bind_eq_some_iff.mp H
  obtain ⟨t167, A80, H⟩ := H
  replace H : (if t167 = t163 then ((laws_toUseS.f k l0).bind fun t168 => ((laws_eqUseS.f k t164 t168).bind fun t171 => (if t171 = true then (some true) else (some false)))) else (some false)) = some r := H
  have A8 := Aside0.mk A80
  clear A80
  by_cases c9 : t167 = t163
  ·rw [if_pos c9] at H
   have c9b0 : (t167 == t163) = true := beq_iff_eq.mpr c9
   have c9b1 : (t167 != t163) = false := bne_eq_false_iff_eq.mpr c9
   clear c9
   replace H := Option.bind_eq_some_iff.mp H
   obtain ⟨t168, A100, H⟩ := H
   replace H : ((laws_eqUseS.f k t164 t168).bind fun t171 => (if t171 = true then (some true) else (some false))) = some r := H
   have A10 := Aside0.mk A100
   clear A100
   replace H := Option.bind_eq_some_iff.mp H
   obtain ⟨t171, A110, H⟩ := H
   replace H : (if t171 = true then (some true) else (some false)) = some r := H
   have A11 := Aside0.mk A110
   clear A110
   by_cases c12 : t171 = true
   ·subst c12
    have H1 : (some true) = some r := by rw [if_pos rfl] at H; exact H
    clear H
    have H := H1
    clear H1
    obtain rfl := Option.some.inj H
    go_enter Try.func4, Try.ntmps4
    go_wp2_with (first | ((with_reducible refine gate_callee (f := 14) rfl ?_); refine goesL_ (some 11) rfl rfl Try.func14 pL rfl #[.slice A0 l0.length c0, .int .i64 1048576] rfl pM ?_; (with_reducible refine (laws_szUseS.calls _ _ l0 1048576 t159 _ ?side1 ?side2 A3.out).mono ?_); (case side1 => exact pS (HR0.out)); (case side2 => exact HC0.out); rintro e w' ⟨rfl, ⟨nd, rfl⟩⟩; refine ⟨_, rfl, ?_⟩) | ((with_reducible refine gate_callee (f := 16) rfl ?_); refine goesL_ (some 15) rfl rfl Try.func16 pL rfl #[.slice A0 l0.length c0] rfl pM ?_; (with_reducible refine (laws_toUseS.calls k _ _ l0 t160 _ ?side1 ?side2 A5.out).mono ?_); (case side1 => exact pS (HR0.out)); (case side2 => exact HC0.out); rintro e w13 ⟨v161, rfl, ho0, hb⟩; refine ⟨_, rfl, ?_⟩; have n0_ := Aside0.mk (Kd.R_lower ho0 (below_size pB)); have n1_ := Aside0.mk (below_step pB hb); clear HB; have HO162 := n0_; have HB := n1_; clear n0_ n1_; (try clear hb); (try clear hb2); (try clear hk); (try clear hi); (try clear ho0); obtain ⟨Ao14, co14, eo14⟩ := Kd.R_slice HO162.out; subst eo14) | ((with_reducible refine gate_callee (f := 19) rfl ?_); refine goesL_ (some 17) rfl rfl Try.func19 pL rfl #[.slice Ao14 t160.length co14, .int .i64 a1] rfl pM ?_; (with_reducible refine (spec_TracesLeft.calls k _ _ t160 a1 t163 _ ?side1 ?side2 A6.out).mono ?_); (case side1 => exact pS ((Kd.R_reads' HO162.out).2.2)); (case side2 => exact (Kd.R_reads' HO162.out).2.1); rintro e w' ⟨rfl, ⟨nd, rfl⟩⟩; refine ⟨_, rfl, ?_⟩) | ((with_reducible refine gate_callee (f := 16) rfl ?_); refine goesL_ (some 19) rfl rfl Try.func16 pL rfl #[.slice A0 l0.length c0] rfl pM ?_; (with_reducible refine (laws_toUseS.calls k _ _ l0 t164 _ ?side1 ?side2 A7.out).mono ?_); (case side1 => exact pS ((Kd.C_below HR0.out pB))); (case side2 => exact HC0.out); rintro e w15 ⟨v165, rfl, ho0, hb⟩; refine ⟨_, rfl, ?_⟩; have n0_ := Aside0.mk (Kd.R_elder' (pR HO162) (Kd.R_base ho0) hb); have n1_ := Aside0.mk (Kd.R_lower (Kd.R_new' ho0 (Kd.R_lt (pR HO162))) (below_size pB)); have n2_ := Aside0.mk (below_step pB hb); clear HO162; clear HB; have HO162 := n0_; have HO166 := n1_; have HB := n2_; clear n0_ n1_ n2_; (try clear hb); (try clear hb2); (try clear hk); (try clear hi); (try clear ho0); obtain ⟨Ao16, co16, eo16⟩ := Kd.R_slice HO166.out; subst eo16) | ((with_reducible refine gate_callee (f := 20) rfl ?_); refine goesL_ (some 22) rfl rfl Try.func20 pL rfl #[.slice Ao16 t164.length co16, .int .i64 a1] rfl pM ?_; (with_reducible refine (impl_TracesLeft.calls k _ _ t164 a1 t167 _ ?side1 ?side2 A8.out).mono ?_); (case side1 => exact pS ((Kd.R_reads' HO166.out).2.2)); (case side2 => exact (Kd.R_reads' HO166.out).2.1); rintro e w17 ⟨rfl, hb⟩; refine ⟨_, rfl, ?_⟩; have n0_ := Aside0.mk (Kd.R_below (pR HO162) hb); have n1_ := Aside0.mk (Kd.R_below (pR HO166) hb); have n2_ := Aside0.mk (below_step pB hb); clear HO162; clear HO166; clear HB; have HO162 := n0_; have HO166 := n1_; have HB := n2_; clear n0_ n1_ n2_; (try clear hb); (try clear hb2); (try clear hk); (try clear hi)) | ((with_reducible refine gate_callee (f := 16) rfl ?_); refine goesL_ (some 28) rfl rfl Try.func16 pL rfl #[.slice A0 l0.length c0] rfl pM ?_; (with_reducible refine (laws_toUseS.calls k _ _ l0 t168 _ ?side1 ?side2 A10.out).mono ?_); (case side1 => exact pS ((Kd.C_below HR0.out HB.out))); (case side2 => exact HC0.out); rintro e w18 ⟨v169, rfl, ho0, hb⟩; refine ⟨_, rfl, ?_⟩; have n0_ := Aside0.mk (Kd.R_elder' (pR HO162) (Kd.R_base ho0) hb); have n1_ := Aside0.mk (Kd.R_elder' (pR HO166) (Kd.R_base ho0) hb); have n2_ := Aside0.mk (Kd.R_lower (Kd.R_new' (Kd.R_new' ho0 (Kd.R_lt (pR HO162))) (Kd.R_lt (pR HO166))) (below_size pB)); have n3_ := Aside0.mk (below_step pB hb); clear HO162; clear HO166; clear HB; have HO162 := n0_; have HO166 := n1_; have HO170 := n2_; have HB := n3_; clear n0_ n1_ n2_ n3_; (try clear hb); (try clear hb2); (try clear hk); (try clear hi); (try clear ho0); obtain ⟨Ao19, co19, eo19⟩ := Kd.R_slice HO170.out; subst eo19) | ((with_reducible refine gate_callee (f := 18) rfl ?_); refine goesL_ (some 29) rfl rfl Try.func18 pL rfl #[.slice Ao16 t164.length co16, .slice Ao19 t168.length co19] rfl pM ?_; (with_reducible refine (laws_eqUseS.calls k _ _ t164 _ _ t168 true _ ?side1 ?side2 ?side3 ?side4 A11.out).mono ?_); (case side1 => exact pS ((Kd.R_reads' HO166.out).2.2)); (case side2 => exact (Kd.R_reads' HO166.out).2.1); (case side3 => exact pS ((Kd.R_reads' HO170.out).2.2)); (case side4 => exact (Kd.R_reads' HO170.out).2.1); rintro e w20 ⟨rfl, hb⟩; refine ⟨_, rfl, ?_⟩; have n0_ := Aside0.mk (Kd.R_below (pR HO162) hb); have n1_ := Aside0.mk (Kd.R_below (pR HO166) hb); have n2_ := Aside0.mk (Kd.R_below (pR HO170) hb); have n3_ := Aside0.mk (below_step pB hb); clear HO162; clear HO166; clear HO170; clear HB; have HO162 := n0_; have HO166 := n1_; have HO170 := n2_; have HB := n3_; clear n0_ n1_ n2_ n3_; (try clear hb); (try clear hb2); (try clear hk); (try clear hi)))
    go_ret
    exact ⟨pE, pB⟩
   ·replace c12 := Bool.eq_false_iff.mpr c12
    subst c12
    have H1 : (some false) = some r := by rw [if_neg (show ¬ (false = true) by decide)] at H; exact H
    clear H
    have H := H1
    clear H1
    obtain rfl := Option.some.inj H
    go_enter Try.func4, Try.ntmps4
    go_wp2_with (first | ((with_reducible refine gate_callee (f := 14) rfl ?_); refine goesL_ (some 11) rfl rfl Try.func14 pL rfl #[.slice A0 l0.length c0, .int .i64 1048576] rfl pM ?_; (with_reducible refine (laws_szUseS.calls _ _ l0 1048576 t159 _ ?side1 ?side2 A3.out).mono ?_); (case side1 => exact pS (HR0.out)); (case side2 => exact HC0.out); rintro e w' ⟨rfl, ⟨nd, rfl⟩⟩; refine ⟨_, rfl, ?_⟩) | ((with_reducible refine gate_callee (f := 16) rfl ?_); refine goesL_ (some 15) rfl rfl Try.func16 pL rfl #[.slice A0 l0.length c0] rfl pM ?_; (with_reducible refine (laws_toUseS.calls k _ _ l0 t160 _ ?side1 ?side2 A5.out).mono ?_); (case side1 => exact pS (HR0.out)); (case side2 => exact HC0.out); rintro e w21 ⟨v161, rfl, ho0, hb⟩; refine ⟨_, rfl, ?_⟩; have n0_ := Aside0.mk (Kd.R_lower ho0 (below_size pB)); have n1_ := Aside0.mk (below_step pB hb); clear HB; have HO162 := n0_; have HB := n1_; clear n0_ n1_; (try clear hb); (try clear hb2); (try clear hk); (try clear hi); (try clear ho0); obtain ⟨Ao22, co22, eo22⟩ := Kd.R_slice HO162.out; subst eo22) | ((with_reducible refine gate_callee (f := 19) rfl ?_); refine goesL_ (some 17) rfl rfl Try.func19 pL rfl #[.slice Ao22 t160.length co22, .int .i64 a1] rfl pM ?_; (with_reducible refine (spec_TracesLeft.calls k _ _ t160 a1 t163 _ ?side1 ?side2 A6.out).mono ?_); (case side1 => exact pS ((Kd.R_reads' HO162.out).2.2)); (case side2 => exact (Kd.R_reads' HO162.out).2.1); rintro e w' ⟨rfl, ⟨nd, rfl⟩⟩; refine ⟨_, rfl, ?_⟩) | ((with_reducible refine gate_callee (f := 16) rfl ?_); refine goesL_ (some 19) rfl rfl Try.func16 pL rfl #[.slice A0 l0.length c0] rfl pM ?_; (with_reducible refine (laws_toUseS.calls k _ _ l0 t164 _ ?side1 ?side2 A7.out).mono ?_); (case side1 => exact pS ((Kd.C_below HR0.out pB))); (case side2 => exact HC0.out); rintro e w23 ⟨v165, rfl, ho0, hb⟩; refine ⟨_, rfl, ?_⟩; have n0_ := Aside0.mk (Kd.R_elder' (pR HO162) (Kd.R_base ho0) hb); have n1_ := Aside0.mk (Kd.R_lower (Kd.R_new' ho0 (Kd.R_lt (pR HO162))) (below_size pB)); have n2_ := Aside0.mk (below_step pB hb); clear HO162; clear HB; have HO162 := n0_; have HO166 := n1_; have HB := n2_; clear n0_ n1_ n2_; (try clear hb); (try clear hb2); (try clear hk); (try clear hi); (try clear ho0); obtain ⟨Ao24, co24, eo24⟩ := Kd.R_slice HO166.out; subst eo24) | ((with_reducible refine gate_callee (f := 20) rfl ?_); refine goesL_ (some 22) rfl rfl Try.func20 pL rfl #[.slice Ao24 t164.length co24, .int .i64 a1] rfl pM ?_; (with_reducible refine (impl_TracesLeft.calls k _ _ t164 a1 t167 _ ?side1 ?side2 A8.out).mono ?_); (case side1 => exact pS ((Kd.R_reads' HO166.out).2.2)); (case side2 => exact (Kd.R_reads' HO166.out).2.1); rintro e w25 ⟨rfl, hb⟩; refine ⟨_, rfl, ?_⟩; have n0_ := Aside0.mk (Kd.R_below (pR HO162) hb); have n1_ := Aside0.mk (Kd.R_below (pR HO166) hb); have n2_ := Aside0.mk (below_step pB hb); clear HO162; clear HO166; clear HB; have HO162 := n0_; have HO166 := n1_; have HB := n2_; clear n0_ n1_ n2_; (try clear hb); (try clear hb2); (try clear hk); (try clear hi)) | ((with_reducible refine gate_callee (f := 16) rfl ?_); refine goesL_ (some 28) rfl rfl Try.func16 pL rfl #[.slice A0 l0.length c0] rfl pM ?_; (with_reducible refine (laws_toUseS.calls k _ _ l0 t168 _ ?side1 ?side2 A10.out).mono ?_); (case side1 => exact pS ((Kd.C_below HR0.out HB.out))); (case side2 => exact HC0.out); rintro e w26 ⟨v169, rfl, ho0, hb⟩; refine ⟨_, rfl, ?_⟩; have n0_ := Aside0.mk (Kd.R_elder' (pR HO162) (Kd.R_base ho0) hb); have n1_ := Aside0.mk (Kd.R_elder' (pR HO166) (Kd.R_base ho0) hb); have n2_ := Aside0.mk (Kd.R_lower (Kd.R_new' (Kd.R_new' ho0 (Kd.R_lt (pR HO162))) (Kd.R_lt (pR HO166))) (below_size pB)); have n3_ := Aside0.mk (below_step pB hb); clear HO162; clear HO166; clear HB; have HO162 := n0_; have HO166 := n1_; have HO170 := n2_; have HB := n3_; clear n0_ n1_ n2_ n3_; (try clear hb); (try clear hb2); (try clear hk); (try clear hi); (try clear ho0); obtain ⟨Ao27, co27, eo27⟩ := Kd.R_slice HO170.out; subst eo27) | ((with_reducible refine gate_callee (f := 18) rfl ?_); refine goesL_ (some 29) rfl rfl Try.func18 pL rfl #[.slice Ao24 t164.length co24, .slice Ao27 t168.length co27] rfl pM ?_; (with_reducible refine (laws_eqUseS.calls k _ _ t164 _ _ t168 false _ ?side1 ?side2 ?side3 ?side4 A11.out).mono ?_); (case side1 => exact pS ((Kd.R_reads' HO166.out).2.2)); (case side2 => exact (Kd.R_reads' HO166.out).2.1); (case side3 => exact pS ((Kd.R_reads' HO170.out).2.2)); (case side4 => exact (Kd.R_reads' HO170.out).2.1); rintro e w28 ⟨rfl, hb⟩; refine ⟨_, rfl, ?_⟩; have n0_ := Aside0.mk (Kd.R_below (pR HO162) hb); have n1_ := Aside0.mk (Kd.R_below (pR HO166) hb); have n2_ := Aside0.mk (Kd.R_below (pR HO170) hb); have n3_ := Aside0.mk (below_step pB hb); clear HO162; clear HO166; clear HO170; clear HB; have HO162 := n0_; have HO166 := n1_; have HO170 := n2_; have HB := n3_; clear n0_ n1_ n2_ n3_; (try clear hb); (try clear hb2); (try clear hk); (try clear hi)))
    go_ret
    exact ⟨pE, pB⟩
  ·rw [if_neg c9] at H
   have c9b0 : (t167 == t163) = false := beq_eq_false_iff_ne.mpr c9
   have c9b1 : (t167 != t163) = true := bne_iff_ne.mpr c9
   obtain rfl := Option.some.inj H
   go_enter Try.func4, Try.ntmps4
   go_wp2_with (first | ((with_reducible refine gate_callee (f := 14) rfl ?_); refine goesL_ (some 11) rfl rfl Try.func14 pL rfl #[.slice A0 l0.length c0, .int .i64 1048576] rfl pM ?_; (with_reducible refine (laws_szUseS.calls _ _ l0 1048576 t159 _ ?side1 ?side2 A3.out).mono ?_); (case side1 => exact pS (HR0.out)); (case side2 => exact HC0.out); rintro e w' ⟨rfl, ⟨nd, rfl⟩⟩; refine ⟨_, rfl, ?_⟩) | ((with_reducible refine gate_callee (f := 16) rfl ?_); refine goesL_ (some 15) rfl rfl Try.func16 pL rfl #[.slice A0 l0.length c0] rfl pM ?_; (with_reducible refine (laws_toUseS.calls k _ _ l0 t160 _ ?side1 ?side2 A5.out).mono ?_); (case side1 => exact pS (HR0.out)); (case side2 => exact HC0.out); rintro e w29 ⟨v161, rfl, ho0, hb⟩; refine ⟨_, rfl, ?_⟩; have n0_ := Aside0.mk (Kd.R_lower ho0 (below_size pB)); have n1_ := Aside0.mk (below_step pB hb); clear HB; have HO162 := n0_; have HB := n1_; clear n0_ n1_; (try clear hb); (try clear hb2); (try clear hk); (try clear hi); (try clear ho0); obtain ⟨Ao30, co30, eo30⟩ := Kd.R_slice HO162.out; subst eo30) | ((with_reducible refine gate_callee (f := 19) rfl ?_); refine goesL_ (some 17) rfl rfl Try.func19 pL rfl #[.slice Ao30 t160.length co30, .int .i64 a1] rfl pM ?_; (with_reducible refine (spec_TracesLeft.calls k _ _ t160 a1 t163 _ ?side1 ?side2 A6.out).mono ?_); (case side1 => exact pS ((Kd.R_reads' HO162.out).2.2)); (case side2 => exact (Kd.R_reads' HO162.out).2.1); rintro e w' ⟨rfl, ⟨nd, rfl⟩⟩; refine ⟨_, rfl, ?_⟩) | ((with_reducible refine gate_callee (f := 16) rfl ?_); refine goesL_ (some 19) rfl rfl Try.func16 pL rfl #[.slice A0 l0.length c0] rfl pM ?_; (with_reducible refine (laws_toUseS.calls k _ _ l0 t164 _ ?side1 ?side2 A7.out).mono ?_); (case side1 => exact pS ((Kd.C_below HR0.out pB))); (case side2 => exact HC0.out); rintro e w31 ⟨v165, rfl, ho0, hb⟩; refine ⟨_, rfl, ?_⟩; have n0_ := Aside0.mk (Kd.R_elder' (pR HO162) (Kd.R_base ho0) hb); have n1_ := Aside0.mk (Kd.R_lower (Kd.R_new' ho0 (Kd.R_lt (pR HO162))) (below_size pB)); have n2_ := Aside0.mk (below_step pB hb); clear HO162; clear HB; have HO162 := n0_; have HO166 := n1_; have HB := n2_; clear n0_ n1_ n2_; (try clear hb); (try clear hb2); (try clear hk); (try clear hi); (try clear ho0); obtain ⟨Ao32, co32, eo32⟩ := Kd.R_slice HO166.out; subst eo32) | ((with_reducible refine gate_callee (f := 20) rfl ?_); refine goesL_ (some 22) rfl rfl Try.func20 pL rfl #[.slice Ao32 t164.length co32, .int .i64 a1] rfl pM ?_; (with_reducible refine (impl_TracesLeft.calls k _ _ t164 a1 t167 _ ?side1 ?side2 A8.out).mono ?_); (case side1 => exact pS ((Kd.R_reads' HO166.out).2.2)); (case side2 => exact (Kd.R_reads' HO166.out).2.1); rintro e w33 ⟨rfl, hb⟩; refine ⟨_, rfl, ?_⟩; have n0_ := Aside0.mk (Kd.R_below (pR HO162) hb); have n1_ := Aside0.mk (Kd.R_below (pR HO166) hb); have n2_ := Aside0.mk (below_step pB hb); clear HO162; clear HO166; clear HB; have HO162 := n0_; have HO166 := n1_; have HB := n2_; clear n0_ n1_ n2_; (try clear hb); (try clear hb2); (try clear hk); (try clear hi)))
   go_ret
   exact ⟨pE, pB⟩

end Go.Proofs.Ytglpjchpgjaanaa.Q
