-- Written by the kit's print.py for all laws of the seat at once (one namespace), by a program of this session.
import Derived.Test.YtglpjchpgjaanaaQx0
import Derived.Test.YtglpjchpgjaanaaQx6
import Derived.Test.YtglpjchpgjaanaaQx8
import Derived.Test.YtglpjchpgjaanaaQx9
import Derived.Test.YtglpjchpgjaanaaQx10
import Derived.Test.YtglpjchpgjaanaaQx12
namespace Go.Proofs.Ytglpjchpgjaanaa.Q
open Go.RowKit Go.Proofs.YtglpjchpgjaanaaW.PrintWords Go.Proofs.YtglpjchpgjaanaaW.PrintLast Go.Proofs.YtglpjchpgjaanaaW.PrintMore
attribute [local go_sem] max2_int min2_int max_two min_two max_three min_three max_four min_four   -- for this text's walks alone
set_option linter.unusedVariables false
set_option linter.unusedSimpArgs false

/-! ### spec_DrawTracesLeft: function 25 -/
def spec_DrawTracesLeft.f (k : Nat) (l0 : List Int) : Option ((List (S40)) × Int) := (spec_l6Open.f l0).bind fun bt266 => ((spec_l91Uses.f k bt266.1 bt266.2).bind fun bt269 => ((spec_l6Rd_pick.f k bt266.1 bt269.2 6).bind fun bt273 => (some (bt269.1, bt273.1))))
theorem spec_DrawTracesLeft.mono : ∀ a0 k, LeO (spec_DrawTracesLeft.f k a0) (spec_DrawTracesLeft.f (k + 1) a0) := by
 intro a0 k
 unfold spec_DrawTracesLeft.f
 repeat' first
   | (with_reducible exact spec_l6Rd_pick.mono _ _ _ _)
   | (with_reducible exact spec_l91Uses.mono _ _ _)
   | (with_reducible exact LeO.refl _)
   | (with_reducible exact LeO.none _)
   | (with_reducible refine LeO.ite ?_ ?_)
   | (with_reducible refine LeO.bind ?_ (fun _ => ?_))
   | exact spec_l6Rd_pick.mono _ _ _ _
   | exact spec_l91Uses.mono _ _ _
   | exact LeO.none _
   | refine LeO.ite ?_ ?_
   | refine LeO.bind ?_ (fun _ => ?_)
set_option maxHeartbeats 8000000 in
set_option maxRecDepth 100000 in
theorem spec_DrawTracesLeft.calls (k : Nat) (A0 : Option Addr) (c0 : Nat) (l0 : List Int) (r1 : List (S40)) (r2 : Int) (w : World) (hr0 : Kd.C (Kd.int .u8) w A0 l0.length l0) (hc0 : l0.length ≤ c0) (h : spec_DrawTracesLeft.f k l0 = some (r1, r2)) :
  Calls Try.prog 25 #[.slice A0 l0.length c0] w fun e w' => ∃ v0_ : Value, e = .returned (.tuple #[v0_, .int .i64 r2]) ∧ Kd.R k40 40 w' w.heap.size (fun _ => True) v0_ r1 ∧ Below w.heap.size w w' := by
 have HR0 := Aside0.mk hr0
 have HC0 := Aside0.mk hc0
 clear hr0 hc0
 have HB := Aside0.mk (Below.refl w.heap.size w)
 have H : ((spec_l6Open.f l0).bind fun bt266 => ((spec_l91Uses.f k bt266.1 bt266.2).bind fun bt269 => ((spec_l6Rd_pick.f k bt266.1 bt269.2 6).bind fun bt273 => (some (bt269.1, bt273.1))))) = some (r1, r2) := h
 clear h
 replace H := Option.bind_eq_some_iff.mp H
 obtain ⟨⟨t266, t267⟩, A20, H⟩ := H
 replace H : ((spec_l91Uses.f k t266 t267).bind fun bt269 => ((spec_l6Rd_pick.f k t266 bt269.2 6).bind fun bt273 => (some (bt269.1, bt273.1)))) = some (r1, r2) := H
 have A2 := Aside0.mk A20
 clear A20
 replace H := Option.bind_eq_some_iff.mp H
 obtain ⟨⟨t269, t272⟩, A30, H⟩ := H
 replace H : ((spec_l6Rd_pick.f k t266 t272 6).bind fun bt273 => (some (t269, bt273.1))) = some (r1, r2) := H
 have A3 := Aside0.mk A30
 clear A30
 replace H := Option.bind_eq_some_iff.mp H
 obtain ⟨⟨t273, t274⟩, A40, H⟩ := H
 replace H : (some (t269, t273)) = some (r1, r2) := H
 have A4 := Aside0.mk A40
 clear A40
 simp only [Option.some.injEq, Prod.mk.injEq] at H
 obtain ⟨rfl, rfl⟩ := H
 go_enter Try.func25, Try.ntmps25
 go_wp2_with (first | ((with_reducible refine gate_callee (f := 45) rfl ?_); refine goesL_ (some 7) rfl rfl Try.func45 pL rfl #[.slice A0 l0.length c0] rfl pM ?_; (with_reducible refine (spec_l6Open.calls _ _ l0 t266 t267 w _ ?side1 ?side2 ?side3 A2.out).mono ?_); (case side1 => exact pB); (case side2 => exact HR0.out); (case side3 => exact HC0.out); rintro e w5 ⟨g268, rfl, hi, hb, hb2⟩; refine ⟨_, rfl, ?_⟩; have n0_ := Aside0.mk (hb); have n1_ := Aside0.mk (hi); clear HB; have HB := n0_; have HI268 := n1_; clear n0_ n1_; (try clear hb); (try clear hb2); (try clear hk); (try clear hi)) | ((with_reducible refine gate_callee (f := 44) rfl ?_); refine goesL_ (some 9) rfl rfl Try.func44 pL rfl #[.pointer (some ⟨g268, 0, none⟩)] rfl pM ?_; (with_reducible refine (spec_l91Uses.calls k g268 t266 t267 t269 t272 w _ ?side1 ?side2 A3.out).mono ?_); (case side1 => repeat (first | (with_reducible first | exact HI268.out | apply IsS62.alloc | apply IsS62.drewN | apply IsS62.drew | apply IsS62.set_1) | exact HI268.out)); (case side2 => repeat (first | (with_reducible first | exact HB.out | apply below_alloc | apply pw_below_drewN | apply below_drew1 | refine below_set ?_ (IsS62.ge HI268.out)) | exact HB.out)); rintro e w6 ⟨v270, rfl, ho0, hi, hb, hk⟩; refine ⟨_, rfl, ?_⟩; have n0_ := Aside0.mk (Kd.R_lower ho0 (below_size (by repeat (first | (with_reducible first | exact HB.out | apply below_alloc | apply pw_below_drewN | apply below_drew1 | refine below_set ?_ (IsS62.ge HI268.out)) | exact HB.out)))); have n1_ := Aside0.mk (hb); have n2_ := Aside0.mk (hi); clear HB; clear HI268; have HO271 := n0_; have HB := n1_; have HI268 := n2_; clear n0_ n1_ n2_; (try clear hb); (try clear hb2); (try clear hk); (try clear hi); (try clear ho0)) | ((with_reducible refine gate_callee (f := 46) rfl ?_); refine goesL_ (some 12) rfl rfl Try.func46 pL rfl #[.pointer (some ⟨g268, 0, none⟩), .int .i64 6] rfl pM ?_; (with_reducible refine (spec_l6Rd_pick.calls k g268 t266 t272 6 t273 t274 w _ ?side1 ?side2 A4.out).mono ?_); (case side1 => repeat (first | (with_reducible first | exact HI268.out | apply IsS62.alloc | apply IsS62.drewN | apply IsS62.drew | apply IsS62.set_1) | exact HI268.out)); (case side2 => repeat (first | (with_reducible first | exact HB.out | apply below_alloc | apply pw_below_drewN | apply below_drew1 | refine below_set ?_ (IsS62.ge HI268.out)) | exact HB.out)); rintro e w7 ⟨rfl, hi, hb, hk⟩; refine ⟨_, rfl, ?_⟩; have n0_ := Aside0.mk (Kd.R_mono (Kd.R_keep (IsS62.apart (show IsS62 w _ g268 t266 t272 from by repeat (first | (with_reducible first | exact HI268.out | apply IsS62.alloc | apply IsS62.drewN | apply IsS62.drew | apply IsS62.set_1) | exact HI268.out)) (pR HO271) (by decide)) hk (fun _ h => h.2)) (fun _ h => h.1)); have n1_ := Aside0.mk (hb); have n2_ := Aside0.mk (hi); clear HO271; clear HB; clear HI268; have HO271 := n0_; have HB := n1_; have HI268 := n2_; clear n0_ n1_ n2_; (try clear hb); (try clear hb2); (try clear hk); (try clear hi)))
 go_ret2
 exact ⟨_, pE, pR HO271, by repeat (first | (with_reducible first | exact HB.out | apply below_alloc | apply pw_below_drewN | apply below_drew1 | refine below_set ?_ (IsS62.ge HI268.out)) | exact HB.out)⟩

/-! ### laws_FnTracesLeft: function 6 -/
def laws_FnTracesLeft.f (k : Nat) (l0 : List Int) : Option (Bool) := if (l0.length : Int) > 1048576 then (some true) else ((spec_DrawTracesLeft.f k l0).bind fun bt275 => ((impl_TracesLeft.f k bt275.1 bt275.2).bind fun t279 => ((spec_TracesLeft.f k bt275.1 bt275.2).bind fun t280 => (if t279 = t280 then (if t280 < 0 then (some (t279 == t280)) else (if (bt275.1.length : Int) = 16 then (some (t279 == t280)) else ((some (([] : List (S40)) : List (S40))).bind fun y281 => (if y281.length + bt275.1.length < 5864062014805 then ((some (y281 ++ bt275.1 : List (S40))).bind fun y284 => (if y284.length < 5864062014805 then ((impl_TracesOf.f k (y284 ++ [(⟨bt275.2, 0, false⟩ : S40)])).bind fun t290 => (if (t290.length : Int) = (wrap64 ((bt275.1.length : Int) + 1)) then (if 0 ≤ (bt275.1.length : Int) then (if (bt275.1.length : Int) < (t290.length : Int) then (some ((rd t290 (bt275.1.length : Int)) == t279)) else (none)) else (none)) else (some false))) else (none))) else (none))))) else (some (t279 == t280))))))
theorem laws_FnTracesLeft.mono : ∀ a0 k, LeO (laws_FnTracesLeft.f k a0) (laws_FnTracesLeft.f (k + 1) a0) := by
 intro a0 k
 unfold laws_FnTracesLeft.f
 repeat' first
   | (with_reducible exact impl_TracesLeft.mono _ _ _)
   | (with_reducible exact impl_TracesOf.mono _ _)
   | (with_reducible exact spec_DrawTracesLeft.mono _ _)
   | (with_reducible exact spec_TracesLeft.mono _ _ _)
   | (with_reducible exact LeO.refl _)
   | (with_reducible exact LeO.none _)
   | (with_reducible refine LeO.ite ?_ ?_)
   | (with_reducible refine LeO.bind ?_ (fun _ => ?_))
   | exact impl_TracesLeft.mono _ _ _
   | exact impl_TracesOf.mono _ _
   | exact spec_DrawTracesLeft.mono _ _
   | exact spec_TracesLeft.mono _ _ _
   | exact LeO.none _
   | refine LeO.ite ?_ ?_
   | refine LeO.bind ?_ (fun _ => ?_)
set_option maxHeartbeats 8000000 in
set_option maxRecDepth 100000 in
theorem laws_FnTracesLeft.calls (k : Nat) (A0 : Option Addr) (c0 : Nat) (l0 : List Int) (r : Bool) (w : World) (hr0 : Kd.C (Kd.int .u8) w A0 l0.length l0) (hc0 : l0.length ≤ c0) (h : laws_FnTracesLeft.f k l0 = some r) :
  Calls Try.prog 6 #[.slice A0 l0.length c0] w fun e w' => e = .returned (.bool r) ∧ Below w.heap.size w w' := by
 have hu40 := Try.underlying40
 have HR0 := Aside0.mk hr0
 have HC0 := Aside0.mk hc0
 clear hr0 hc0
 have HB := Aside0.mk (Below.refl w.heap.size w)
 have H : (if (l0.length : Int) > 1048576 then (some true) else ((spec_DrawTracesLeft.f k l0).bind fun bt275 => ((impl_TracesLeft.f k bt275.1 bt275.2).bind fun t279 => ((spec_TracesLeft.f k bt275.1 bt275.2).bind fun t280 => (if t279 = t280 then (if t280 < 0 then (some (t279 == t280)) else (if (bt275.1.length : Int) = 16 then (some (t279 == t280)) else ((some (([] : List (S40)) : List (S40))).bind fun y281 => (if y281.length + bt275.1.length < 5864062014805 then ((some (y281 ++ bt275.1 : List (S40))).bind fun y284 => (if y284.length < 5864062014805 then ((impl_TracesOf.f k (y284 ++ [(⟨bt275.2, 0, false⟩ : S40)])).bind fun t290 => (if (t290.length : Int) = (wrap64 ((bt275.1.length : Int) + 1)) then (if 0 ≤ (bt275.1.length : Int) then (if (bt275.1.length : Int) < (t290.length : Int) then (some ((rd t290 (bt275.1.length : Int)) == t279)) else (none)) else (none)) else (some false))) else (none))) else (none))))) else (some (t279 == t280))))))) = some r := h
 clear h
 by_cases c2 : (l0.length : Int) > 1048576
 ·rw [if_pos c2] at H
  have c2b0 : decide (1048576 < (l0.length : Int)) = true := decide_eq_true c2
  have c2b1 : decide (1048576 < l0.length) = true := decide_eq_true (by omega)
  clear c2
  obtain rfl := Option.some.inj H
  go_enter Try.func6, Try.ntmps6
  go_wp2
  go_ret
  exact ⟨pE, pB⟩
 ·rw [if_neg c2] at H
  have c2b0 : decide (1048576 < (l0.length : Int)) = false := decide_eq_false c2
  have c2b1 : decide (1048576 < l0.length) = false := decide_eq_false (by omega)
  clear c2
  replace H := Option.bind_eq_some_iff.mp H
  obtain ⟨⟨t275, t276⟩, A30, H⟩ := H
  replace H : ((impl_TracesLeft.f k t275 t276).bind fun t279 => ((spec_TracesLeft.f k t275 t276).bind fun t280 => (if t279 = t280 then (if t280 < 0 then (some (t279 == t280)) else (if (t275.length : Int) = 16 then (some (t279 == t280)) else ((some (([] : List (S40)) : List (S40))).bind fun y281 => (if y281.length + t275.length < 5864062014805 then ((some (y281 ++ t275 : List (S40))).bind fun y284 => (if y284.length < 5864062014805 then ((impl_TracesOf.f k (y284 ++ [(⟨t276, 0, false⟩ : S40)])).bind fun t290 => (if (t290.length : Int) = (wrap64 ((t275.length : Int) + 1)) then (if 0 ≤ (t275.length : Int) then (if (t275.length : Int) < (t290.length : Int) then (some ((rd t290 (t275.length : Int)) == t279)) else (none)) else (none)) else (some false))) else (none))) else (none))))) else (some (t279 == t280))))) = some r := H
  have A3 := Aside0.mk A30
  clear A30
  replace H := Option.bind_eq_some_iff.mp H
  obtain ⟨t279, A40, H⟩ := H
  replace H : ((spec_TracesLeft.f k t275 t276).bind fun t280 => (if t279 = t280 then (if t280 < 0 then (some (t279 == t280)) else (if (t275.length : Int) = 16 then (some (t279 == t280)) else ((some (([] : List (S40)) : List (S40))).bind fun y281 => (if y281.length + t275.length < 5864062014805 then ((some (y281 ++ t275 : List (S40))).bind fun y284 => (if y284.length < 5864062014805 then ((impl_TracesOf.f k (y284 ++ [(⟨t276, 0, false⟩ : S40)])).bind fun t290 => (if (t290.length : Int) = (wrap64 ((t275.length : Int) + 1)) then (if 0 ≤ (t275.length : Int) then (if (t275.length : Int) < (t290.length : Int) then (some ((rd t290 (t275.length : Int)) == t279)) else (none)) else (none)) else (some false))) else (none))) else (none))))) else (some (t279 == t280)))) = some r := H
  have A4 := Aside0.mk A40
  clear A40
  replace H := Option.bind_eq_some_iff.mp H
  obtain ⟨t280, A50, H⟩ := H
  replace H : (if t279 = t280 then (if t280 < 0 then (some (t279 == t280)) else (if (t275.length : Int) = 16 then (some (t279 == t280)) else ((some (([] : List (S40)) : List (S40))).bind fun y281 => (if y281.length + t275.length < 5864062014805 then ((some (y281 ++ t275 : List (S40))).bind fun y284 => (if y284.length < 5864062014805 then ((impl_TracesOf.f k (y284 ++ [(⟨t276, 0, false⟩ : S40)])).bind fun t290 => (if (t290.length : Int) = (wrap64 ((t275.length : Int) + 1)) then (if 0 ≤ (t275.length : Int) then (if (t275.length : Int) < (t290.length : Int) then (some ((rd t290 (t275.length : Int)) == t279)) else (none)) else (none)) else (some false))) else (none))) else (none))))) else (some (t279 == t280))) = some r := H
  have A5 := Aside0.mk A50
  clear A50
  by_cases c6 : t279 = t280
  ·rw [if_pos c6] at H
   have c6b0 : (t279 == t280) = true := beq_iff_eq.mpr c6
   have c6b1 : (t279 != t280) = false := bne_eq_false_iff_eq.mpr c6
   clear c6
   by_cases c7 : t280 < 0
   ·rw [if_pos c7] at H
    have c7b0 : decide (t280 < 0) = true := decide_eq_true c7
    clear c7
    obtain rfl := Option.some.inj H
    go_enter Try.func6, Try.ntmps6
    go_wp2_with (first | ((with_reducible refine gate_callee (f := 25) rfl ?_); refine goesL_ (some 13) rfl rfl Try.func25 pL rfl #[.slice A0 l0.length c0] rfl pM ?_; (with_reducible refine (spec_DrawTracesLeft.calls k _ _ l0 t275 t276 _ ?side1 ?side2 A3.out).mono ?_); (case side1 => exact pS (HR0.out)); (case side2 => exact HC0.out); rintro e w8 ⟨v277, rfl, ho0, hb⟩; refine ⟨_, rfl, ?_⟩; have n0_ := Aside0.mk (Kd.R_lower ho0 (below_size pB)); have n1_ := Aside0.mk (below_step pB hb); clear HB; have HO278 := n0_; have HB := n1_; clear n0_ n1_; (try clear hb); (try clear hb2); (try clear hk); (try clear hi); (try clear ho0); obtain ⟨Ao9, co9, eo9⟩ := Kd.R_slice HO278.out; subst eo9) | ((with_reducible refine gate_callee (f := 20) rfl ?_); refine goesL_ (some 18) rfl rfl Try.func20 pL rfl #[.slice Ao9 t275.length co9, .int .i64 t276] rfl pM ?_; (with_reducible refine (impl_TracesLeft.calls k _ _ t275 t276 t279 _ ?side1 ?side2 A4.out).mono ?_); (case side1 => exact pS ((Kd.R_reads' HO278.out).2.2)); (case side2 => exact (Kd.R_reads' HO278.out).2.1); rintro e w10 ⟨rfl, hb⟩; refine ⟨_, rfl, ?_⟩; have n0_ := Aside0.mk (Kd.R_below (pR HO278) hb); have n1_ := Aside0.mk (below_step pB hb); clear HO278; clear HB; have HO278 := n0_; have HB := n1_; clear n0_ n1_; (try clear hb); (try clear hb2); (try clear hk); (try clear hi)) | ((with_reducible refine gate_callee (f := 19) rfl ?_); refine goesL_ (some 21) rfl rfl Try.func19 pL rfl #[.slice Ao9 t275.length co9, .int .i64 t276] rfl pM ?_; (with_reducible refine (spec_TracesLeft.calls k _ _ t275 t276 t280 _ ?side1 ?side2 A5.out).mono ?_); (case side1 => exact pS ((Kd.R_reads' HO278.out).2.2)); (case side2 => exact (Kd.R_reads' HO278.out).2.1); rintro e w' ⟨rfl, ⟨nd, rfl⟩⟩; refine ⟨_, rfl, ?_⟩))
    go_ret
    exact ⟨pE, pB⟩
   ·rw [if_neg c7] at H
    have c7b0 : decide (t280 < 0) = false := decide_eq_false c7
    clear c7
    by_cases c11 : (t275.length : Int) = 16
    ·rw [if_pos c11] at H
     have c11b0 : ((t275.length : Int) == 16) = true := beq_iff_eq.mpr c11
     have c11b1 : ((t275.length : Int) != 16) = false := bne_eq_false_iff_eq.mpr c11
     clear c11
     obtain rfl := Option.some.inj H
     go_enter Try.func6, Try.ntmps6
     go_wp2_with (first | ((with_reducible refine gate_callee (f := 25) rfl ?_); refine goesL_ (some 13) rfl rfl Try.func25 pL rfl #[.slice A0 l0.length c0] rfl pM ?_; (with_reducible refine (spec_DrawTracesLeft.calls k _ _ l0 t275 t276 _ ?side1 ?side2 A3.out).mono ?_); (case side1 => exact pS (HR0.out)); (case side2 => exact HC0.out); rintro e w12 ⟨v277, rfl, ho0, hb⟩; refine ⟨_, rfl, ?_⟩; have n0_ := Aside0.mk (Kd.R_lower ho0 (below_size pB)); have n1_ := Aside0.mk (below_step pB hb); clear HB; have HO278 := n0_; have HB := n1_; clear n0_ n1_; (try clear hb); (try clear hb2); (try clear hk); (try clear hi); (try clear ho0); obtain ⟨Ao13, co13, eo13⟩ := Kd.R_slice HO278.out; subst eo13) | ((with_reducible refine gate_callee (f := 20) rfl ?_); refine goesL_ (some 18) rfl rfl Try.func20 pL rfl #[.slice Ao13 t275.length co13, .int .i64 t276] rfl pM ?_; (with_reducible refine (impl_TracesLeft.calls k _ _ t275 t276 t279 _ ?side1 ?side2 A4.out).mono ?_); (case side1 => exact pS ((Kd.R_reads' HO278.out).2.2)); (case side2 => exact (Kd.R_reads' HO278.out).2.1); rintro e w14 ⟨rfl, hb⟩; refine ⟨_, rfl, ?_⟩; have n0_ := Aside0.mk (Kd.R_below (pR HO278) hb); have n1_ := Aside0.mk (below_step pB hb); clear HO278; clear HB; have HO278 := n0_; have HB := n1_; clear n0_ n1_; (try clear hb); (try clear hb2); (try clear hk); (try clear hi)) | ((with_reducible refine gate_callee (f := 19) rfl ?_); refine goesL_ (some 21) rfl rfl Try.func19 pL rfl #[.slice Ao13 t275.length co13, .int .i64 t276] rfl pM ?_; (with_reducible refine (spec_TracesLeft.calls k _ _ t275 t276 t280 _ ?side1 ?side2 A5.out).mono ?_); (case side1 => exact pS ((Kd.R_reads' HO278.out).2.2)); (case side2 => exact (Kd.R_reads' HO278.out).2.1); rintro e w' ⟨rfl, ⟨nd, rfl⟩⟩; refine ⟨_, rfl, ?_⟩))
     go_ret
     exact ⟨pE, pB⟩
    ·rw [if_neg c11] at H
     have c11b0 : ((t275.length : Int) == 16) = false := beq_eq_false_iff_ne.mpr c11
     have c11b1 : ((t275.length : Int) != 16) = true := bne_iff_ne.mpr c11
     obtain ⟨y281, hy281⟩ : ∃ y_ : List (S40), y_ = (([] : List (S40))) := ⟨_, rfl⟩
     replace H : (if y281.length + t275.length < 5864062014805 then ((some (y281 ++ t275 : List (S40))).bind fun y284 => (if y284.length < 5864062014805 then ((impl_TracesOf.f k (y284 ++ [(⟨t276, 0, false⟩ : S40)])).bind fun t290 => (if (t290.length : Int) = (wrap64 ((t275.length : Int) + 1)) then (if 0 ≤ (t275.length : Int) then (if (t275.length : Int) < (t290.length : Int) then (some ((rd t290 (t275.length : Int)) == t279)) else (none)) else (none)) else (some false))) else (none))) else (none)) = some r := by first | (rw [hy281]; with_reducible exact H) | (have H2_ := (Option.bind_some _ _).symm.trans H; rw [hy281]; with_reducible exact H2_) | (have H2_ := (Option.bind_some _ _).symm.trans H; with_reducible exact H2_) | with_reducible exact H | (rw [hy281]; exact H) | exact H
     have Ny281 := Aside0.mk hy281
     clear hy281
     by_cases c15 : y281.length + t275.length < 5864062014805
     ·rw [if_pos c15] at H
      have LMc15 := Aside0.mk c15
      clear c15
      obtain ⟨y284, hy284⟩ : ∃ y_ : List (S40), y_ = (y281 ++ t275) := ⟨_, rfl⟩
      replace H : (if y284.length < 5864062014805 then ((impl_TracesOf.f k (y284 ++ [(⟨t276, 0, false⟩ : S40)])).bind fun t290 => (if (t290.length : Int) = (wrap64 ((t275.length : Int) + 1)) then (if 0 ≤ (t275.length : Int) then (if (t275.length : Int) < (t290.length : Int) then (some ((rd t290 (t275.length : Int)) == t279)) else (none)) else (none)) else (some false))) else (none)) = some r := by first | (rw [hy284]; with_reducible exact H) | (have H2_ := (Option.bind_some _ _).symm.trans H; rw [hy284]; with_reducible exact H2_) | (have H2_ := (Option.bind_some _ _).symm.trans H; with_reducible exact H2_) | with_reducible exact H | (rw [hy284]; exact H) | exact H
      have Ny284 := Aside0.mk hy284
      clear hy284
      by_cases c16 : y284.length < 5864062014805
      ·rw [if_pos c16] at H
       have LMc16 := Aside0.mk c16
       clear c16
       obtain ⟨y287, hy287⟩ : ∃ y_ : List (S40), y_ = (y284 ++ [(⟨t276, 0, false⟩ : S40)]) := ⟨_, rfl⟩
       replace H : ((impl_TracesOf.f k y287).bind fun t290 => (if (t290.length : Int) = (wrap64 ((t275.length : Int) + 1)) then (if 0 ≤ (t275.length : Int) then (if (t275.length : Int) < (t290.length : Int) then (some ((rd t290 (t275.length : Int)) == t279)) else (none)) else (none)) else (some false))) = some r := by first | (rw [hy287]; with_reducible exact H) | (have H2_ := (Option.bind_some _ _).symm.trans H; rw [hy287]; with_reducible exact H2_) | (have H2_ := (Option.bind_some _ _).symm.trans H; with_reducible exact H2_) | with_reducible exact H | (rw [hy287]; exact H) | exact H
       have Ny287 := Aside0.mk hy287
       clear hy287
       replace H := Option.bind_eq_some_iff.mp H
       obtain ⟨t290, A170, H⟩ := H
       replace H : (if (t290.length : Int) = (wrap64 ((t275.length : Int) + 1)) then (if 0 ≤ (t275.length : Int) then (if (t275.length : Int) < (t290.length : Int) then (some ((rd t290 (t275.length : Int)) == t279)) else (none)) else (none)) else (some false)) = some r := H
       have A17 := Aside0.mk A170
       clear A170
       by_cases c18 : (t290.length : Int) = (wrap64 ((t275.length : Int) + 1))
       ·rw [if_pos c18] at H
        have c18b0 : ((t290.length : Int) == (wrap64 ((t275.length : Int) + 1))) = true := beq_iff_eq.mpr c18
        have c18b1 : ((t290.length : Int) != (wrap64 ((t275.length : Int) + 1))) = false := bne_eq_false_iff_eq.mpr c18
        clear c18
        by_cases c19 : 0 ≤ (t275.length : Int)
        ·rw [if_pos c19] at H
         have c19b0 : decide (0 ≤ (t275.length : Int)) = true := decide_eq_true c19
         have c19b1 : decide (0 ≤ t275.length) = true := decide_eq_true (by omega)
         clear c19
         by_cases c20 : (t275.length : Int) < (t290.length : Int)
         ·rw [if_pos c20] at H
          have c20b0 : decide ((t275.length : Int) < (t290.length : Int)) = true := decide_eq_true c20
          have c20b1 : decide (t275.length < t290.length) = true := decide_eq_true (Int.ofNat_lt.mp c20)
          clear c20
          obtain rfl := Option.some.inj H
          go_enter Try.func6, Try.ntmps6
          go_wp2_with (first | ((with_reducible refine gate_callee (f := 25) rfl ?_); refine goesL_ (some 13) rfl rfl Try.func25 pL rfl #[.slice A0 l0.length c0] rfl pM ?_; (with_reducible refine (spec_DrawTracesLeft.calls k _ _ l0 t275 t276 _ ?side1 ?side2 A3.out).mono ?_); (case side1 => exact pS (HR0.out)); (case side2 => exact HC0.out); rintro e w21 ⟨v277, rfl, ho0, hb⟩; refine ⟨_, rfl, ?_⟩; have n0_ := Aside0.mk (Kd.R_lower ho0 (below_size pB)); have n1_ := Aside0.mk (below_step pB hb); clear HB; have HO278 := n0_; have HB := n1_; clear n0_ n1_; (try clear hb); (try clear hb2); (try clear hk); (try clear hi); (try clear ho0); obtain ⟨Ao22, co22, eo22⟩ := Kd.R_slice HO278.out; subst eo22) | ((with_reducible refine gate_callee (f := 20) rfl ?_); refine goesL_ (some 18) rfl rfl Try.func20 pL rfl #[.slice Ao22 t275.length co22, .int .i64 t276] rfl pM ?_; (with_reducible refine (impl_TracesLeft.calls k _ _ t275 t276 t279 _ ?side1 ?side2 A4.out).mono ?_); (case side1 => exact pS ((Kd.R_reads' HO278.out).2.2)); (case side2 => exact (Kd.R_reads' HO278.out).2.1); rintro e w23 ⟨rfl, hb⟩; refine ⟨_, rfl, ?_⟩; have n0_ := Aside0.mk (Kd.R_below (pR HO278) hb); have n1_ := Aside0.mk (below_step pB hb); clear HO278; clear HB; have HO278 := n0_; have HB := n1_; clear n0_ n1_; (try clear hb); (try clear hb2); (try clear hk); (try clear hi)) | ((with_reducible refine gate_callee (f := 19) rfl ?_); refine goesL_ (some 21) rfl rfl Try.func19 pL rfl #[.slice Ao22 t275.length co22, .int .i64 t276] rfl pM ?_; (with_reducible refine (spec_TracesLeft.calls k _ _ t275 t276 t280 _ ?side1 ?side2 A5.out).mono ?_); (case side1 => exact pS ((Kd.R_reads' HO278.out).2.2)); (case side2 => exact (Kd.R_reads' HO278.out).2.1); rintro e w' ⟨rfl, ⟨nd, rfl⟩⟩; refine ⟨_, rfl, ?_⟩) | ((with_reducible refine gate_dst (N := 37) rfl ?_); (try (refine gate_guard (by rfl) ?_; dsimp only)); refine Kd.R_lit k40 _ 40 ?hg (N := 37) ?hd (xs := ([] : List (S40))) (inner := []) (ok := fun _ => True) (okp := fun _ => True) ?hr ?hp (fun _ hk => hk) trivial (Below.refl _ _) (Nat.le_refl _) (by simp) ?_; (case hd => rfl); (case hg => rfl); (case hr => first | (go_simp; done) | (go_simp; rfl)); (case hp => exact (Reps.none _ _)); intro v282 w24 ho25 hb hg_ hnew_; clear hg_ hnew_; (first | rw [← Ny281.out] at ho25 | (simp only [Int.reduceToNat] at ho25; rw [← Ny281.out] at ho25)); have n0_ := Aside0.mk (Kd.R_elder' (pR HO278) (Kd.R_base ho25) hb); have n1_ := Aside0.mk (Kd.R_lower (Kd.R_new' ho25 (Kd.R_lt (pR HO278))) (below_size pB)); have n2_ := Aside0.mk (below_step pB hb); clear HO278; clear HB; have HO278 := n0_; have HO283 := n1_; have HB := n2_; clear n0_ n1_ n2_; clear hb ho25) | ((with_reducible refine gate_builtin (b := .append) (xs := #[.tmp 37, .tmp 38]) rfl ?_); (try (refine gate_guard (by rfl) ?_; dsimp only)); at_builtin; refine Kd.R_append_rows k40 (w0 := w) w.heap.size rfl (.tmp 37) (.tmp 38) 25 40 (.agg #[(.int .i64 0), (.int .i64 0), (.bool false)]) 24 rfl Try.underlying25 info40 rfl (by decide) (by omega) v282 y281 t275 _ _ _ (fun k_ => some k_ ≠ (.slice Ao22 t275.length co22 : Value).ownBlock) (fun _ => False) rfl rfl ?aO ?aR (fun _ _ h => h) (fun _ h => h.elim) ?aF ?aB ?aS ?aL ?_; (case aR => exact pS ((Kd.R_reads' HO278.out).2.2)); (case aB => exact pB); (case aF => exact (fun k_ hk => Kd.fresh' (Kd.R_lt (pR HO278)) k_ hk)); (case aO => exact (by (with_reducible repeat (first | apply Kd.R_alloc | apply Kd.R_drewN | apply Kd.R_drew)); exact Kd.R_mono HO283.out (fun _ hk => hk.2))); (case aS => exact (below_size pB)); (case aL => have := LMc15.out; omega); intro v285 w26 ho hb hg hat; rw [← Ny284.out] at ho; have n0_ := Aside0.mk (Kd.R_after (ok := (fun _ => True)) (pR HO278) hg hat); have n1_ := Aside0.mk (hb); have n2_ := Aside0.mk (ho); clear HO278; clear HB; clear HO283; have HO278 := n0_; have HB := n1_; have HO286 := n2_; clear n0_ n1_ n2_; clear ho hb hg hat) | ((with_reducible refine gate_builtin (b := .append) (xs := #[.tmp 39, .tmp 42]) rfl ?_); (try (refine gate_guard (by rfl) ?_; dsimp only)); at_builtin; refine Kd.R_append k40 (w0 := w) w.heap.size rfl (.tmp 39) (.tmp 42) 25 40 (.agg #[(.int .i64 0), (.int .i64 0), (.bool false)]) 24 rfl Try.underlying25 info40 rfl (by decide) (by omega) v285 y284 (⟨t276, 0, false⟩ : S40) [.int .i64 t276, .int .i64 0, .bool false] (fun k_ => some k_ ≠ (.slice Ao22 t275.length co22 : Value).ownBlock) (fun _ => False) rfl rfl ?aP (fun _ hk => hk.elim) ?aF ?aO ?aB ?aS ?aL ?_; (case aP => exact k40_mkM _ _ _ (⟨t276, 0, false⟩ : S40)); (case aB => exact pB); (case aF => exact (fun k_ hk => Kd.fresh' (Kd.R_lt (pR HO278)) k_ hk)); (case aO => exact (pR HO286)); (case aS => exact (below_size pB)); (case aL => have := LMc16.out; omega); intro v288 w27 ho hb hg hat; rw [← Ny287.out] at ho; have n0_ := Aside0.mk (Kd.R_after (ok := (fun _ => True)) (pR HO278) hg hat); have n1_ := Aside0.mk (hb); have n2_ := Aside0.mk (ho); clear HO278; clear HB; clear HO286; have HO278 := n0_; have HB := n1_; have HO289 := n2_; clear n0_ n1_ n2_; clear ho hb hg hat; obtain ⟨Ao28, co28, eo28⟩ := Kd.R_slice HO289.out; subst eo28) | ((with_reducible refine gate_callee (f := 22) rfl ?_); refine goesL_ (some 44) rfl rfl Try.func22 pL rfl #[.slice Ao28 y287.length co28] rfl pM ?_; (with_reducible refine (impl_TracesOf.calls k _ _ y287 t290 _ ?side1 ?side2 A17.out).mono ?_); (case side1 => exact pS ((Kd.R_reads' HO289.out).2.2)); (case side2 => exact (Kd.R_reads' HO289.out).2.1); rintro e w29 ⟨v291, rfl, ho0, hb⟩; refine ⟨_, rfl, ?_⟩; have n0_ := Aside0.mk (Kd.R_below (pR HO278) hb); have n1_ := Aside0.mk (Kd.R_below (pR HO289) hb); have n2_ := Aside0.mk (Kd.R_lower ho0 (below_size pB)); have n3_ := Aside0.mk (below_step pB hb); clear HO278; clear HO289; clear HB; have HO278 := n0_; have HO289 := n1_; have HO292 := n2_; have HB := n3_; clear n0_ n1_ n2_ n3_; (try clear hb); (try clear hb2); (try clear hk); (try clear hi); (try clear ho0); obtain ⟨Ao30, co30, eo30⟩ := Kd.R_slice HO292.out; subst eo30; have p293 : 0 ≤ ((t275.length : Int) : Int) := of_decide_eq_true pA; have q293 : (t275.length : Int) < (t290.length : Int) := of_decide_eq_true pA; obtain ⟨ad293, e293, hx293_0⟩ := Kd.at_int (Kd.R_reads' HO292.out).2.2 (t275.length : Int) p293 q293; cases e293; (try simp only [Go.IntWalk.toNatUp] at hx293_0); replace p293 := eq_true p293; replace q293 := eq_true q293))
          go_ret
          exact ⟨pE, pB⟩
         ·rw [if_neg c20] at H
          exact absurd H (by simp)
        ·rw [if_neg c19] at H
         exact absurd H (by simp)
       ·rw [if_neg c18] at H
        have c18b0 : ((t290.length : Int) == (wrap64 ((t275.length : Int) + 1))) = false := beq_eq_false_iff_ne.mpr c18
        have c18b1 : ((t290.length : Int) != (wrap64 ((t275.length : Int) + 1))) = true := bne_iff_ne.mpr c18
        obtain rfl := Option.some.inj H
        go_enter Try.func6, Try.ntmps6
        go_wp2_with (first | ((with_reducible refine gate_callee (f := 25) rfl ?_); refine goesL_ (some 13) rfl rfl Try.func25 pL rfl #[.slice A0 l0.length c0] rfl pM ?_; (with_reducible refine (spec_DrawTracesLeft.calls k _ _ l0 t275 t276 _ ?side1 ?side2 A3.out).mono ?_); (case side1 => exact pS (HR0.out)); (case side2 => exact HC0.out); rintro e w31 ⟨v277, rfl, ho0, hb⟩; refine ⟨_, rfl, ?_⟩; have n0_ := Aside0.mk (Kd.R_lower ho0 (below_size pB)); have n1_ := Aside0.mk (below_step pB hb); clear HB; have HO278 := n0_; have HB := n1_; clear n0_ n1_; (try clear hb); (try clear hb2); (try clear hk); (try clear hi); (try clear ho0); obtain ⟨Ao32, co32, eo32⟩ := Kd.R_slice HO278.out; subst eo32) | ((with_reducible refine gate_callee (f := 20) rfl ?_); refine goesL_ (some 18) rfl rfl Try.func20 pL rfl #[.slice Ao32 t275.length co32, .int .i64 t276] rfl pM ?_; (with_reducible refine (impl_TracesLeft.calls k _ _ t275 t276 t279 _ ?side1 ?side2 A4.out).mono ?_); (case side1 => exact pS ((Kd.R_reads' HO278.out).2.2)); (case side2 => exact (Kd.R_reads' HO278.out).2.1); rintro e w33 ⟨rfl, hb⟩; refine ⟨_, rfl, ?_⟩; have n0_ := Aside0.mk (Kd.R_below (pR HO278) hb); have n1_ := Aside0.mk (below_step pB hb); clear HO278; clear HB; have HO278 := n0_; have HB := n1_; clear n0_ n1_; (try clear hb); (try clear hb2); (try clear hk); (try clear hi)) | ((with_reducible refine gate_callee (f := 19) rfl ?_); refine goesL_ (some 21) rfl rfl Try.func19 pL rfl #[.slice Ao32 t275.length co32, .int .i64 t276] rfl pM ?_; (with_reducible refine (spec_TracesLeft.calls k _ _ t275 t276 t280 _ ?side1 ?side2 A5.out).mono ?_); (case side1 => exact pS ((Kd.R_reads' HO278.out).2.2)); (case side2 => exact (Kd.R_reads' HO278.out).2.1); rintro e w' ⟨rfl, ⟨nd, rfl⟩⟩; refine ⟨_, rfl, ?_⟩) | ((with_reducible refine gate_dst (N := 37) rfl ?_); (try (refine gate_guard (by rfl) ?_; dsimp only)); refine Kd.R_lit k40 _ 40 ?hg (N := 37) ?hd (xs := ([] : List (S40))) (inner := []) (ok := fun _ => True) (okp := fun _ => True) ?hr ?hp (fun _ hk => hk) trivial (Below.refl _ _) (Nat.le_refl _) (by simp) ?_; (case hd => rfl); (case hg => rfl); (case hr => first | (go_simp; done) | (go_simp; rfl)); (case hp => exact (Reps.none _ _)); intro v282 w34 ho35 hb hg_ hnew_; clear hg_ hnew_; (first | rw [← Ny281.out] at ho35 | (simp only [Int.reduceToNat] at ho35; rw [← Ny281.out] at ho35)); have n0_ := Aside0.mk (Kd.R_elder' (pR HO278) (Kd.R_base ho35) hb); have n1_ := Aside0.mk (Kd.R_lower (Kd.R_new' ho35 (Kd.R_lt (pR HO278))) (below_size pB)); have n2_ := Aside0.mk (below_step pB hb); clear HO278; clear HB; have HO278 := n0_; have HO283 := n1_; have HB := n2_; clear n0_ n1_ n2_; clear hb ho35) | ((with_reducible refine gate_builtin (b := .append) (xs := #[.tmp 37, .tmp 38]) rfl ?_); (try (refine gate_guard (by rfl) ?_; dsimp only)); at_builtin; refine Kd.R_append_rows k40 (w0 := w) w.heap.size rfl (.tmp 37) (.tmp 38) 25 40 (.agg #[(.int .i64 0), (.int .i64 0), (.bool false)]) 24 rfl Try.underlying25 info40 rfl (by decide) (by omega) v282 y281 t275 _ _ _ (fun k_ => some k_ ≠ (.slice Ao32 t275.length co32 : Value).ownBlock) (fun _ => False) rfl rfl ?aO ?aR (fun _ _ h => h) (fun _ h => h.elim) ?aF ?aB ?aS ?aL ?_; (case aR => exact pS ((Kd.R_reads' HO278.out).2.2)); (case aB => exact pB); (case aF => exact (fun k_ hk => Kd.fresh' (Kd.R_lt (pR HO278)) k_ hk)); (case aO => exact (by (with_reducible repeat (first | apply Kd.R_alloc | apply Kd.R_drewN | apply Kd.R_drew)); exact Kd.R_mono HO283.out (fun _ hk => hk.2))); (case aS => exact (below_size pB)); (case aL => have := LMc15.out; omega); intro v285 w36 ho hb hg hat; rw [← Ny284.out] at ho; have n0_ := Aside0.mk (Kd.R_after (ok := (fun _ => True)) (pR HO278) hg hat); have n1_ := Aside0.mk (hb); have n2_ := Aside0.mk (ho); clear HO278; clear HB; clear HO283; have HO278 := n0_; have HB := n1_; have HO286 := n2_; clear n0_ n1_ n2_; clear ho hb hg hat) | ((with_reducible refine gate_builtin (b := .append) (xs := #[.tmp 39, .tmp 42]) rfl ?_); (try (refine gate_guard (by rfl) ?_; dsimp only)); at_builtin; refine Kd.R_append k40 (w0 := w) w.heap.size rfl (.tmp 39) (.tmp 42) 25 40 (.agg #[(.int .i64 0), (.int .i64 0), (.bool false)]) 24 rfl Try.underlying25 info40 rfl (by decide) (by omega) v285 y284 (⟨t276, 0, false⟩ : S40) [.int .i64 t276, .int .i64 0, .bool false] (fun k_ => some k_ ≠ (.slice Ao32 t275.length co32 : Value).ownBlock) (fun _ => False) rfl rfl ?aP (fun _ hk => hk.elim) ?aF ?aO ?aB ?aS ?aL ?_; (case aP => exact k40_mkM _ _ _ (⟨t276, 0, false⟩ : S40)); (case aB => exact pB); (case aF => exact (fun k_ hk => Kd.fresh' (Kd.R_lt (pR HO278)) k_ hk)); (case aO => exact (pR HO286)); (case aS => exact (below_size pB)); (case aL => have := LMc16.out; omega); intro v288 w37 ho hb hg hat; rw [← Ny287.out] at ho; have n0_ := Aside0.mk (Kd.R_after (ok := (fun _ => True)) (pR HO278) hg hat); have n1_ := Aside0.mk (hb); have n2_ := Aside0.mk (ho); clear HO278; clear HB; clear HO286; have HO278 := n0_; have HB := n1_; have HO289 := n2_; clear n0_ n1_ n2_; clear ho hb hg hat; obtain ⟨Ao38, co38, eo38⟩ := Kd.R_slice HO289.out; subst eo38) | ((with_reducible refine gate_callee (f := 22) rfl ?_); refine goesL_ (some 44) rfl rfl Try.func22 pL rfl #[.slice Ao38 y287.length co38] rfl pM ?_; (with_reducible refine (impl_TracesOf.calls k _ _ y287 t290 _ ?side1 ?side2 A17.out).mono ?_); (case side1 => exact pS ((Kd.R_reads' HO289.out).2.2)); (case side2 => exact (Kd.R_reads' HO289.out).2.1); rintro e w39 ⟨v291, rfl, ho0, hb⟩; refine ⟨_, rfl, ?_⟩; have n0_ := Aside0.mk (Kd.R_below (pR HO278) hb); have n1_ := Aside0.mk (Kd.R_below (pR HO289) hb); have n2_ := Aside0.mk (Kd.R_lower ho0 (below_size pB)); have n3_ := Aside0.mk (below_step pB hb); clear HO278; clear HO289; clear HB; have HO278 := n0_; have HO289 := n1_; have HO292 := n2_; have HB := n3_; clear n0_ n1_ n2_ n3_; (try clear hb); (try clear hb2); (try clear hk); (try clear hi); (try clear ho0); obtain ⟨Ao40, co40, eo40⟩ := Kd.R_slice HO292.out; subst eo40))
        go_ret
        exact ⟨pE, pB⟩
      ·rw [if_neg c16] at H
       exact absurd H (by simp)
     ·rw [if_neg c15] at H
      exact absurd H (by simp)
  ·rw [if_neg c6] at H
   have c6b0 : (t279 == t280) = false := beq_eq_false_iff_ne.mpr c6
   have c6b1 : (t279 != t280) = true := bne_iff_ne.mpr c6
   obtain rfl := Option.some.inj H
   go_enter Try.func6, Try.ntmps6
   go_wp2_with (first | ((with_reducible refine gate_callee (f := 25) rfl ?_); refine goesL_ (some 13) rfl rfl Try.func25 pL rfl #[.slice A0 l0.length c0] rfl pM ?_; (with_reducible refine (spec_DrawTracesLeft.calls k _ _ l0 t275 t276 _ ?side1 ?side2 A3.out).mono ?_); (case side1 => exact pS (HR0.out)); (case side2 => exact HC0.out); rintro e w41 ⟨v277, rfl, ho0, hb⟩; refine ⟨_, rfl, ?_⟩; have n0_ := Aside0.mk (Kd.R_lower ho0 (below_size pB)); have n1_ := Aside0.mk (below_step pB hb); clear HB; have HO278 := n0_; have HB := n1_; clear n0_ n1_; (try clear hb); (try clear hb2); (try clear hk); (try clear hi); (try clear ho0); obtain ⟨Ao42, co42, eo42⟩ := Kd.R_slice HO278.out; subst eo42) | ((with_reducible refine gate_callee (f := 20) rfl ?_); refine goesL_ (some 18) rfl rfl Try.func20 pL rfl #[.slice Ao42 t275.length co42, .int .i64 t276] rfl pM ?_; (with_reducible refine (impl_TracesLeft.calls k _ _ t275 t276 t279 _ ?side1 ?side2 A4.out).mono ?_); (case side1 => exact pS ((Kd.R_reads' HO278.out).2.2)); (case side2 => exact (Kd.R_reads' HO278.out).2.1); rintro e w43 ⟨rfl, hb⟩; refine ⟨_, rfl, ?_⟩; have n0_ := Aside0.mk (Kd.R_below (pR HO278) hb); have n1_ := Aside0.mk (below_step pB hb); clear HO278; clear HB; have HO278 := n0_; have HB := n1_; clear n0_ n1_; (try clear hb); (try clear hb2); (try clear hk); (try clear hi)) | ((with_reducible refine gate_callee (f := 19) rfl ?_); refine goesL_ (some 21) rfl rfl Try.func19 pL rfl #[.slice Ao42 t275.length co42, .int .i64 t276] rfl pM ?_; (with_reducible refine (spec_TracesLeft.calls k _ _ t275 t276 t280 _ ?side1 ?side2 A5.out).mono ?_); (case side1 => exact pS ((Kd.R_reads' HO278.out).2.2)); (case side2 => exact (Kd.R_reads' HO278.out).2.1); rintro e w' ⟨rfl, ⟨nd, rfl⟩⟩; refine ⟨_, rfl, ?_⟩))
   go_ret
   exact ⟨pE, pB⟩

/-- THE ONE PURE STATEMENT of laws_FnTracesLeft: yours. -/
def laws_FnTracesLeft.Pure : Prop := ∀ (l0 : List Int), l0.length ≤ maxLen → l0.length * 1 ≤ 140737488351232 → (∀ x ∈ l0, (Lit.int .u8 x).wf = true) → ∃ k, laws_FnTracesLeft.f k l0 = some true
theorem laws_FnTracesLeft.walk (P : laws_FnTracesLeft.Pure) (a0 : Option Addr) (len0 cap0 : Nat) (z0 : List Int) (w : World) (w0 : (a0 = none ∧ len0 = 0 ∧ cap0 = 0 ∧ z0 = []) ∨ ∃ x, a0 = some x ∧ len0 ≤ cap0 ∧ cap0 ≤ maxLen ∧ z0.length = cap0 ∧ (∀ i, i < z0.length → w.cell? (x.add i) = some (.int .u8 (z0.getD i 0))) ∧ ∀ n ∈ z0, (Lit.int .u8 n).wf = true) (y0 : len0 * 1 ≤ 140737488351232) :
  Calls Try.prog 6 #[.slice a0 len0 cap0] w fun e w' => e = .returned (.bool true) ∧ Below w.heap.size w w' := by
 obtain ⟨l0, rfl, hr0, hm0, hw0, hc0⟩ := ReadsInt.ofRowC w0
 obtain ⟨k, h⟩ := P l0 hm0 y0 hw0
 refine (laws_FnTracesLeft.calls k _ _ l0 true w (Kd.C_of_reads (d := (0 : Int)) (h1 := fun _ => rfl) hr0) hc0 h).mono ?_
 rintro e w' ⟨rfl, hd⟩
 exact ⟨rfl, hd⟩

end Go.Proofs.Ytglpjchpgjaanaa.Q
