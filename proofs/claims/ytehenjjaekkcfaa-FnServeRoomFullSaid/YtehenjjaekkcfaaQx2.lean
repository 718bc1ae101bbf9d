-- Written by the kit's print.py for all laws of the seat at once (one namespace), by a program of this session.
import Derived.Test.YtehenjjaekkcfaaQx0
namespace Go.Proofs.Ytehenjjaekkcfaa.Q
open Go.RowKit Go.Proofs.YtehenjjaekkcfaaW.PrintWords Go.Proofs.YtehenjjaekkcfaaW.PrintLast Go.Proofs.YtehenjjaekkcfaaW.PrintMore
attribute [local go_sem] max2_int min2_int max_two min_two max_three min_three max_four min_four   -- for this text's walks alone
set_option linter.unusedVariables false
set_option linter.unusedSimpArgs false

/-! ### spec_l6In: function 47 -/
def spec_l6In.f (a0 : Int) (a1 : Int) (a2 : Int) : Option (Bool) := if a0 ≥ a1 then (some (decide (a0 ≤ a2))) else (some false)
set_option maxHeartbeats 8000000 in
set_option maxRecDepth 100000 in
theorem spec_l6In.calls (a0 : Int) (a1 : Int) (a2 : Int) (r : Bool) (w : World) (h : spec_l6In.f a0 a1 a2 = some r) :
  Calls Try.prog 47 #[.int .i64 a0, .int .i64 a1, .int .i64 a2] w fun e w' => e = .returned (.bool r) ∧ Drawn0 w w' := by
 have H : (if a0 ≥ a1 then (some (decide (a0 ≤ a2))) else (some false)) = some r := h
 clear h
 by_cases c4 : a0 ≥ a1
 ·rw [if_pos c4] at H
  have c4b0 : decide (a1 ≤ a0) = true := decide_eq_true c4
  clear c4
  obtain rfl := Option.some.inj H
  go_enter Try.func47, Try.ntmps47
  go_wp2
  go_ret
  exact ⟨pF, by repeat (first | exact Drawn0.refl _ | apply Drawn0.step)⟩
 ·rw [if_neg c4] at H
  have c4b0 : decide (a1 ≤ a0) = false := decide_eq_false c4
  clear c4
  obtain rfl := Option.some.inj H
  go_enter Try.func47, Try.ntmps47
  go_wp2
  go_ret
  exact ⟨pF, by repeat (first | exact Drawn0.refl _ | apply Drawn0.step)⟩

/-! ### spec_l3Set: function 46 -/
def spec_l3Set.f (a0 : Int) : Option (Bool) := (spec_l6In.f a0 0 255).bind fun t101 => (some t101)
set_option maxHeartbeats 8000000 in
set_option maxRecDepth 100000 in
theorem spec_l3Set.calls (a0 : Int) (r : Bool) (w : World) (h : spec_l3Set.f a0 = some r) :
  Calls Try.prog 46 #[.int .i64 a0] w fun e w' => e = .returned (.bool r) ∧ Drawn0 w w' := by
 have H : ((spec_l6In.f a0 0 255).bind fun t101 => (some t101)) = some r := h
 clear h
 replace H := Option.bind_eq_some_iff.mp H
 obtain ⟨t101, A20, H⟩ := H
 replace H : (some t101) = some r := H
 have A2 := Aside0.mk A20
 clear A20
 obtain rfl := Option.some.inj H
 go_enter Try.func46, Try.ntmps46
 go_wp2_with (first | ((with_reducible refine gate_callee (f := 47) rfl ?_); refine goesL_ (some 4) rfl rfl Try.func47 pL rfl #[.int .i64 a0, .int .i64 0, .int .i64 255] rfl pM ?_; (with_reducible refine (spec_l6In.calls a0 0 255 t101 _ A2.out).mono ?_); rintro e w' ⟨rfl, ⟨nd, rfl⟩⟩; refine ⟨_, rfl, ?_⟩))
 go_ret
 exact ⟨pF, by repeat (first | exact Drawn0.refl _ | apply Drawn0.step)⟩

/-! ### spec_ChoicesValid: function 17 -/
def spec_ChoicesValid.l0 : Nat → List (S32) → Int → Option (Bool)
 | 0, _, _ => none
 | k + 1, x0, x3 => if x3 < (x0.length : Int) then (if 0 ≤ x3 then ((spec_l3Set.f ((rd_T32 x0 x3).f0)).bind fun t104 => (if t104 = true then ((spec_l6In.f ((rd_T32 x0 x3).f1) 1 5).bind fun t106 => (if t106 = true then ((spec_l6In.f ((rd_T32 x0 x3).f2) 0 10).bind fun t108 => (if t108 = true then (spec_ChoicesValid.l0 k x0 (wrap64 (x3 + 1))) else (some false))) else (some false))) else (some false))) else (none)) else ((spec_l6In.f (x0.length : Int) 1 4).bind fun t102 => (some t102))
def spec_ChoicesValid.f (k : Nat) (l0 : List (S32)) : Option (Bool) := spec_ChoicesValid.l0 k l0 0
theorem spec_ChoicesValid.mono_l : ∀ k, (∀ y0 y1, LeO (spec_ChoicesValid.l0 k y0 y1) (spec_ChoicesValid.l0 (k + 1) y0 y1))
 | 0 => fun _ _ r h => by simp [spec_ChoicesValid.l0] at h
 | k + 1 => by
  have ih0 := spec_ChoicesValid.mono_l k
  ·intro y0 y1
   unfold spec_ChoicesValid.l0
   repeat' first
   | (with_reducible exact ih0 _ _)
   | (with_reducible exact LeO.refl _)
   | (with_reducible exact LeO.none _)
   | (with_reducible refine LeO.ite ?_ ?_)
   | (with_reducible refine LeO.bind ?_ (fun _ => ?_))
   | exact ih0 _ _
   | exact LeO.none _
   | refine LeO.ite ?_ ?_
   | refine LeO.bind ?_ (fun _ => ?_)
theorem spec_ChoicesValid.mono : ∀ a0 k, LeO (spec_ChoicesValid.f k a0) (spec_ChoicesValid.f (k + 1) a0) := by
 intro a0 k
 have ih0 := spec_ChoicesValid.mono_l k
 unfold spec_ChoicesValid.f
 repeat' first
   | (with_reducible exact ih0 _ _)
   | (with_reducible exact LeO.refl _)
   | (with_reducible exact LeO.none _)
   | (with_reducible refine LeO.ite ?_ ?_)
   | (with_reducible refine LeO.bind ?_ (fun _ => ?_))
   | exact ih0 _ _
   | exact LeO.none _
   | refine LeO.ite ?_ ?_
   | refine LeO.bind ?_ (fun _ => ?_)
set_option maxHeartbeats 8000000 in
set_option maxRecDepth 100000 in
theorem spec_ChoicesValid.calls (k : Nat) (A0 : Option Addr) (c0 : Nat) (l0 : List (S32)) (r : Bool) (w : World) (hr0 : Kd.C k32 w A0 l0.length l0) (hc0 : l0.length ≤ c0) (h : spec_ChoicesValid.f k l0 = some r) :
  Calls Try.prog 17 #[.slice A0 l0.length c0] w fun e w' => e = .returned (.bool r) ∧ Drawn0 w w' := by
 have HR0 := Aside0.mk hr0
 have HC0 := Aside0.mk hc0
 clear hr0 hc0
 have H : (spec_ChoicesValid.l0 k l0 0) = some r := h
 clear h
 have H' := Aside0.mk H
 clear H
 go_enter Try.func17, Try.ntmps17
 go_wp2
 go_loopg [3] k (fun kq v3 w' => ∃ (x3_1 : Int), v3 = .int .i64 x3_1 ∧ Aside0 (spec_ChoicesValid.l0 kq l0 x3_1 = some r) ∧ Aside0 (kq ≤ k) ∧ Drawn0 w w')
 case atStart => exact ⟨(0), pF, H', ⟨Nat.le_refl _⟩, by repeat (first | exact Drawn0.refl _ | apply Drawn0.step)⟩
 case round =>
  clear H'
  try clear c1
  obtain ⟨x3_1, rfl, HA, HK1, ⟨m1, rfl⟩⟩ := hrel
  cases gk with
  | zero => exact absurd HA.out (by simp [spec_ChoicesValid.l0])
  | succ k1 =>
   have H := HA.out
   clear HA
   simp only [spec_ChoicesValid.l0] at H
   by_cases c2 : x3_1 < (l0.length : Int)
   ·rw [if_pos c2] at H
    have c2b0 : decide (x3_1 < (l0.length : Int)) = true := decide_eq_true c2
    clear c2
    by_cases c3 : 0 ≤ x3_1
    ·rw [if_pos c3] at H
     have c3b0 : decide (0 ≤ x3_1) = true := decide_eq_true c3
     clear c3
     replace H := Option.bind_eq_some_iff.mp H
     obtain ⟨t104, A40, H⟩ := H
     replace H : (if t104 = true then ((spec_l6In.f ((rd_T32 l0 x3_1).f1) 1 5).bind fun t106 => (if t106 = true then ((spec_l6In.f ((rd_T32 l0 x3_1).f2) 0 10).bind fun t108 => (if t108 = true then (spec_ChoicesValid.l0 k1 l0 (wrap64 (x3_1 + 1))) else (some false))) else (some false))) else (some false)) = some r := H
     have A4 := Aside0.mk A40
     clear A40
     by_cases c5 : t104 = true
     ·subst c5
      have H1 : ((spec_l6In.f ((rd_T32 l0 x3_1).f1) 1 5).bind fun t106 => (if t106 = true then ((spec_l6In.f ((rd_T32 l0 x3_1).f2) 0 10).bind fun t108 => (if t108 = true then (spec_ChoicesValid.l0 k1 l0 (wrap64 (x3_1 + 1))) else (some false))) else (some false))) = some r := by rw [if_pos rfl] at H; exact H
      clear H
      have H := H1
      clear H1
      replace H := Option.bind_eq_some_iff.mp H
      obtain ⟨t106, A60, H⟩ := H
      replace H : (if t106 = true then ((spec_l6In.f ((rd_T32 l0 x3_1).f2) 0 10).bind fun t108 => (if t108 = true then (spec_ChoicesValid.l0 k1 l0 (wrap64 (x3_1 + 1))) else (some false))) else (some false)) = some r := H
      have A6 := Aside0.mk A60
      clear A60
      by_cases c7 : t106 = true
      ·subst c7
       have H1 : ((spec_l6In.f ((rd_T32 l0 x3_1).f2) 0 10).bind fun t108 => (if t108 = true then (spec_ChoicesValid.l0 k1 l0 (wrap64 (x3_1 + 1))) else (some false))) = some r := by rw [if_pos rfl] at H; exact H
       clear H
       have H := H1
       clear H1
       replace H := Option.bind_eq_some_iff.mp H
       obtain ⟨t108, A80, H⟩ := H
       replace H : (if t108 = true then (spec_ChoicesValid.l0 k1 l0 (wrap64 (x3_1 + 1))) else (some false)) = some r := H
       have A8 := Aside0.mk A80
       clear A80
       by_cases c9 : t108 = true
       ·subst c9
        have H1 : (spec_ChoicesValid.l0 k1 l0 (wrap64 (x3_1 + 1))) = some r := by rw [if_pos rfl] at H; exact H
        clear H
        have H := H1
        clear H1
        have H' := Aside0.mk H
        clear H
        have p103 : 0 ≤ (x3_1 : Int) := of_decide_eq_true pA
        have q103 : x3_1 < (l0.length : Int) := of_decide_eq_true pA
        obtain ⟨ad103, e103, hx103_0, hx103_1, hx103_2⟩ := at_T32 HR0.out x3_1 p103 q103
        cases e103
        replace p103 := eq_true p103
        replace q103 := eq_true q103
        go_wp2_with (first | ((with_reducible refine gate_callee (f := 46) rfl ?_); refine goesL_ (some 15) rfl rfl Try.func46 pL rfl #[.int .i64 ((rd_T32 l0 x3_1).f0)] rfl pM ?_; (with_reducible refine (spec_l3Set.calls ((rd_T32 l0 x3_1).f0) true _ A4.out).mono ?_); rintro e w' ⟨rfl, ⟨nd, rfl⟩⟩; refine ⟨_, rfl, ?_⟩; have p105 : 0 ≤ (x3_1 : Int) := of_decide_eq_true pA; have q105 : x3_1 < (l0.length : Int) := of_decide_eq_true pA; obtain ⟨ad105, e105, hx105_0, hx105_1, hx105_2⟩ := at_T32 HR0.out x3_1 p105 q105; obtain rfl : ad103 = ad105 := (by injection e105); replace p105 := eq_true p105; replace q105 := eq_true q105) | (go_at_call 47; (with_reducible refine (spec_l6In.calls ((rd_T32 l0 x3_1).f1) 1 5 true _ A6.out).mono ?_); rintro e w' ⟨rfl, ⟨nd, rfl⟩⟩; have p107 : 0 ≤ (x3_1 : Int) := of_decide_eq_true pA; have q107 : x3_1 < (l0.length : Int) := of_decide_eq_true pA; obtain ⟨ad107, e107, hx107_0, hx107_1, hx107_2⟩ := at_T32 HR0.out x3_1 p107 q107; obtain rfl : ad103 = ad107 := (by injection e107); replace p107 := eq_true p107; replace q107 := eq_true q107) | (go_at_call 47; (with_reducible refine (spec_l6In.calls ((rd_T32 l0 x3_1).f2) 0 10 true _ A8.out).mono ?_); rintro e w' ⟨rfl, ⟨nd, rfl⟩⟩))
        go_roundg k1
        case measure => have := HK1.out; omega
        case rel => exact ⟨(wrap64 (x3_1 + 1)), pF, H', ⟨by have := HK1.out; omega⟩, by repeat (first | exact Drawn0.refl _ | apply Drawn0.step)⟩
       ·replace c9 := Bool.eq_false_iff.mpr c9
        subst c9
        have H1 : (some false) = some r := by rw [if_neg (show ¬ (false = true) by decide)] at H; exact H
        clear H
        have H := H1
        clear H1
        obtain rfl := Option.some.inj H
        have p103 : 0 ≤ (x3_1 : Int) := of_decide_eq_true pA
        have q103 : x3_1 < (l0.length : Int) := of_decide_eq_true pA
        obtain ⟨ad103, e103, hx103_0, hx103_1, hx103_2⟩ := at_T32 HR0.out x3_1 p103 q103
        cases e103
        replace p103 := eq_true p103
        replace q103 := eq_true q103
        go_wp2_with (first | ((with_reducible refine gate_callee (f := 46) rfl ?_); refine goesL_ (some 15) rfl rfl Try.func46 pL rfl #[.int .i64 ((rd_T32 l0 x3_1).f0)] rfl pM ?_; (with_reducible refine (spec_l3Set.calls ((rd_T32 l0 x3_1).f0) true _ A4.out).mono ?_); rintro e w' ⟨rfl, ⟨nd, rfl⟩⟩; refine ⟨_, rfl, ?_⟩; have p105 : 0 ≤ (x3_1 : Int) := of_decide_eq_true pA; have q105 : x3_1 < (l0.length : Int) := of_decide_eq_true pA; obtain ⟨ad105, e105, hx105_0, hx105_1, hx105_2⟩ := at_T32 HR0.out x3_1 p105 q105; obtain rfl : ad103 = ad105 := (by injection e105); replace p105 := eq_true p105; replace q105 := eq_true q105) | (go_at_call 47; (with_reducible refine (spec_l6In.calls ((rd_T32 l0 x3_1).f1) 1 5 true _ A6.out).mono ?_); rintro e w' ⟨rfl, ⟨nd, rfl⟩⟩; have p107 : 0 ≤ (x3_1 : Int) := of_decide_eq_true pA; have q107 : x3_1 < (l0.length : Int) := of_decide_eq_true pA; obtain ⟨ad107, e107, hx107_0, hx107_1, hx107_2⟩ := at_T32 HR0.out x3_1 p107 q107; obtain rfl : ad103 = ad107 := (by injection e107); replace p107 := eq_true p107; replace q107 := eq_true q107) | (go_at_call 47; (with_reducible refine (spec_l6In.calls ((rd_T32 l0 x3_1).f2) 0 10 false _ A8.out).mono ?_); rintro e w' ⟨rfl, ⟨nd, rfl⟩⟩))
        go_ret
        exact ⟨pF, by repeat (first | exact Drawn0.refl _ | apply Drawn0.step)⟩
      ·replace c7 := Bool.eq_false_iff.mpr c7
       subst c7
       have H1 : (some false) = some r := by rw [if_neg (show ¬ (false = true) by decide)] at H; exact H
       clear H
       have H := H1
       clear H1
       obtain rfl := Option.some.inj H
       have p103 : 0 ≤ (x3_1 : Int) := of_decide_eq_true pA
       have q103 : x3_1 < (l0.length : Int) := of_decide_eq_true pA
       obtain ⟨ad103, e103, hx103_0, hx103_1, hx103_2⟩ := at_T32 HR0.out x3_1 p103 q103
       cases e103
       replace p103 := eq_true p103
       replace q103 := eq_true q103
       go_wp2_with (first | ((with_reducible refine gate_callee (f := 46) rfl ?_); refine goesL_ (some 15) rfl rfl Try.func46 pL rfl #[.int .i64 ((rd_T32 l0 x3_1).f0)] rfl pM ?_; (with_reducible refine (spec_l3Set.calls ((rd_T32 l0 x3_1).f0) true _ A4.out).mono ?_); rintro e w' ⟨rfl, ⟨nd, rfl⟩⟩; refine ⟨_, rfl, ?_⟩; have p105 : 0 ≤ (x3_1 : Int) := of_decide_eq_true pA; have q105 : x3_1 < (l0.length : Int) := of_decide_eq_true pA; obtain ⟨ad105, e105, hx105_0, hx105_1, hx105_2⟩ := at_T32 HR0.out x3_1 p105 q105; obtain rfl : ad103 = ad105 := (by injection e105); replace p105 := eq_true p105; replace q105 := eq_true q105) | (go_at_call 47; (with_reducible refine (spec_l6In.calls ((rd_T32 l0 x3_1).f1) 1 5 false _ A6.out).mono ?_); rintro e w' ⟨rfl, ⟨nd, rfl⟩⟩))
       go_ret
       exact ⟨pF, by repeat (first | exact Drawn0.refl _ | apply Drawn0.step)⟩
     ·replace c5 := Bool.eq_false_iff.mpr c5
      subst c5
      have H1 : (some false) = some r := by rw [if_neg (show ¬ (false = true) by decide)] at H; exact H
      clear H
      have H := H1
      clear H1
      obtain rfl := Option.some.inj H
      have p103 : 0 ≤ (x3_1 : Int) := of_decide_eq_true pA
      have q103 : x3_1 < (l0.length : Int) := of_decide_eq_true pA
      obtain ⟨ad103, e103, hx103_0, hx103_1, hx103_2⟩ := at_T32 HR0.out x3_1 p103 q103
      cases e103
      replace p103 := eq_true p103
      replace q103 := eq_true q103
      go_wp2_with (first | ((with_reducible refine gate_callee (f := 46) rfl ?_); refine goesL_ (some 15) rfl rfl Try.func46 pL rfl #[.int .i64 ((rd_T32 l0 x3_1).f0)] rfl pM ?_; (with_reducible refine (spec_l3Set.calls ((rd_T32 l0 x3_1).f0) false _ A4.out).mono ?_); rintro e w' ⟨rfl, ⟨nd, rfl⟩⟩; refine ⟨_, rfl, ?_⟩))
      go_ret
      exact ⟨pF, by repeat (first | exact Drawn0.refl _ | apply Drawn0.step)⟩
    ·rw [if_neg c3] at H
     exact absurd H (by simp)
   ·rw [if_neg c2] at H
    have c2b0 : decide (x3_1 < (l0.length : Int)) = false := decide_eq_false c2
    clear c2
    replace H := Option.bind_eq_some_iff.mp H
    obtain ⟨t102, A100, H⟩ := H
    replace H : (some t102) = some r := H
    have A10 := Aside0.mk A100
    clear A100
    obtain rfl := Option.some.inj H
    go_wp2_with (first | ((with_reducible refine gate_callee (f := 47) rfl ?_); refine goesL_ (some 37) rfl rfl Try.func47 pL rfl #[.int .i64 (l0.length : Int), .int .i64 1, .int .i64 4] rfl pM ?_; (with_reducible refine (spec_l6In.calls (l0.length : Int) 1 4 t102 _ A10.out).mono ?_); rintro e w' ⟨rfl, ⟨nd, rfl⟩⟩; refine ⟨_, rfl, ?_⟩))
    go_ret
    exact ⟨pF, by repeat (first | exact Drawn0.refl _ | apply Drawn0.step)⟩

/-! ### impl_within: function 49 -/
def impl_within.f (a0 : Int) (a1 : Int) (a2 : Int) : Option (Bool) := if a0 ≥ a1 then (some (decide (a0 ≤ a2))) else (some false)
set_option maxHeartbeats 8000000 in
set_option maxRecDepth 100000 in
theorem impl_within.calls (a0 : Int) (a1 : Int) (a2 : Int) (r : Bool) (w : World) (h : impl_within.f a0 a1 a2 = some r) :
  Calls Try.prog 49 #[.int .i64 a0, .int .i64 a1, .int .i64 a2] w fun e w' => e = .returned (.bool r) ∧ Drawn0 w w' := by
 have H : (if a0 ≥ a1 then (some (decide (a0 ≤ a2))) else (some false)) = some r := h
 clear h
 by_cases c4 : a0 ≥ a1
 ·rw [if_pos c4] at H
  have c4b0 : decide (a1 ≤ a0) = true := decide_eq_true c4
  clear c4
  obtain rfl := Option.some.inj H
  go_enter Try.func49, Try.ntmps49
  go_wp2
  go_ret
  exact ⟨pF, by repeat (first | exact Drawn0.refl _ | apply Drawn0.step)⟩
 ·rw [if_neg c4] at H
  have c4b0 : decide (a1 ≤ a0) = false := decide_eq_false c4
  clear c4
  obtain rfl := Option.some.inj H
  go_enter Try.func49, Try.ntmps49
  go_wp2
  go_ret
  exact ⟨pF, by repeat (first | exact Drawn0.refl _ | apply Drawn0.step)⟩

-- NOT PRINTED: function 59 (impl_Choice_59)

-- NOT PRINTED: function 50 (impl_Choice_50)

/-! ### impl_isSet: function 52 -/
def impl_isSet.f (a0 : Int) : Option (Bool) := (impl_within.f a0 0 255).bind fun t120 => (some t120)
set_option maxHeartbeats 8000000 in
set_option maxRecDepth 100000 in
theorem impl_isSet.calls (a0 : Int) (r : Bool) (w : World) (h : impl_isSet.f a0 = some r) :
  Calls Try.prog 52 #[.int .i64 a0] w fun e w' => e = .returned (.bool r) ∧ Drawn0 w w' := by
 have H : ((impl_within.f a0 0 255).bind fun t120 => (some t120)) = some r := h
 clear h
 replace H := Option.bind_eq_some_iff.mp H
 obtain ⟨t120, A20, H⟩ := H
 replace H : (some t120) = some r := H
 have A2 := Aside0.mk A20
 clear A20
 obtain rfl := Option.some.inj H
 go_enter Try.func52, Try.ntmps52
 go_wp2_with (first | ((with_reducible refine gate_callee (f := 49) rfl ?_); refine goesL_ (some 4) rfl rfl Try.func49 pL rfl #[.int .i64 a0, .int .i64 0, .int .i64 255] rfl pM ?_; (with_reducible refine (impl_within.calls a0 0 255 t120 _ A2.out).mono ?_); rintro e w' ⟨rfl, ⟨nd, rfl⟩⟩; refine ⟨_, rfl, ?_⟩))
 go_ret
 exact ⟨pF, by repeat (first | exact Drawn0.refl _ | apply Drawn0.step)⟩

/-! ### impl_isKind: function 53 -/
def impl_isKind.f (a0 : Int) : Option (Bool) := (impl_within.f a0 1 5).bind fun t121 => (some t121)
set_option maxHeartbeats 8000000 in
set_option maxRecDepth 100000 in
theorem impl_isKind.calls (a0 : Int) (r : Bool) (w : World) (h : impl_isKind.f a0 = some r) :
  Calls Try.prog 53 #[.int .i64 a0] w fun e w' => e = .returned (.bool r) ∧ Drawn0 w w' := by
 have H : ((impl_within.f a0 1 5).bind fun t121 => (some t121)) = some r := h
 clear h
 replace H := Option.bind_eq_some_iff.mp H
 obtain ⟨t121, A20, H⟩ := H
 replace H : (some t121) = some r := H
 have A2 := Aside0.mk A20
 clear A20
 obtain rfl := Option.some.inj H
 go_enter Try.func53, Try.ntmps53
 go_wp2_with (first | ((with_reducible refine gate_callee (f := 49) rfl ?_); refine goesL_ (some 4) rfl rfl Try.func49 pL rfl #[.int .i64 a0, .int .i64 1, .int .i64 5] rfl pM ?_; (with_reducible refine (impl_within.calls a0 1 5 t121 _ A2.out).mono ?_); rintro e w' ⟨rfl, ⟨nd, rfl⟩⟩; refine ⟨_, rfl, ?_⟩))
 go_ret
 exact ⟨pF, by repeat (first | exact Drawn0.refl _ | apply Drawn0.step)⟩

/-! ### impl_ChoicesValid: function 19 -/
-- by hand
set_option maxHeartbeats 4000000 in
set_option maxRecDepth 100000 in
/-- slices.IndexFunc: the first element of which the predicate holds. -/
theorem indexChoice (p : S32 → Bool) (g : Nat) (lb : Array Value) (eg : ∀ args w, (callFunc g args).run Try.prog w = .ok (.enter g args) w) (A0 : Option Addr) (c0 : Nat) (l0 : List (S32)) (w : World) (hr0 : Kd.C k32 w A0 l0.length l0) (hc0 : l0.length ≤ c0)
    (hp : ∀ (W : World) (x : S32), Below w.heap.size w W → Calls Try.prog g (#[.agg #[.int .i64 x.f0, .int .i64 x.f1, .int .i64 x.f2]] ++ lb) W fun e w' => e = .returned (.bool (p x)) ∧ Below w.heap.size w w') :
    Calls Try.prog 59 #[.slice A0 l0.length c0, .func (.func g) #[] lb] w fun e w' => e = .returned (.int .i64 (idxOf p l0)) ∧ Below w.heap.size w w' := by
  have hu32 := Try.underlying32
  have HR0 := Aside0.mk hr0
  have HC0 := Aside0.mk hc0
  have HP := Aside0.mk hp
  have hn : l0.length ≤ 9223372036854775807 := hr0.2.1
  clear hr0 hc0 hp
  go_enter Try.func59, Try.ntmps59
  go_wp2
  go_loopg [5, 8] l0.length (fun gg _ s8 wr => ∃ x : Int, Aside0 (0 ≤ x ∧ x ≤ (l0.length : Int)) ∧ Aside0 (((l0.length : Int) - x).toNat ≤ gg) ∧ s8 = .int .i64 x ∧ Aside0 (Below w.heap.size w wr) ∧ Aside0 (∀ j : Nat, (j : Int) < x → p (l0.getD j z32) = false))
  case atStart => exact ⟨0, ⟨by omega⟩, ⟨by omega⟩, rfl, ⟨Below.refl _ w⟩, ⟨fun j hj => absurd hj (by omega)⟩⟩
  case round =>
    obtain ⟨x, HX, HG, rfl, HB, HQ⟩ := hrel
    by_cases hlt : x < (l0.length : Int)
    · have c3b0 : decide (x < (l0.length : Int)) = true := decide_eq_true hlt
      have HLT := Aside0.mk hlt
      have p1 : 0 ≤ x := HX.out.1
      obtain ⟨ad, ea, hx0, hx1, hx2⟩ := at_T32 (Kd.C_below HR0.out HB.out) x p1 hlt
      cases ea
      have hcall := HP.out wr (rd_T32 l0 x) HB.out
      have HY : Aside0 (rd_T32 l0 x = l0.getD x.toNat z32) := ⟨rfl⟩
      have ew : wrap64 (x + 1) = x + 1 := by unfold wrap64; omega
      have EW := Aside0.mk ew
      clear ew
      replace p1 := eq_true p1
      replace hlt := eq_true hlt
      generalize rd_T32 l0 x = y at hx0 hx1 hx2 hcall HY
      cases hq : p y with
      | true =>
        rw [hq] at hcall
        have HQQ := Aside0.mk hq
        clear hq
        go_wp2_with fail
        refine hcall.mono ?_
        rintro e w' ⟨rfl, hb'⟩
        go_wp2
        go_ret
        refine ⟨?_, hb'⟩
        show Ending.returned (.int .i64 x) = _
        rw [idxOf_hit p l0 z32 x.toNat (by have := HX.out; have := HLT.out; omega) (by rw [← HY.out]; exact HQQ.out) (fun j hj => HQ.out j (by have := HX.out; omega)), Int.toNat_of_nonneg HX.out.1]
      | false =>
        rw [hq] at hcall
        have HQQ := Aside0.mk hq
        clear hq
        go_wp2_with fail
        refine hcall.mono ?_
        rintro e w' ⟨rfl, hb'⟩
        go_wp2
        go_roundg ((l0.length : Int) - (x + 1)).toNat
        case measure => have := HX.out; have := HG.out; have := HLT.out; omega
        case rel =>
          refine ⟨x + 1, ⟨by have := HX.out; have := HLT.out; omega⟩, ⟨Nat.le_refl _⟩, by first | rfl | (rw [EW.out]; done), ⟨hb'⟩, ⟨fun j hj => ?_⟩⟩
          by_cases e : (j : Int) = x
          · obtain rfl : x.toNat = j := by omega
            rw [← HY.out]; exact HQQ.out
          · exact HQ.out j (by omega)
    · have c3b0 : decide (x < (l0.length : Int)) = false := decide_eq_false hlt
      have HLT := Aside0.mk hlt
      clear hlt
      go_wp2
      go_ret
      refine ⟨?_, HB.out⟩
      show Ending.returned (.int .i64 (-1)) = _
      rw [idxOf_miss p l0 z32 (fun j hj => HQ.out j (by have := HX.out; have := HLT.out; omega))]
set_option maxHeartbeats 4000000 in
set_option maxRecDepth 100000 in
theorem containsChoice (p : S32 → Bool) (g : Nat) (lb : Array Value) (eg : ∀ args w, (callFunc g args).run Try.prog w = .ok (.enter g args) w) (A0 : Option Addr) (c0 : Nat) (l0 : List (S32)) (w : World) (hr0 : Kd.C k32 w A0 l0.length l0) (hc0 : l0.length ≤ c0)
    (hp : ∀ (W : World) (x : S32), Below w.heap.size w W → Calls Try.prog g (#[.agg #[.int .i64 x.f0, .int .i64 x.f1, .int .i64 x.f2]] ++ lb) W fun e w' => e = .returned (.bool (p x)) ∧ Below w.heap.size w w') :
    Calls Try.prog 50 #[.slice A0 l0.length c0, .func (.func g) #[] lb] w fun e w' => e = .returned (.bool (l0.any p)) ∧ Below w.heap.size w w' := by
  have HI := Aside0.mk (indexChoice p g lb eg A0 c0 l0 w hr0 hc0 hp)
  have HA := Aside0.mk (idxOf_any p l0)
  clear hr0 hc0 hp
  go_enter Try.func50, Try.ntmps50
  go_wp2_with fail
  refine HI.out.mono ?_
  rintro e w' ⟨rfl, hb'⟩
  generalize idxOf p l0 = n at HA
  go_wp2
  go_ret
  refine ⟨?_, hb'⟩
  show Ending.returned (.bool (decide (n ≥ 0))) = _
  rw [HA.out]
def impl_ChoicesValid.bad (x : S32) : Bool := if 0 ≤ x.f0 ∧ x.f0 ≤ 255 then if 1 ≤ x.f1 ∧ x.f1 ≤ 5 then !(decide (0 ≤ x.f2 ∧ x.f2 ≤ 10)) else true else true
def impl_ChoicesValid.f (l0 : List S32) : Option Bool := if 1 ≤ (l0.length : Int) ∧ (l0.length : Int) ≤ 4 then some (!(l0.any impl_ChoicesValid.bad)) else some false
theorem impl_ChoicesValid.within_at (a b c : Int) : impl_within.f a b c = some (decide (b ≤ a ∧ a ≤ c)) := by
  unfold impl_within.f
  by_cases h : a ≥ b
  · rw [if_pos h]; simp [h]
  · rw [if_neg h]; simp; omega
set_option maxHeartbeats 4000000 in
set_option maxRecDepth 100000 in
theorem impl_ChoicesValid.lit (x : S32) (W : World) :
    Calls Try.prog 51 #[.agg #[.int .i64 x.f0, .int .i64 x.f1, .int .i64 x.f2]] W fun e w' => e = .returned (.bool (impl_ChoicesValid.bad x)) ∧ Below W.heap.size W w' := by
  have hu32 := Try.underlying32
  obtain ⟨a0, a1, a2⟩ := x
  unfold impl_ChoicesValid.bad
  simp only
  have V0 := Aside0.mk (show impl_isSet.f a0 = some (decide (0 ≤ a0 ∧ a0 ≤ 255)) by simp only [impl_isSet.f, impl_ChoicesValid.within_at, Option.bind_some])
  have V1 := Aside0.mk (show impl_isKind.f a1 = some (decide (1 ≤ a1 ∧ a1 ≤ 5)) by simp only [impl_isKind.f, impl_ChoicesValid.within_at, Option.bind_some])
  have V2 := Aside0.mk (impl_ChoicesValid.within_at a2 0 10)
  by_cases h0 : 0 ≤ a0 ∧ a0 ≤ 255
  · rw [if_pos h0]
    rw [decide_eq_true h0] at V0
    clear h0
    by_cases h1 : 1 ≤ a1 ∧ a1 ≤ 5
    · rw [if_pos h1]
      rw [decide_eq_true h1] at V1
      clear h1
      generalize decide (0 ≤ a2 ∧ a2 ≤ 10) = v2 at V2
      go_enter Try.func51, Try.ntmps51
      go_wp2_with fail
      refine (impl_isSet.calls _ _ _ V0.out).mono ?_
      rintro e w1 ⟨rfl, hb1⟩
      have hb1_ := hb1.below
      clear hb1
      have hb1 := hb1_
      clear hb1_
      have g1 : Below (W.heap.size + 1) (W.alloc (.cells #[.int .i64 a0, .int .i64 a1, .int .i64 a2] 32)) w1 := by simpa using hb1
      have d1_0 : w1.cell? ⟨W.heap.size, 0, none⟩ = some (.int .i64 a0) := (g1.cell (p := ⟨W.heap.size, 0, none⟩) (by simp)).trans (by simp)
      have d1_1 : w1.cell? ⟨W.heap.size, 1, none⟩ = some (.int .i64 a1) := (g1.cell (p := ⟨W.heap.size, 1, none⟩) (by simp)).trans (by simp)
      have d1_2 : w1.cell? ⟨W.heap.size, 2, none⟩ = some (.int .i64 a2) := (g1.cell (p := ⟨W.heap.size, 2, none⟩) (by simp)).trans (by simp)
      have F1 : Aside0 (Below W.heap.size W w1) := ⟨below_then (below_alloc (Below.refl _ _) _) (by simp) (by simpa using g1)⟩
      have G1 := Aside0.mk g1
      have gz1 := g1.size
      simp at gz1
      clear hb1 g1
      go_wp2_with fail
      refine (impl_isKind.calls _ _ _ V1.out).mono ?_
      rintro e w2 ⟨rfl, hb2⟩
      have hb2_ := hb2.below
      clear hb2
      have hb2 := hb2_
      clear hb2_
      have g2 := Below.trans G1.out (hb2.mono (by have := G1.out.size; simp at this; omega))
      have d2_0 : w2.cell? ⟨W.heap.size, 0, none⟩ = some (.int .i64 a0) := (g2.cell (p := ⟨W.heap.size, 0, none⟩) (by simp)).trans (by simp)
      have d2_1 : w2.cell? ⟨W.heap.size, 1, none⟩ = some (.int .i64 a1) := (g2.cell (p := ⟨W.heap.size, 1, none⟩) (by simp)).trans (by simp)
      have d2_2 : w2.cell? ⟨W.heap.size, 2, none⟩ = some (.int .i64 a2) := (g2.cell (p := ⟨W.heap.size, 2, none⟩) (by simp)).trans (by simp)
      have F2 : Aside0 (Below W.heap.size W w2) := ⟨below_then (below_alloc (Below.refl _ _) _) (by simp) (by simpa using g2)⟩
      have G2 := Aside0.mk g2
      have gz2 := g2.size
      simp at gz2
      clear hb2 g2
      go_wp2_with fail
      refine (impl_within.calls _ _ _ _ _ V2.out).mono ?_
      rintro e w3 ⟨rfl, hb3⟩
      have hb3_ := hb3.below
      clear hb3
      have hb3 := hb3_
      clear hb3_
      have g3 := Below.trans G2.out (hb3.mono (by have := G2.out.size; simp at this; omega))
      have d3_0 : w3.cell? ⟨W.heap.size, 0, none⟩ = some (.int .i64 a0) := (g3.cell (p := ⟨W.heap.size, 0, none⟩) (by simp)).trans (by simp)
      have d3_1 : w3.cell? ⟨W.heap.size, 1, none⟩ = some (.int .i64 a1) := (g3.cell (p := ⟨W.heap.size, 1, none⟩) (by simp)).trans (by simp)
      have d3_2 : w3.cell? ⟨W.heap.size, 2, none⟩ = some (.int .i64 a2) := (g3.cell (p := ⟨W.heap.size, 2, none⟩) (by simp)).trans (by simp)
      have F3 : Aside0 (Below W.heap.size W w3) := ⟨below_then (below_alloc (Below.refl _ _) _) (by simp) (by simpa using g3)⟩
      have G3 := Aside0.mk g3
      have gz3 := g3.size
      simp at gz3
      clear hb3 g3
      go_wp2
      go_ret
      exact ⟨rfl, F3.out⟩
    · rw [if_neg h1]
      rw [decide_eq_false h1] at V1
      clear h1
      go_enter Try.func51, Try.ntmps51
      go_wp2_with fail
      refine (impl_isSet.calls _ _ _ V0.out).mono ?_
      rintro e w1 ⟨rfl, hb1⟩
      have hb1_ := hb1.below
      clear hb1
      have hb1 := hb1_
      clear hb1_
      have g1 : Below (W.heap.size + 1) (W.alloc (.cells #[.int .i64 a0, .int .i64 a1, .int .i64 a2] 32)) w1 := by simpa using hb1
      have d1_0 : w1.cell? ⟨W.heap.size, 0, none⟩ = some (.int .i64 a0) := (g1.cell (p := ⟨W.heap.size, 0, none⟩) (by simp)).trans (by simp)
      have d1_1 : w1.cell? ⟨W.heap.size, 1, none⟩ = some (.int .i64 a1) := (g1.cell (p := ⟨W.heap.size, 1, none⟩) (by simp)).trans (by simp)
      have d1_2 : w1.cell? ⟨W.heap.size, 2, none⟩ = some (.int .i64 a2) := (g1.cell (p := ⟨W.heap.size, 2, none⟩) (by simp)).trans (by simp)
      have F1 : Aside0 (Below W.heap.size W w1) := ⟨below_then (below_alloc (Below.refl _ _) _) (by simp) (by simpa using g1)⟩
      have G1 := Aside0.mk g1
      have gz1 := g1.size
      simp at gz1
      clear hb1 g1
      go_wp2_with fail
      refine (impl_isKind.calls _ _ _ V1.out).mono ?_
      rintro e w2 ⟨rfl, hb2⟩
      have hb2_ := hb2.below
      clear hb2
      have hb2 := hb2_
      clear hb2_
      have g2 := Below.trans G1.out (hb2.mono (by have := G1.out.size; simp at this; omega))
      have d2_0 : w2.cell? ⟨W.heap.size, 0, none⟩ = some (.int .i64 a0) := (g2.cell (p := ⟨W.heap.size, 0, none⟩) (by simp)).trans (by simp)
      have d2_1 : w2.cell? ⟨W.heap.size, 1, none⟩ = some (.int .i64 a1) := (g2.cell (p := ⟨W.heap.size, 1, none⟩) (by simp)).trans (by simp)
      have d2_2 : w2.cell? ⟨W.heap.size, 2, none⟩ = some (.int .i64 a2) := (g2.cell (p := ⟨W.heap.size, 2, none⟩) (by simp)).trans (by simp)
      have F2 : Aside0 (Below W.heap.size W w2) := ⟨below_then (below_alloc (Below.refl _ _) _) (by simp) (by simpa using g2)⟩
      have G2 := Aside0.mk g2
      have gz2 := g2.size
      simp at gz2
      clear hb2 g2
      go_wp2
      go_ret
      exact ⟨rfl, F2.out⟩
  · rw [if_neg h0]
    rw [decide_eq_false h0] at V0
    clear h0
    go_enter Try.func51, Try.ntmps51
    go_wp2_with fail
    refine (impl_isSet.calls _ _ _ V0.out).mono ?_
    rintro e w1 ⟨rfl, hb1⟩
    have hb1_ := hb1.below
    clear hb1
    have hb1 := hb1_
    clear hb1_
    have g1 : Below (W.heap.size + 1) (W.alloc (.cells #[.int .i64 a0, .int .i64 a1, .int .i64 a2] 32)) w1 := by simpa using hb1
    have d1_0 : w1.cell? ⟨W.heap.size, 0, none⟩ = some (.int .i64 a0) := (g1.cell (p := ⟨W.heap.size, 0, none⟩) (by simp)).trans (by simp)
    have d1_1 : w1.cell? ⟨W.heap.size, 1, none⟩ = some (.int .i64 a1) := (g1.cell (p := ⟨W.heap.size, 1, none⟩) (by simp)).trans (by simp)
    have d1_2 : w1.cell? ⟨W.heap.size, 2, none⟩ = some (.int .i64 a2) := (g1.cell (p := ⟨W.heap.size, 2, none⟩) (by simp)).trans (by simp)
    have F1 : Aside0 (Below W.heap.size W w1) := ⟨below_then (below_alloc (Below.refl _ _) _) (by simp) (by simpa using g1)⟩
    have G1 := Aside0.mk g1
    have gz1 := g1.size
    simp at gz1
    clear hb1 g1
    go_wp2
    go_ret
    exact ⟨rfl, F1.out⟩
theorem impl_ChoicesValid.enters : ∀ args w, (callFunc 51 args).run Try.prog w = .ok (.enter 51 args) w := by
  intro args w
  have h1 : Try.f51.name ≠ "runtime.NumGoroutine" := of_decide_eq_true pL
  have hb : ∃ c, Try.f51.body = some c := ⟨_, rfl⟩
  obtain ⟨c, hb⟩ := hb
  simp [callFunc, Try.func51, h1, hb, mark]
set_option maxHeartbeats 4000000 in
set_option maxRecDepth 100000 in
theorem impl_ChoicesValid.calls (A0 : Option Addr) (c0 : Nat) (l0 : List (S32)) (r : Bool) (w : World) (hr0 : Kd.C k32 w A0 l0.length l0) (hc0 : l0.length ≤ c0) (h : impl_ChoicesValid.f l0 = some r) :
    Calls Try.prog 19 #[.slice A0 l0.length c0] w fun e w' => e = .returned (.bool r) ∧ Below w.heap.size w w' := by
  unfold impl_ChoicesValid.f at h
  have HW := Aside0.mk (impl_ChoicesValid.within_at (l0.length : Int) 1 4)
  have HQ : Aside0 (∀ W, Below w.heap.size w W → Calls Try.prog 50 #[.slice A0 l0.length c0, .func (.func 51) #[] #[]] W fun e w' => e = .returned (.bool (l0.any impl_ChoicesValid.bad)) ∧ Below W.heap.size W w') := ⟨fun W hW =>
    containsChoice impl_ChoicesValid.bad 51 #[] impl_ChoicesValid.enters A0 c0 l0 W (Kd.C_below hr0 hW) hc0 (fun W2 x hb2 => (impl_ChoicesValid.lit x W2).mono fun e w' ⟨he, hb3⟩ => ⟨he, Below.trans hb2 (hb3.mono hb2.size)⟩)⟩
  have hn : l0.length ≤ 9223372036854775807 := hr0.2.1
  clear hr0 hc0
  by_cases hl : 1 ≤ (l0.length : Int) ∧ (l0.length : Int) ≤ 4
  · rw [if_pos hl] at h
    obtain rfl := Option.some.inj h
    rw [decide_eq_true hl] at HW
    clear hl h
    generalize l0.any impl_ChoicesValid.bad = v at HQ
    go_enter Try.func19, Try.ntmps19
    go_wp2_with fail
    refine (impl_within.calls _ _ _ _ _ HW.out).mono ?_
    rintro e w1 ⟨rfl, hd⟩
    have HB := Aside0.mk hd.below
    clear hd
    go_wp2_with fail
    refine (HQ.out _ HB.out).mono ?_
    rintro e w2 ⟨rfl, hb2⟩
    have HB2 := Aside0.mk hb2
    clear hb2
    go_wp2
    go_ret
    exact ⟨rfl, below_then HB.out HB.out.size HB2.out⟩
  · rw [if_neg hl] at h
    obtain rfl := Option.some.inj h
    rw [decide_eq_false hl] at HW
    clear hl h
    go_enter Try.func19, Try.ntmps19
    go_wp2_with fail
    refine (impl_within.calls _ _ _ _ _ HW.out).mono ?_
    rintro e w1 ⟨rfl, hd⟩
    have HB := Aside0.mk hd.below
    clear hd
    go_wp2
    go_ret
    exact ⟨rfl, HB.out⟩

end Go.Proofs.Ytehenjjaekkcfaa.Q
