-- Written by the kit's print.py for all laws of the seat at once (one namespace), by a program of this session.
import Derived.Test.YtglpjchpgjaanaaQx0
import Derived.Test.YtglpjchpgjaanaaQx2
import Derived.Test.YtglpjchpgjaanaaQx12
import Derived.Test.YtglpjchpgjaanaaQx13
import Derived.Test.YtglpjchpgjaanaaQx19
namespace Go.Proofs.Ytglpjchpgjaanaa.Q
open Go.RowKit Go.Proofs.YtglpjchpgjaanaaW.PrintWords Go.Proofs.YtglpjchpgjaanaaW.PrintLast Go.Proofs.YtglpjchpgjaanaaW.PrintMore
attribute [local go_sem] max2_int min2_int max_two min_two max_three min_three max_four min_four   -- for this text's walks alone
set_option linter.unusedVariables false
set_option linter.unusedSimpArgs false

/-! ### laws_heldIntS: function 30 -/
def laws_heldIntS.l0 : Nat → List Int → Int → Int → Option (Int)
 | 0, _, _, _ => none
 | k + 1, x0, x1, x5 => if x5 < (x0.length : Int) then (if 0 ≤ x5 then (if (rd x0 x5) = x1 then (laws_heldIntS.l0 k x0 (wrap64 (x1 + 1)) (wrap64 (x5 + 1))) else (some (-1))) else (none)) else (some x1)
def laws_heldIntS.f (k : Nat) (l0 : List Int) (a1 : Int) : Option (Int) := laws_heldIntS.l0 k l0 a1 0
theorem laws_heldIntS.mono_l : ∀ k, (∀ y0 y1 y2, LeO (laws_heldIntS.l0 k y0 y1 y2) (laws_heldIntS.l0 (k + 1) y0 y1 y2))
 | 0 => fun _ _ _ r h => by simp [laws_heldIntS.l0] at h
 | k + 1 => by
  have ih0 := laws_heldIntS.mono_l k
  ·intro y0 y1 y2
   unfold laws_heldIntS.l0
   repeat' first
   | (with_reducible exact ih0 _ _ _)
   | (with_reducible exact LeO.refl _)
   | (with_reducible exact LeO.none _)
   | (with_reducible refine LeO.ite ?_ ?_)
   | (with_reducible refine LeO.bind ?_ (fun _ => ?_))
   | exact ih0 _ _ _
   | exact LeO.none _
   | refine LeO.ite ?_ ?_
   | refine LeO.bind ?_ (fun _ => ?_)
theorem laws_heldIntS.mono : ∀ a0 a1 k, LeO (laws_heldIntS.f k a0 a1) (laws_heldIntS.f (k + 1) a0 a1) := by
 intro a0 a1 k
 have ih0 := laws_heldIntS.mono_l k
 unfold laws_heldIntS.f
 repeat' first
   | (with_reducible exact ih0 _ _ _)
   | (with_reducible exact LeO.refl _)
   | (with_reducible exact LeO.none _)
   | (with_reducible refine LeO.ite ?_ ?_)
   | (with_reducible refine LeO.bind ?_ (fun _ => ?_))
   | exact ih0 _ _ _
   | exact LeO.none _
   | refine LeO.ite ?_ ?_
   | refine LeO.bind ?_ (fun _ => ?_)
set_option maxHeartbeats 8000000 in
set_option maxRecDepth 100000 in
theorem laws_heldIntS.calls (k : Nat) (A0 : Option Addr) (c0 : Nat) (l0 : List Int) (a1 : Int) (r : Int) (w : World) (hr0 : Kd.C (Kd.int .i64) w A0 l0.length l0) (hc0 : l0.length ≤ c0) (h : laws_heldIntS.f k l0 a1 = some r) :
  Calls Try.prog 30 #[.slice A0 l0.length c0, .int .i64 a1] w fun e w' => e = .returned (.int .i64 r) ∧ Drawn0 w w' := by
 have HR0 := Aside0.mk hr0
 have HC0 := Aside0.mk hc0
 clear hr0 hc0
 have H : (laws_heldIntS.l0 k l0 a1 0) = some r := h
 clear h
 have H' := Aside0.mk H
 clear H
 go_enter Try.func30, Try.ntmps30
 go_wp2
 go_loopg [1, 5] k (fun kq v1 v5 w' => ∃ (x1_1 : Int) (x5_1 : Int), v1 = .int .i64 x1_1 ∧ v5 = .int .i64 x5_1 ∧ Aside0 (laws_heldIntS.l0 kq l0 x1_1 x5_1 = some r) ∧ Aside0 (kq ≤ k) ∧ Drawn0 w w')
 case atStart => exact ⟨(a1), (0), pF, pF, H', ⟨Nat.le_refl _⟩, by repeat (first | exact Drawn0.refl _ | apply Drawn0.step)⟩
 case round =>
  clear H'
  try clear p2
  obtain ⟨x1_1, x5_1, rfl, rfl, HA, HK1, ⟨m1, rfl⟩⟩ := hrel
  cases gk with
  | zero => exact absurd HA.out (by simp [laws_heldIntS.l0])
  | succ k1 =>
   have H := HA.out
   clear HA
   simp only [laws_heldIntS.l0] at H
   by_cases c3 : x5_1 < (l0.length : Int)
   ·rw [if_pos c3] at H
    have c3b0 : decide (x5_1 < (l0.length : Int)) = true := decide_eq_true c3
    clear c3
    by_cases c4 : 0 ≤ x5_1
    ·rw [if_pos c4] at H
     have c4b0 : decide (0 ≤ x5_1) = true := decide_eq_true c4
     clear c4
     by_cases c5 : (rd l0 x5_1) = x1_1
     ·rw [if_pos c5] at H
      have c5b0 : ((rd l0 x5_1) == x1_1) = true := beq_iff_eq.mpr c5
      have c5b1 : ((rd l0 x5_1) != x1_1) = false := bne_eq_false_iff_eq.mpr c5
      clear c5
      have H' := Aside0.mk H
      clear H
      have p349 : 0 ≤ (x5_1 : Int) := of_decide_eq_true pA
      have q349 : x5_1 < (l0.length : Int) := of_decide_eq_true pA
      obtain ⟨ad349, e349, hx349_0⟩ := Kd.at_int HR0.out x5_1 p349 q349
      cases e349
      replace p349 := eq_true p349
      replace q349 := eq_true q349
      go_wp2
      go_roundg k1
      case measure => have := HK1.out; omega
      case rel => exact ⟨(wrap64 (x1_1 + 1)), (wrap64 (x5_1 + 1)), pF, pF, H', ⟨by have := HK1.out; omega⟩, by repeat (first | exact Drawn0.refl _ | apply Drawn0.step)⟩
     ·rw [if_neg c5] at H
      have c5b0 : ((rd l0 x5_1) == x1_1) = false := beq_eq_false_iff_ne.mpr c5
      have c5b1 : ((rd l0 x5_1) != x1_1) = true := bne_iff_ne.mpr c5
      obtain rfl := Option.some.inj H
      have p349 : 0 ≤ (x5_1 : Int) := of_decide_eq_true pA
      have q349 : x5_1 < (l0.length : Int) := of_decide_eq_true pA
      obtain ⟨ad349, e349, hx349_0⟩ := Kd.at_int HR0.out x5_1 p349 q349
      cases e349
      replace p349 := eq_true p349
      replace q349 := eq_true q349
      go_wp2
      go_ret
      exact ⟨pF, by repeat (first | exact Drawn0.refl _ | apply Drawn0.step)⟩
    ·rw [if_neg c4] at H
     exact absurd H (by simp)
   ·rw [if_neg c3] at H
    have c3b0 : decide (x5_1 < (l0.length : Int)) = false := decide_eq_false c3
    clear c3
    obtain rfl := Option.some.inj H
    go_wp2
    go_ret
    exact ⟨pF, by repeat (first | exact Drawn0.refl _ | apply Drawn0.step)⟩

/-! ### laws_FnExactTracesOf: function 9 -/
def laws_FnExactTracesOf.j0 : Nat → List (S53) → List Int → List Int → Bool → Option (Bool)
 | 0, _, _, _, _ => none
 | k + 1, x0, x4, x6, x42 => if x42 = true then (some false) else ((laws_markIntS.f k x6 1).bind fun bt371 => ((laws_heldIntS.f k bt371.2 1).bind fun t373 => (if t373 < 0 then (some false) else (if t373 = bt371.1 then ((laws_toUseS.f k x0).bind fun t374 => ((impl_TracesOf.f k t374).bind fun t377 => ((laws_eqIntS.f k t377 x4).bind fun t380 => (if t380 = true then ((laws_heldIntS.f k bt371.2 1).bind fun t381 => (if t381 < 0 then (some false) else (if t381 = bt371.1 then (some true) else (some false)))) else (some false))))) else (some false)))))
def laws_FnExactTracesOf.f (k : Nat) (l0 : List (S53)) : Option (Bool) := (laws_szUseS.f l0 1048576).bind fun t350 => (if t350 < 0 then (some true) else ((laws_toUseS.f k l0).bind fun t351 => ((spec_TracesOf.f k t351).bind fun t354 => ((laws_toUseS.f k l0).bind fun t357 => ((impl_TracesOf.f k t357).bind fun t360 => ((laws_eqIntS.f k t360 t354).bind fun t363 => (if t363 = true then ((laws_toUseS.f k l0).bind fun t364 => ((laws_eqUseS.f k t357 t364).bind fun t367 => (if t367 = true then ((laws_markUseS.f k t357 1).bind fun bt368 => (if bt368.1 < 0 then (laws_FnExactTracesOf.j0 k l0 t354 t360 true) else ((laws_eqIntS.f k t360 t354).bind fun t370 => (laws_FnExactTracesOf.j0 k l0 t354 t360 (!t370))))) else (some false)))) else (some false))))))))
theorem laws_FnExactTracesOf.mono_l : ∀ k, (∀ y0 y1 y2 y3, LeO (laws_FnExactTracesOf.j0 k y0 y1 y2 y3) (laws_FnExactTracesOf.j0 (k + 1) y0 y1 y2 y3))
 | 0 => fun _ _ _ _ r h => by simp [laws_FnExactTracesOf.j0] at h
 | k + 1 => by
  have ih0 := laws_FnExactTracesOf.mono_l k
  ·intro y0 y1 y2 y3
   unfold laws_FnExactTracesOf.j0
   repeat' first
   | (with_reducible exact ih0 _ _ _ _)
   | (with_reducible exact impl_TracesOf.mono _ _)
   | (with_reducible exact laws_eqIntS.mono _ _ _)
   | (with_reducible exact laws_eqUseS.mono _ _ _)
   | (with_reducible exact laws_heldIntS.mono _ _ _)
   | (with_reducible exact laws_markIntS.mono _ _ _)
   | (with_reducible exact laws_markUseS.mono _ _ _)
   | (with_reducible exact laws_toUseS.mono _ _)
   | (with_reducible exact spec_TracesOf.mono _ _)
   | (with_reducible exact LeO.refl _)
   | (with_reducible exact LeO.none _)
   | (with_reducible refine LeO.ite ?_ ?_)
   | (with_reducible refine LeO.bind ?_ (fun _ => ?_))
   | exact ih0 _ _ _ _
   | exact impl_TracesOf.mono _ _
   | exact laws_eqIntS.mono _ _ _
   | exact laws_eqUseS.mono _ _ _
   | exact laws_heldIntS.mono _ _ _
   | exact laws_markIntS.mono _ _ _
   | exact laws_markUseS.mono _ _ _
   | exact laws_toUseS.mono _ _
   | exact spec_TracesOf.mono _ _
   | exact LeO.none _
   | refine LeO.ite ?_ ?_
   | refine LeO.bind ?_ (fun _ => ?_)
theorem laws_FnExactTracesOf.mono : ∀ a0 k, LeO (laws_FnExactTracesOf.f k a0) (laws_FnExactTracesOf.f (k + 1) a0) := by
 intro a0 k
 have ih0 := laws_FnExactTracesOf.mono_l k
 unfold laws_FnExactTracesOf.f
 repeat' first
   | (with_reducible exact ih0 _ _ _ _)
   | (with_reducible exact impl_TracesOf.mono _ _)
   | (with_reducible exact laws_eqIntS.mono _ _ _)
   | (with_reducible exact laws_eqUseS.mono _ _ _)
   | (with_reducible exact laws_heldIntS.mono _ _ _)
   | (with_reducible exact laws_markIntS.mono _ _ _)
   | (with_reducible exact laws_markUseS.mono _ _ _)
   | (with_reducible exact laws_toUseS.mono _ _)
   | (with_reducible exact spec_TracesOf.mono _ _)
   | (with_reducible exact LeO.refl _)
   | (with_reducible exact LeO.none _)
   | (with_reducible refine LeO.ite ?_ ?_)
   | (with_reducible refine LeO.bind ?_ (fun _ => ?_))
   | exact ih0 _ _ _ _
   | exact impl_TracesOf.mono _ _
   | exact laws_eqIntS.mono _ _ _
   | exact laws_eqUseS.mono _ _ _
   | exact laws_heldIntS.mono _ _ _
   | exact laws_markIntS.mono _ _ _
   | exact laws_markUseS.mono _ _ _
   | exact laws_toUseS.mono _ _
   | exact spec_TracesOf.mono _ _
   | exact LeO.none _
   | refine LeO.ite ?_ ?_
   | refine LeO.bind ?_ (fun _ => ?_)
set_option maxHeartbeats 8000000 in
set_option maxRecDepth 100000 in
theorem laws_FnExactTracesOf.calls (k : Nat) (A0 : Option Addr) (c0 : Nat) (l0 : List (S53)) (r : Bool) (w : World) (hr0 : Kd.C k53 w A0 l0.length l0) (hc0 : l0.length ≤ c0) (h : laws_FnExactTracesOf.f k l0 = some r) :
  Calls Try.prog 9 #[.slice A0 l0.length c0] w fun e w' => e = .returned (.bool r) ∧ Below w.heap.size w w' := by
 have HR0 := Aside0.mk hr0
 have HC0 := Aside0.mk hc0
 clear hr0 hc0
 have HB := Aside0.mk (Below.refl w.heap.size w)
 have H : ((laws_szUseS.f l0 1048576).bind fun t350 => (if t350 < 0 then (some true) else ((laws_toUseS.f k l0).bind fun t351 => ((spec_TracesOf.f k t351).bind fun t354 => ((laws_toUseS.f k l0).bind fun t357 => ((impl_TracesOf.f k t357).bind fun t360 => ((laws_eqIntS.f k t360 t354).bind fun t363 => (if t363 = true then ((laws_toUseS.f k l0).bind fun t364 => ((laws_eqUseS.f k t357 t364).bind fun t367 => (if t367 = true then ((laws_markUseS.f k t357 1).bind fun bt368 => (if bt368.1 < 0 then (laws_FnExactTracesOf.j0 k l0 t354 t360 true) else ((laws_eqIntS.f k t360 t354).bind fun t370 => (laws_FnExactTracesOf.j0 k l0 t354 t360 (!t370))))) else (some false)))) else (some false))))))))) = some r := h
 clear h
 replace H := Option.bind_eq_some_iff.mp H
 obtain ⟨t350, A20, H⟩ := H
 replace H : (if t350 < 0 then (some true) else ((laws_toUseS.f k l0).bind fun t351 => ((spec_TracesOf.f k t351).bind fun t354 => ((laws_toUseS.f k l0).bind fun t357 => ((impl_TracesOf.f k t357).bind fun t360 => ((laws_eqIntS.f k t360 t354).bind fun t363 => (if t363 = true then ((laws_toUseS.f k l0).bind fun t364 => ((laws_eqUseS.f k t357 t364).bind fun t367 => (if t367 = true then ((laws_markUseS.f k t357 1).bind fun bt368 => (if bt368.1 < 0 then (laws_FnExactTracesOf.j0 k l0 t354 t360 true) else ((laws_eqIntS.f k t360 t354).bind fun t370 => (laws_FnExactTracesOf.j0 k l0 t354 t360 (!t370))))) else (some false)))) else (some false)))))))) = some r := H
 have A2 := Aside0.mk A20
 clear A20
 by_cases c3 : t350 < 0
 ·rw [if_pos c3] at H
  have c3b0 : decide (t350 < 0) = true := decide_eq_true c3
  clear c3
  obtain rfl := Option.some.inj H
  go_enter Try.func9, Try.ntmps9
  go_wp2_with (first | ((with_reducible refine gate_callee (f := 14) rfl ?_); refine goesL_ (some 13) rfl rfl Try.func14 pL rfl #[.slice A0 l0.length c0, .int .i64 1048576] rfl pM ?_; (with_reducible refine (laws_szUseS.calls _ _ l0 1048576 t350 _ ?side1 ?side2 A2.out).mono ?_); (case side1 => exact pS (HR0.out)); (case side2 => exact HC0.out); rintro e w' ⟨rfl, ⟨nd, rfl⟩⟩; refine ⟨_, rfl, ?_⟩))
  go_ret
  exact ⟨pE, pB⟩
 ·rw [if_neg c3] at H
  have c3b0 : decide (t350 < 0) = false := decide_eq_false c3
  clear c3
  replace H := Option.bind_eq_some_iff.mp H
  obtain ⟨t351, A40, H⟩ := H
  replace H : ((spec_TracesOf.f k t351).bind fun t354 => ((laws_toUseS.f k l0).bind fun t357 => ((impl_TracesOf.f k t357).bind fun t360 => ((laws_eqIntS.f k t360 t354).bind fun t363 => (if t363 = true then ((laws_toUseS.f k l0).bind fun t364 => ((laws_eqUseS.f k t357 t364).bind fun t367 => (if t367 = true then ((laws_markUseS.f k t357 1).bind fun bt368 => (if bt368.1 < 0 then (laws_FnExactTracesOf.j0 k l0 t354 t360 true) else ((laws_eqIntS.f k t360 t354).bind fun t370 => (laws_FnExactTracesOf.j0 k l0 t354 t360 (!t370))))) else (some false)))) else (some false)))))) = some r := H
  have A4 := Aside0.mk A40
  clear A40
  replace H := Option.bind_eq_some_iff.mp H
  obtain ⟨t354, A50, H⟩ := H
  replace H : ((laws_toUseS.f k l0).bind fun t357 => ((impl_TracesOf.f k t357).bind fun t360 => ((laws_eqIntS.f k t360 t354).bind fun t363 => (if t363 = true then ((laws_toUseS.f k l0).bind fun t364 => ((laws_eqUseS.f k t357 t364).bind fun t367 => (if t367 = true then ((laws_markUseS.f k t357 1).bind fun bt368 => (if bt368.1 < 0 then (laws_FnExactTracesOf.j0 k l0 t354 t360 true) else ((laws_eqIntS.f k t360 t354).bind fun t370 => (laws_FnExactTracesOf.j0 k l0 t354 t360 (!t370))))) else (some false)))) else (some false))))) = some r := H
  have A5 := Aside0.mk A50
  clear A50
  replace H := Option.bind_eq_some_iff.mp H
  obtain ⟨t357, A60, H⟩ := H
  replace H : ((impl_TracesOf.f k t357).bind fun t360 => ((laws_eqIntS.f k t360 t354).bind fun t363 => (if t363 = true then ((laws_toUseS.f k l0).bind fun t364 => ((laws_eqUseS.f k t357 t364).bind fun t367 => (if t367 = true then ((laws_markUseS.f k t357 1).bind fun bt368 => (if bt368.1 < 0 then (laws_FnExactTracesOf.j0 k l0 t354 t360 true) else ((laws_eqIntS.f k t360 t354).bind fun t370 => (laws_FnExactTracesOf.j0 k l0 t354 t360 (!t370))))) else (some false)))) else (some false)))) = some r := H
  have A6 := Aside0.mk A60
  clear A60
  replace H := Option.bind_eq_some_iff.mp H
  obtain ⟨t360, A70, H⟩ := H
  replace H : ((laws_eqIntS.f k t360 t354).bind fun t363 => (if t363 = true then ((laws_toUseS.f k l0).bind fun t364 => ((laws_eqUseS.f k t357 t364).bind fun t367 => (if t367 = true then ((laws_markUseS.f k t357 1).bind fun bt368 => (if bt368.1 < 0 then (laws_FnExactTracesOf.j0 k l0 t354 t360 true) else ((laws_eqIntS.f k t360 t354).bind fun t370 => (laws_FnExactTracesOf.j0 k l0 t354 t360 (!t370))))) else (some false)))) else (some false))) = some r := H
  have A7 := Aside0.mk A70
  clear A70
  replace H := Option.bind_eq_some_iff.mp H
  obtain ⟨t363, A80, H⟩ := H
  replace H : (if t363 = true then ((laws_toUseS.f k l0).bind fun t364 => ((laws_eqUseS.f k t357 t364).bind fun t367 => (if t367 = true then ((laws_markUseS.f k t357 1).bind fun bt368 => (if bt368.1 < 0 then (laws_FnExactTracesOf.j0 k l0 t354 t360 true) else ((laws_eqIntS.f k t360 t354).bind fun t370 => (laws_FnExactTracesOf.j0 k l0 t354 t360 (!t370))))) else (some false)))) else (some false)) = some r := H
  have A8 := Aside0.mk A80
  clear A80
  by_cases c9 : t363 = true
  ·subst c9
   have H1 : ((laws_toUseS.f k l0).bind fun t364 => ((laws_eqUseS.f k t357 t364).bind fun t367 => (if t367 = true then ((laws_markUseS.f k t357 1).bind fun bt368 => (if bt368.1 < 0 then (laws_FnExactTracesOf.j0 k l0 t354 t360 true) else ((laws_eqIntS.f k t360 t354).bind fun t370 => (laws_FnExactTracesOf.j0 k l0 t354 t360 (!t370))))) else (some false)))) = some r := by rw [if_pos rfl] at H; exact H
   clear H
   have H := H1
   clear H1
   replace H := Option.bind_eq_some_iff.mp H
   obtain ⟨t364, A100, H⟩ := H
   replace H : ((laws_eqUseS.f k t357 t364).bind fun t367 => (if t367 = true then ((laws_markUseS.f k t357 1).bind fun bt368 => (if bt368.1 < 0 then (laws_FnExactTracesOf.j0 k l0 t354 t360 true) else ((laws_eqIntS.f k t360 t354).bind fun t370 => (laws_FnExactTracesOf.j0 k l0 t354 t360 (!t370))))) else (some false))) = some r := H
   have A10 := Aside0.mk A100
   clear A100
   replace H := Option.bind_eq_some_iff.mp H
   obtain ⟨t367, A110, H⟩ := H
   replace H : (if t367 = true then ((laws_markUseS.f k t357 1).bind fun bt368 => (if bt368.1 < 0 then (laws_FnExactTracesOf.j0 k l0 t354 t360 true) else ((laws_eqIntS.f k t360 t354).bind fun t370 => (laws_FnExactTracesOf.j0 k l0 t354 t360 (!t370))))) else (some false)) = some r := H
   have A11 := Aside0.mk A110
   clear A110
   by_cases c12 : t367 = true
   ·subst c12
    have H1 : ((laws_markUseS.f k t357 1).bind fun bt368 => (if bt368.1 < 0 then (laws_FnExactTracesOf.j0 k l0 t354 t360 true) else ((laws_eqIntS.f k t360 t354).bind fun t370 => (laws_FnExactTracesOf.j0 k l0 t354 t360 (!t370))))) = some r := by rw [if_pos rfl] at H; exact H
    clear H
    have H := H1
    clear H1
    replace H := Option.bind_eq_some_iff.mp H
    obtain ⟨⟨t368, t369⟩, A130, H⟩ := H
    replace H : (if t368 < 0 then (laws_FnExactTracesOf.j0 k l0 t354 t360 true) else ((laws_eqIntS.f k t360 t354).bind fun t370 => (laws_FnExactTracesOf.j0 k l0 t354 t360 (!t370)))) = some r := H
    have A13 := Aside0.mk A130
    clear A130
    have HC14 := Aside0.mk H
    clear H
    go_enter Try.func9, Try.ntmps9
    go_upto_region 14 with (first | ((with_reducible refine gate_callee (f := 14) rfl ?_); refine goesL_ (some 13) rfl rfl Try.func14 pL rfl #[.slice A0 l0.length c0, .int .i64 1048576] rfl pM ?_; (with_reducible refine (laws_szUseS.calls _ _ l0 1048576 t350 _ ?side1 ?side2 A2.out).mono ?_); (case side1 => exact pS (HR0.out)); (case side2 => exact HC0.out); rintro e w' ⟨rfl, ⟨nd, rfl⟩⟩; refine ⟨_, rfl, ?_⟩) | ((with_reducible refine gate_callee (f := 16) rfl ?_); refine goesL_ (some 17) rfl rfl Try.func16 pL rfl #[.slice A0 l0.length c0] rfl pM ?_; (with_reducible refine (laws_toUseS.calls k _ _ l0 t351 _ ?side1 ?side2 A4.out).mono ?_); (case side1 => exact pS (HR0.out)); (case side2 => exact HC0.out); rintro e w15 ⟨v352, rfl, ho0, hb⟩; refine ⟨_, rfl, ?_⟩; have n0_ := Aside0.mk (Kd.R_lower ho0 (below_size pB)); have n1_ := Aside0.mk (below_step pB hb); clear HB; have HO353 := n0_; have HB := n1_; clear n0_ n1_; (try clear hb); (try clear hb2); (try clear hk); (try clear hi); (try clear ho0); obtain ⟨Ao16, co16, eo16⟩ := Kd.R_slice HO353.out; subst eo16) | ((with_reducible refine gate_callee (f := 23) rfl ?_); refine goesL_ (some 18) rfl rfl Try.func23 pL rfl #[.slice Ao16 t351.length co16] rfl pM ?_; (with_reducible refine (spec_TracesOf.calls k _ _ t351 t354 _ ?side1 ?side2 A5.out).mono ?_); (case side1 => exact pS ((Kd.R_reads' HO353.out).2.2)); (case side2 => exact (Kd.R_reads' HO353.out).2.1); rintro e w17 ⟨v355, rfl, ho0, hb⟩; refine ⟨_, rfl, ?_⟩; have n0_ := Aside0.mk (Kd.R_below (pR HO353) hb); have n1_ := Aside0.mk (Kd.R_lower ho0 (below_size pB)); have n2_ := Aside0.mk (below_step pB hb); clear HO353; clear HB; have HO353 := n0_; have HO356 := n1_; have HB := n2_; clear n0_ n1_ n2_; (try clear hb); (try clear hb2); (try clear hk); (try clear hi); (try clear ho0)) | ((with_reducible refine gate_callee (f := 16) rfl ?_); refine goesL_ (some 20) rfl rfl Try.func16 pL rfl #[.slice A0 l0.length c0] rfl pM ?_; (with_reducible refine (laws_toUseS.calls k _ _ l0 t357 _ ?side1 ?side2 A6.out).mono ?_); (case side1 => exact pS ((Kd.C_below HR0.out HB.out))); (case side2 => exact HC0.out); rintro e w18 ⟨v358, rfl, ho0, hb⟩; refine ⟨_, rfl, ?_⟩; have n0_ := Aside0.mk (Kd.R_elder' (pR HO353) (Kd.R_base ho0) hb); have n1_ := Aside0.mk (Kd.R_below (pR HO356) hb); have n2_ := Aside0.mk (Kd.R_lower (Kd.R_new' ho0 (Kd.R_lt (pR HO353))) (below_size pB)); have n3_ := Aside0.mk (below_step pB hb); clear HO353; clear HO356; clear HB; have HO353 := n0_; have HO356 := n1_; have HO359 := n2_; have HB := n3_; clear n0_ n1_ n2_ n3_; (try clear hb); (try clear hb2); (try clear hk); (try clear hi); (try clear ho0); obtain ⟨Ao19, co19, eo19⟩ := Kd.R_slice HO359.out; subst eo19) | ((with_reducible refine gate_callee (f := 22) rfl ?_); refine goesL_ (some 22) rfl rfl Try.func22 pL rfl #[.slice Ao19 t357.length co19] rfl pM ?_; (with_reducible refine (impl_TracesOf.calls k _ _ t357 t360 _ ?side1 ?side2 A7.out).mono ?_); (case side1 => exact pS ((Kd.R_reads' HO359.out).2.2)); (case side2 => exact (Kd.R_reads' HO359.out).2.1); rintro e w20 ⟨v361, rfl, ho0, hb⟩; refine ⟨_, rfl, ?_⟩; have n0_ := Aside0.mk (Kd.R_below (pR HO353) hb); have n1_ := Aside0.mk (Kd.R_elder' (pR HO356) (Kd.R_base ho0) hb); have n2_ := Aside0.mk (Kd.R_below (pR HO359) hb); have n3_ := Aside0.mk (Kd.R_lower (Kd.R_new' ho0 (Kd.R_lt (pR HO356))) (below_size pB)); have n4_ := Aside0.mk (below_step pB hb); clear HO353; clear HO356; clear HO359; clear HB; have HO353 := n0_; have HO356 := n1_; have HO359 := n2_; have HO362 := n3_; have HB := n4_; clear n0_ n1_ n2_ n3_ n4_; (try clear hb); (try clear hb2); (try clear hk); (try clear hi); (try clear ho0); obtain ⟨Ao21, co21, eo21⟩ := Kd.R_slice HO362.out; subst eo21; obtain ⟨Ao22, co22, eo22⟩ := Kd.R_slice HO356.out; subst eo22) | ((with_reducible refine gate_callee (f := 27) rfl ?_); refine goesL_ (some 25) rfl rfl Try.func27 pL rfl #[.slice Ao21 t360.length co21, .slice Ao22 t354.length co22] rfl pM ?_; (with_reducible refine (laws_eqIntS.calls k _ _ t360 _ _ t354 true _ ?side1 ?side2 ?side3 ?side4 A8.out).mono ?_); (case side1 => exact pS ((Kd.R_reads' HO362.out).2.2)); (case side2 => exact (Kd.R_reads' HO362.out).2.1); (case side3 => exact pS ((Kd.R_reads' HO356.out).2.2)); (case side4 => exact (Kd.R_reads' HO356.out).2.1); rintro e w' ⟨rfl, ⟨nd, rfl⟩⟩; refine ⟨_, rfl, ?_⟩) | ((with_reducible refine gate_callee (f := 16) rfl ?_); refine goesL_ (some 29) rfl rfl Try.func16 pL rfl #[.slice A0 l0.length c0] rfl pM ?_; (with_reducible refine (laws_toUseS.calls k _ _ l0 t364 _ ?side1 ?side2 A10.out).mono ?_); (case side1 => exact pS ((Kd.C_below HR0.out pB))); (case side2 => exact HC0.out); rintro e w23 ⟨v365, rfl, ho0, hb⟩; refine ⟨_, rfl, ?_⟩; have n0_ := Aside0.mk (Kd.R_elder' (pR HO353) (Kd.R_base ho0) hb); have n1_ := Aside0.mk (Kd.R_below (pR HO356) hb); have n2_ := Aside0.mk (Kd.R_elder' (pR HO359) (Kd.R_base ho0) hb); have n3_ := Aside0.mk (Kd.R_below (pR HO362) hb); have n4_ := Aside0.mk (Kd.R_lower (Kd.R_new' (Kd.R_new' ho0 (Kd.R_lt (pR HO353))) (Kd.R_lt (pR HO359))) (below_size pB)); have n5_ := Aside0.mk (below_step pB hb); clear HO353; clear HO356; clear HO359; clear HO362; clear HB; have HO353 := n0_; have HO356 := n1_; have HO359 := n2_; have HO362 := n3_; have HO366 := n4_; have HB := n5_; clear n0_ n1_ n2_ n3_ n4_ n5_; (try clear hb); (try clear hb2); (try clear hk); (try clear hi); (try clear ho0); obtain ⟨Ao24, co24, eo24⟩ := Kd.R_slice HO366.out; subst eo24) | ((with_reducible refine gate_callee (f := 18) rfl ?_); refine goesL_ (some 30) rfl rfl Try.func18 pL rfl #[.slice Ao19 t357.length co19, .slice Ao24 t364.length co24] rfl pM ?_; (with_reducible refine (laws_eqUseS.calls k _ _ t357 _ _ t364 true _ ?side1 ?side2 ?side3 ?side4 A11.out).mono ?_); (case side1 => exact pS ((Kd.R_reads' HO359.out).2.2)); (case side2 => exact (Kd.R_reads' HO359.out).2.1); (case side3 => exact pS ((Kd.R_reads' HO366.out).2.2)); (case side4 => exact (Kd.R_reads' HO366.out).2.1); rintro e w25 ⟨rfl, hb⟩; refine ⟨_, rfl, ?_⟩; have n0_ := Aside0.mk (Kd.R_below (pR HO353) hb); have n1_ := Aside0.mk (Kd.R_below (pR HO356) hb); have n2_ := Aside0.mk (Kd.R_below (pR HO359) hb); have n3_ := Aside0.mk (Kd.R_below (pR HO362) hb); have n4_ := Aside0.mk (Kd.R_below (pR HO366) hb); have n5_ := Aside0.mk (below_step pB hb); clear HO353; clear HO356; clear HO359; clear HO362; clear HO366; clear HB; have HO353 := n0_; have HO356 := n1_; have HO359 := n2_; have HO362 := n3_; have HO366 := n4_; have HB := n5_; clear n0_ n1_ n2_ n3_ n4_ n5_; (try clear hb); (try clear hb2); (try clear hk); (try clear hi)) | ((with_reducible refine gate_callee (f := 28) rfl ?_); refine goesL_ (some 34) rfl rfl Try.func28 pL rfl #[.slice Ao19 t357.length co19, .int .i64 1] rfl pM ?_; (with_reducible refine (laws_markUseS.calls k (fun k_ => some k_ = (.slice Ao19 t357.length co19 : Value).ownBlock) (.slice Ao19 t357.length co19) t357 1 t368 t369 w _ ?side1 ?side2 A13.out).mono ?_); (case side1 => exact pB); (case side2 => exact Kd.R_tight rfl HO359.out); rintro e w26 ⟨rfl, hy0, hb, hkp⟩; refine ⟨_, rfl, ?_⟩; have n0_ := Aside0.mk (Kd.R_mono (ok' := fun k_ => some k_ ≠ (.slice Ao19 t357.length co19 : Value).ownBlock ∧ some k_ ≠ (.slice Ao24 t364.length co24 : Value).ownBlock) (Kd.R_keptB (HO353.out) hkp (fun k_ hk_ hs_ => (hk_.1.2) hs_)) (fun k_ hk_ => ⟨hk_.1.1.2, hk_.1.2⟩)); have n1_ := Aside0.mk (Kd.R_mono (ok' := fun k_ => some k_ ≠ (.slice Ao21 t360.length co21 : Value).ownBlock) (Kd.R_keptB ((Kd.R_apart' HO356.out (Kd.R_typed HO359.out) (by decide))) hkp (fun k_ hk_ hs_ => (hk_.2) hs_)) (fun k_ hk_ => hk_.1.1.2)); have n2_ := Aside0.mk (Kd.R_reok rfl hy0 (fun k_ e_ => HO359.out.1 k_ e_)); have n3_ := Aside0.mk (Kd.R_mono (ok' := fun k_ => some k_ ≠ (.slice Ao22 t354.length co22 : Value).ownBlock) (Kd.R_keptB ((Kd.R_apart' HO362.out (Kd.R_typed HO359.out) (by decide))) hkp (fun k_ hk_ hs_ => (hk_.2) hs_)) (fun k_ hk_ => hk_.1.1.2)); have n4_ := Aside0.mk (Kd.R_mono (ok' := fun k_ => some k_ ≠ (.slice Ao16 t351.length co16 : Value).ownBlock ∧ some k_ ≠ (.slice Ao19 t357.length co19 : Value).ownBlock) (Kd.R_keptB (HO366.out) hkp (fun k_ hk_ hs_ => (hk_.2) hs_)) (fun k_ hk_ => ⟨hk_.1.1.2, hk_.1.2⟩)); have n5_ := Aside0.mk (hb); clear HO353; clear HO356; clear HO359; clear HO362; clear HO366; clear HB; have HO353 := n0_; have HO356 := n1_; have HO359 := n2_; have HO362 := n3_; have HO366 := n4_; have HB := n5_; clear n0_ n1_ n2_ n3_ n4_ n5_; (try clear hb); (try clear hkp); (try clear hy0)))
    (try simp only [Act.put, List.setIfInBounds_toArray, List.set_cons_zero, List.set_cons_succ])
    go_cut [42] (fun v42 wc => ∃ (kq : Nat) (x42_13 : Bool), v42 = .bool x42_13 ∧ Aside0 (laws_FnExactTracesOf.j0 kq l0 t354 t360 x42_13 = some r) ∧ Aside0 (kq ≤ k) ∧ Aside0 (Kd.R (Kd.int .i64) 3 wc w.heap.size (fun k_ => some k_ ≠ ((.slice Ao21 t360.length co21) : Value).ownBlock) (.slice Ao22 t354.length co22) t354) ∧ Aside0 (Kd.R (Kd.int .i64) 3 wc w.heap.size (fun k_ => some k_ ≠ ((.slice Ao22 t354.length co22) : Value).ownBlock) (.slice Ao21 t360.length co21) t360) ∧ Aside0 (Below w.heap.size w wc))
    case first =>
     have H := HC14.out
     clear HC14
     by_cases c27 : t368 < 0
     ·rw [if_pos c27] at H
      have c27b0 : decide (t368 < 0) = true := decide_eq_true c27
      clear c27
      (first | rw [c27b0] | (simp only [i64_w, i32_w]; rw [c27b0]) | skip)
      have H' := Aside0.mk H
      clear H
      go_wp2
      go_meet
      case rel => exact ⟨_, (true), pF, H', ⟨by first | omega | exact Nat.le_refl _⟩, ⟨pR HO356⟩, ⟨pR HO362⟩, ⟨pB⟩⟩
     ·rw [if_neg c27] at H
      have c27b0 : decide (t368 < 0) = false := decide_eq_false c27
      clear c27
      (first | rw [c27b0] | (simp only [i64_w, i32_w]; rw [c27b0]) | skip)
      replace H := Option.bind_eq_some_iff.mp H
      obtain ⟨t370, A280, H⟩ := H
      replace H : (laws_FnExactTracesOf.j0 k l0 t354 t360 (!t370)) = some r := H
      have A28 := Aside0.mk A280
      clear A280
      have H' := Aside0.mk H
      clear H
      go_wp2_with (first | (go_at_call 27; (with_reducible refine (laws_eqIntS.calls k _ _ t360 _ _ t354 t370 _ ?side1 ?side2 ?side3 ?side4 A28.out).mono ?_); (case side1 => exact pS ((Kd.R_reads' HO362.out).2.2)); (case side2 => exact (Kd.R_reads' HO362.out).2.1); (case side3 => exact pS ((Kd.R_reads' HO356.out).2.2)); (case side4 => exact (Kd.R_reads' HO356.out).2.1); rintro e w' ⟨rfl, ⟨nd, rfl⟩⟩))
      go_meet
      case rel => exact ⟨_, (!t370), pF, H', ⟨by first | omega | exact Nat.le_refl _⟩, ⟨pR HO356⟩, ⟨pR HO362⟩, ⟨pB⟩⟩
    case rest =>
     clear HC14
     try clear c1
     try clear c2
     try clear p2
     try clear c3
     try clear c3b0
     try clear c9
     try clear c12
     try clear c14
     try clear c16
     try clear c18
     try clear c22
     try clear c23
     try clear c27
     try clear c27b0
     try clear c28
     obtain ⟨kq, x42_13, rfl, HA, HJ13, HO_4, HO_6, HB⟩ := hcut
     cases kq with
     | zero => exact absurd HA.out (by simp [laws_FnExactTracesOf.j0])
     | succ kj13 =>
      have H := HA.out
      clear HA
      simp only [laws_FnExactTracesOf.j0] at H
      by_cases c29 : x42_13 = true
      ·subst c29
       have H1 : (some false) = some r := by rw [if_pos rfl] at H; exact H
       clear H
       have H := H1
       clear H1
       obtain rfl := Option.some.inj H
       go_wp2
       go_ret
       exact ⟨pE, pB⟩
      ·replace c29 := Bool.eq_false_iff.mpr c29
       subst c29
       have H1 : ((laws_markIntS.f kj13 t360 1).bind fun bt371 => ((laws_heldIntS.f kj13 bt371.2 1).bind fun t373 => (if t373 < 0 then (some false) else (if t373 = bt371.1 then ((laws_toUseS.f kj13 l0).bind fun t374 => ((impl_TracesOf.f kj13 t374).bind fun t377 => ((laws_eqIntS.f kj13 t377 t354).bind fun t380 => (if t380 = true then ((laws_heldIntS.f kj13 bt371.2 1).bind fun t381 => (if t381 < 0 then (some false) else (if t381 = bt371.1 then (some true) else (some false)))) else (some false))))) else (some false))))) = some r := by rw [if_neg (show ¬ (false = true) by decide)] at H; exact H
       clear H
       have H := H1
       clear H1
       replace H := Option.bind_eq_some_iff.mp H
       obtain ⟨⟨t371, t372⟩, A300, H⟩ := H
       replace H : ((laws_heldIntS.f kj13 t372 1).bind fun t373 => (if t373 < 0 then (some false) else (if t373 = t371 then ((laws_toUseS.f kj13 l0).bind fun t374 => ((impl_TracesOf.f kj13 t374).bind fun t377 => ((laws_eqIntS.f kj13 t377 t354).bind fun t380 => (if t380 = true then ((laws_heldIntS.f kj13 t372 1).bind fun t381 => (if t381 < 0 then (some false) else (if t381 = t371 then (some true) else (some false)))) else (some false))))) else (some false)))) = some r := H
       have A30 := Aside0.mk A300
       clear A300
       replace H := Option.bind_eq_some_iff.mp H
       obtain ⟨t373, A310, H⟩ := H
       replace H : (if t373 < 0 then (some false) else (if t373 = t371 then ((laws_toUseS.f kj13 l0).bind fun t374 => ((impl_TracesOf.f kj13 t374).bind fun t377 => ((laws_eqIntS.f kj13 t377 t354).bind fun t380 => (if t380 = true then ((laws_heldIntS.f kj13 t372 1).bind fun t381 => (if t381 < 0 then (some false) else (if t381 = t371 then (some true) else (some false)))) else (some false))))) else (some false))) = some r := H
       have A31 := Aside0.mk A310
       clear A310
       by_cases c32 : t373 < 0
       ·rw [if_pos c32] at H
        have c32b0 : decide (t373 < 0) = true := decide_eq_true c32
        clear c32
        obtain rfl := Option.some.inj H
        go_wp2_with (first | ((with_reducible refine gate_callee (f := 29) rfl ?_); refine goesL_ (some 45) rfl rfl Try.func29 pL rfl #[.slice Ao21 t360.length co21, .int .i64 1] rfl pM ?_; (with_reducible refine (laws_markIntS.calls kj13 (fun k_ => some k_ = (.slice Ao21 t360.length co21 : Value).ownBlock) (.slice Ao21 t360.length co21) t360 1 t371 t372 w _ ?side1 ?side2 A30.out).mono ?_); (case side1 => exact pB); (case side2 => exact Kd.R_tight rfl HO_6.out); rintro e w33 ⟨rfl, hy0, hb, hkp⟩; refine ⟨_, rfl, ?_⟩; have n0_ := Aside0.mk (Kd.R_mono (ok' := fun k_ => some k_ ≠ (.slice Ao21 t360.length co21 : Value).ownBlock) (Kd.R_keptB (HO_4.out) hkp (fun k_ hk_ hs_ => (hk_) hs_)) (fun k_ hk_ => hk_.1)); have n1_ := Aside0.mk (Kd.R_reok rfl hy0 (fun k_ e_ => HO_6.out.1 k_ e_)); have n2_ := Aside0.mk (hb); clear HO_4; clear HO_6; clear HB; have HO_4 := n0_; have HO_6 := n1_; have HB := n2_; clear n0_ n1_ n2_; (try clear hb); (try clear hkp); (try clear hy0)) | ((with_reducible refine gate_callee (f := 30) rfl ?_); refine goesL_ (some 48) rfl rfl Try.func30 pL rfl #[.slice Ao21 t372.length co21, .int .i64 1] rfl (by (try simp only [List.map_toArray, List.map_cons, List.map_nil]); first | done | (rw [show t372.length = t360.length from (Kd.R_reads' HO_6.out).1.symm] <;> rfl) | rfl | (simp only [List.length_drop, List.length_take]; rfl)) ?_; (with_reducible refine (laws_heldIntS.calls kj13 _ _ t372 1 t373 _ ?side1 ?side2 A31.out).mono ?_); (case side1 => exact pS ((Kd.R_reads' HO_6.out).2.2)); (case side2 => rw [show t372.length = t360.length from (Kd.R_reads' HO_6.out).1.symm]; exact (Kd.R_reads' HO_6.out).2.1); rintro e w' ⟨rfl, ⟨nd, rfl⟩⟩; refine ⟨_, rfl, ?_⟩))
        go_ret
        exact ⟨pE, pB⟩
       ·rw [if_neg c32] at H
        have c32b0 : decide (t373 < 0) = false := decide_eq_false c32
        clear c32
        by_cases c34 : t373 = t371
        ·rw [if_pos c34] at H
         have c34b0 : (t373 == t371) = true := beq_iff_eq.mpr c34
         have c34b1 : (t373 != t371) = false := bne_eq_false_iff_eq.mpr c34
         clear c34
         replace H := Option.bind_eq_some_iff.mp H
         obtain ⟨t374, A350, H⟩ := H
         replace H : ((impl_TracesOf.f kj13 t374).bind fun t377 => ((laws_eqIntS.f kj13 t377 t354).bind fun t380 => (if t380 = true then ((laws_heldIntS.f kj13 t372 1).bind fun t381 => (if t381 < 0 then (some false) else (if t381 = t371 then (some true) else (some false)))) else (some false)))) = some r := H
         have A35 := Aside0.mk A350
         clear A350
         replace H := Option.bind_eq_some_iff.mp H
         obtain ⟨t377, A360, H⟩ := H
         replace H : ((laws_eqIntS.f kj13 t377 t354).bind fun t380 => (if t380 = true then ((laws_heldIntS.f kj13 t372 1).bind fun t381 => (if t381 < 0 then (some false) else (if t381 = t371 then (some true) else (some false)))) else (some false))) = some r := H
         have A36 := Aside0.mk A360
         clear A360
         replace H := Option.bind_eq_some_iff.mp H
         obtain ⟨t380, A370, H⟩ := H
         replace H : (if t380 = true then ((laws_heldIntS.f kj13 t372 1).bind fun t381 => (if t381 < 0 then (some false) else (if t381 = t371 then (some true) else (some false)))) else (some false)) = some r := H
         have A37 := Aside0.mk A370
         clear A370
         by_cases c38 : t380 = true
         ·subst c38
          have H1 : ((laws_heldIntS.f kj13 t372 1).bind fun t381 => (if t381 < 0 then (some false) else (if t381 = t371 then (some true) else (some false)))) = some r := by rw [if_pos rfl] at H; exact H
          clear H
          have H := H1
          clear H1
          replace H := Option.bind_eq_some_iff.mp H
          obtain ⟨t381, A390, H⟩ := H
          replace H : (if t381 < 0 then (some false) else (if t381 = t371 then (some true) else (some false))) = some r := H
          have A39 := Aside0.mk A390
          clear A390
          by_cases c40 : t381 < 0
          ·rw [if_pos c40] at H
           have c40b0 : decide (t381 < 0) = true := decide_eq_true c40
           clear c40
           obtain rfl := Option.some.inj H
           go_wp2_with (first | ((with_reducible refine gate_callee (f := 29) rfl ?_); refine goesL_ (some 45) rfl rfl Try.func29 pL rfl #[.slice Ao21 t360.length co21, .int .i64 1] rfl pM ?_; (with_reducible refine (laws_markIntS.calls kj13 (fun k_ => some k_ = (.slice Ao21 t360.length co21 : Value).ownBlock) (.slice Ao21 t360.length co21) t360 1 t371 t372 w _ ?side1 ?side2 A30.out).mono ?_); (case side1 => exact pB); (case side2 => exact Kd.R_tight rfl HO_6.out); rintro e w41 ⟨rfl, hy0, hb, hkp⟩; refine ⟨_, rfl, ?_⟩; have n0_ := Aside0.mk (Kd.R_mono (ok' := fun k_ => some k_ ≠ (.slice Ao21 t360.length co21 : Value).ownBlock) (Kd.R_keptB (HO_4.out) hkp (fun k_ hk_ hs_ => (hk_) hs_)) (fun k_ hk_ => hk_.1)); have n1_ := Aside0.mk (Kd.R_reok rfl hy0 (fun k_ e_ => HO_6.out.1 k_ e_)); have n2_ := Aside0.mk (hb); clear HO_4; clear HO_6; clear HB; have HO_4 := n0_; have HO_6 := n1_; have HB := n2_; clear n0_ n1_ n2_; (try clear hb); (try clear hkp); (try clear hy0)) | ((with_reducible refine gate_callee (f := 30) rfl ?_); refine goesL_ (some 48) rfl rfl Try.func30 pL rfl #[.slice Ao21 t372.length co21, .int .i64 1] rfl (by (try simp only [List.map_toArray, List.map_cons, List.map_nil]); first | done | (rw [show t372.length = t360.length from (Kd.R_reads' HO_6.out).1.symm] <;> rfl) | rfl | (simp only [List.length_drop, List.length_take]; rfl)) ?_; (with_reducible refine (laws_heldIntS.calls kj13 _ _ t372 1 t373 _ ?side1 ?side2 A31.out).mono ?_); (case side1 => exact pS ((Kd.R_reads' HO_6.out).2.2)); (case side2 => rw [show t372.length = t360.length from (Kd.R_reads' HO_6.out).1.symm]; exact (Kd.R_reads' HO_6.out).2.1); rintro e w' ⟨rfl, ⟨nd, rfl⟩⟩; refine ⟨_, rfl, ?_⟩) | ((with_reducible refine gate_callee (f := 16) rfl ?_); refine goesL_ (some 55) rfl rfl Try.func16 pL rfl #[.slice A0 l0.length c0] rfl pM ?_; (with_reducible refine (laws_toUseS.calls kj13 _ _ l0 t374 _ ?side1 ?side2 A35.out).mono ?_); (case side1 => exact pS ((Kd.C_below HR0.out pB))); (case side2 => exact HC0.out); rintro e w42 ⟨v375, rfl, ho0, hb⟩; refine ⟨_, rfl, ?_⟩; have n0_ := Aside0.mk (Kd.R_below (pR HO_4) hb); have n1_ := Aside0.mk (Kd.R_below (pR HO_6) hb); have n2_ := Aside0.mk (Kd.R_lower ho0 (below_size pB)); have n3_ := Aside0.mk (below_step pB hb); clear HO_4; clear HO_6; clear HB; have HO_4 := n0_; have HO_6 := n1_; have HO376 := n2_; have HB := n3_; clear n0_ n1_ n2_ n3_; (try clear hb); (try clear hb2); (try clear hk); (try clear hi); (try clear ho0); obtain ⟨Ao43, co43, eo43⟩ := Kd.R_slice HO376.out; subst eo43) | ((with_reducible refine gate_callee (f := 22) rfl ?_); refine goesL_ (some 56) rfl rfl Try.func22 pL rfl #[.slice Ao43 t374.length co43] rfl pM ?_; (with_reducible refine (impl_TracesOf.calls kj13 _ _ t374 t377 _ ?side1 ?side2 A36.out).mono ?_); (case side1 => exact pS ((Kd.R_reads' HO376.out).2.2)); (case side2 => exact (Kd.R_reads' HO376.out).2.1); rintro e w44 ⟨v378, rfl, ho0, hb⟩; refine ⟨_, rfl, ?_⟩; have n0_ := Aside0.mk (Kd.R_elder' (pR HO_4) (Kd.R_base ho0) hb); have n1_ := Aside0.mk (Kd.R_elder' (pR HO_6) (Kd.R_base ho0) hb); have n2_ := Aside0.mk (Kd.R_below (pR HO376) hb); have n3_ := Aside0.mk (Kd.R_lower (Kd.R_new' (Kd.R_new' ho0 (Kd.R_lt (pR HO_4))) (Kd.R_lt (pR HO_6))) (below_size pB)); have n4_ := Aside0.mk (below_step pB hb); clear HO_4; clear HO_6; clear HO376; clear HB; have HO_4 := n0_; have HO_6 := n1_; have HO376 := n2_; have HO379 := n3_; have HB := n4_; clear n0_ n1_ n2_ n3_ n4_; (try clear hb); (try clear hb2); (try clear hk); (try clear hi); (try clear ho0); obtain ⟨Ao45, co45, eo45⟩ := Kd.R_slice HO379.out; subst eo45) | ((with_reducible refine gate_callee (f := 27) rfl ?_); refine goesL_ (some 59) rfl rfl Try.func27 pL rfl #[.slice Ao45 t377.length co45, .slice Ao22 t354.length co22] rfl pM ?_; (with_reducible refine (laws_eqIntS.calls kj13 _ _ t377 _ _ t354 true _ ?side1 ?side2 ?side3 ?side4 A37.out).mono ?_); (case side1 => exact pS ((Kd.R_reads' HO379.out).2.2)); (case side2 => exact (Kd.R_reads' HO379.out).2.1); (case side3 => exact pS ((Kd.R_reads' HO_4.out).2.2)); (case side4 => exact (Kd.R_reads' HO_4.out).2.1); rintro e w' ⟨rfl, ⟨nd, rfl⟩⟩; refine ⟨_, rfl, ?_⟩) | ((with_reducible refine gate_callee (f := 30) rfl ?_); refine goesL_ (some 63) rfl rfl Try.func30 pL rfl #[.slice Ao21 t372.length co21, .int .i64 1] rfl (by (try simp only [List.map_toArray, List.map_cons, List.map_nil]); first | done | (rw [show t372.length = t360.length from (Kd.R_reads' HO_6.out).1.symm] <;> rfl) | rfl | (simp only [List.length_drop, List.length_take]; rfl)) ?_; (with_reducible refine (laws_heldIntS.calls kj13 _ _ t372 1 t381 _ ?side1 ?side2 A39.out).mono ?_); (case side1 => exact pS ((Kd.R_reads' HO_6.out).2.2)); (case side2 => rw [show t372.length = t360.length from (Kd.R_reads' HO_6.out).1.symm]; exact (Kd.R_reads' HO_6.out).2.1); rintro e w' ⟨rfl, ⟨nd, rfl⟩⟩; refine ⟨_, rfl, ?_⟩))
           go_ret
           exact ⟨pE, pB⟩
          ·rw [if_neg c40] at H
           have c40b0 : decide (t381 < 0) = false := decide_eq_false c40
           clear c40
           by_cases c46 : t381 = t371
           ·rw [if_pos c46] at H
            have c46b0 : (t381 == t371) = true := beq_iff_eq.mpr c46
            have c46b1 : (t381 != t371) = false := bne_eq_false_iff_eq.mpr c46
            clear c46
            obtain rfl := Option.some.inj H
            go_wp2_with (first | ((with_reducible refine gate_callee (f := 29) rfl ?_); refine goesL_ (some 45) rfl rfl Try.func29 pL rfl #[.slice Ao21 t360.length co21, .int .i64 1] rfl pM ?_; (with_reducible refine (laws_markIntS.calls kj13 (fun k_ => some k_ = (.slice Ao21 t360.length co21 : Value).ownBlock) (.slice Ao21 t360.length co21) t360 1 t371 t372 w _ ?side1 ?side2 A30.out).mono ?_); (case side1 => exact pB); (case side2 => exact Kd.R_tight rfl HO_6.out); rintro e w47 ⟨rfl, hy0, hb, hkp⟩; refine ⟨_, rfl, ?_⟩; have n0_ := Aside0.mk (Kd.R_mono (ok' := fun k_ => some k_ ≠ (.slice Ao21 t360.length co21 : Value).ownBlock) (Kd.R_keptB (HO_4.out) hkp (fun k_ hk_ hs_ => (hk_) hs_)) (fun k_ hk_ => hk_.1)); have n1_ := Aside0.mk (Kd.R_reok rfl hy0 (fun k_ e_ => HO_6.out.1 k_ e_)); have n2_ := Aside0.mk (hb); clear HO_4; clear HO_6; clear HB; have HO_4 := n0_; have HO_6 := n1_; have HB := n2_; clear n0_ n1_ n2_; (try clear hb); (try clear hkp); (try clear hy0)) | ((with_reducible refine gate_callee (f := 30) rfl ?_); refine goesL_ (some 48) rfl rfl Try.func30 pL rfl #[.slice Ao21 t372.length co21, .int .i64 1] rfl (by (try simp only [List.map_toArray, List.map_cons, List.map_nil]); first | done | (rw [show t372.length = t360.length from (Kd.R_reads' HO_6.out).1.symm] <;> rfl) | rfl | (simp only [List.length_drop, List.length_take]; rfl)) ?_; (with_reducible refine (laws_heldIntS.calls kj13 _ _ t372 1 t373 _ ?side1 ?side2 A31.out).mono ?_); (case side1 => exact pS ((Kd.R_reads' HO_6.out).2.2)); (case side2 => rw [show t372.length = t360.length from (Kd.R_reads' HO_6.out).1.symm]; exact (Kd.R_reads' HO_6.out).2.1); rintro e w' ⟨rfl, ⟨nd, rfl⟩⟩; refine ⟨_, rfl, ?_⟩) | ((with_reducible refine gate_callee (f := 16) rfl ?_); refine goesL_ (some 55) rfl rfl Try.func16 pL rfl #[.slice A0 l0.length c0] rfl pM ?_; (with_reducible refine (laws_toUseS.calls kj13 _ _ l0 t374 _ ?side1 ?side2 A35.out).mono ?_); (case side1 => exact pS ((Kd.C_below HR0.out pB))); (case side2 => exact HC0.out); rintro e w48 ⟨v375, rfl, ho0, hb⟩; refine ⟨_, rfl, ?_⟩; have n0_ := Aside0.mk (Kd.R_below (pR HO_4) hb); have n1_ := Aside0.mk (Kd.R_below (pR HO_6) hb); have n2_ := Aside0.mk (Kd.R_lower ho0 (below_size pB)); have n3_ := Aside0.mk (below_step pB hb); clear HO_4; clear HO_6; clear HB; have HO_4 := n0_; have HO_6 := n1_; have HO376 := n2_; have HB := n3_; clear n0_ n1_ n2_ n3_; (try clear hb); (try clear hb2); (try clear hk); (try clear hi); (try clear ho0); obtain ⟨Ao49, co49, eo49⟩ := Kd.R_slice HO376.out; subst eo49) | ((with_reducible refine gate_callee (f := 22) rfl ?_); refine goesL_ (some 56) rfl rfl Try.func22 pL rfl #[.slice Ao49 t374.length co49] rfl pM ?_; (with_reducible refine (impl_TracesOf.calls kj13 _ _ t374 t377 _ ?side1 ?side2 A36.out).mono ?_); (case side1 => exact pS ((Kd.R_reads' HO376.out).2.2)); (case side2 => exact (Kd.R_reads' HO376.out).2.1); rintro e w50 ⟨v378, rfl, ho0, hb⟩; refine ⟨_, rfl, ?_⟩; have n0_ := Aside0.mk (Kd.R_elder' (pR HO_4) (Kd.R_base ho0) hb); have n1_ := Aside0.mk (Kd.R_elder' (pR HO_6) (Kd.R_base ho0) hb); have n2_ := Aside0.mk (Kd.R_below (pR HO376) hb); have n3_ := Aside0.mk (Kd.R_lower (Kd.R_new' (Kd.R_new' ho0 (Kd.R_lt (pR HO_4))) (Kd.R_lt (pR HO_6))) (below_size pB)); have n4_ := Aside0.mk (below_step pB hb); clear HO_4; clear HO_6; clear HO376; clear HB; have HO_4 := n0_; have HO_6 := n1_; have HO376 := n2_; have HO379 := n3_; have HB := n4_; clear n0_ n1_ n2_ n3_ n4_; (try clear hb); (try clear hb2); (try clear hk); (try clear hi); (try clear ho0); obtain ⟨Ao51, co51, eo51⟩ := Kd.R_slice HO379.out; subst eo51) | ((with_reducible refine gate_callee (f := 27) rfl ?_); refine goesL_ (some 59) rfl rfl Try.func27 pL rfl #[.slice Ao51 t377.length co51, .slice Ao22 t354.length co22] rfl pM ?_; (with_reducible refine (laws_eqIntS.calls kj13 _ _ t377 _ _ t354 true _ ?side1 ?side2 ?side3 ?side4 A37.out).mono ?_); (case side1 => exact pS ((Kd.R_reads' HO379.out).2.2)); (case side2 => exact (Kd.R_reads' HO379.out).2.1); (case side3 => exact pS ((Kd.R_reads' HO_4.out).2.2)); (case side4 => exact (Kd.R_reads' HO_4.out).2.1); rintro e w' ⟨rfl, ⟨nd, rfl⟩⟩; refine ⟨_, rfl, ?_⟩) | ((with_reducible refine gate_callee (f := 30) rfl ?_); refine goesL_ (some 63) rfl rfl Try.func30 pL rfl #[.slice Ao21 t372.length co21, .int .i64 1] rfl (by (try simp only [List.map_toArray, List.map_cons, List.map_nil]); first | done | (rw [show t372.length = t360.length from (Kd.R_reads' HO_6.out).1.symm] <;> rfl) | rfl | (simp only [List.length_drop, List.length_take]; rfl)) ?_; (with_reducible refine (laws_heldIntS.calls kj13 _ _ t372 1 t381 _ ?side1 ?side2 A39.out).mono ?_); (case side1 => exact pS ((Kd.R_reads' HO_6.out).2.2)); (case side2 => rw [show t372.length = t360.length from (Kd.R_reads' HO_6.out).1.symm]; exact (Kd.R_reads' HO_6.out).2.1); rintro e w' ⟨rfl, ⟨nd, rfl⟩⟩; refine ⟨_, rfl, ?_⟩))
            go_ret
            exact ⟨pE, pB⟩
           ·rw [if_neg c46] at H
            have c46b0 : (t381 == t371) = false := beq_eq_false_iff_ne.mpr c46
            have c46b1 : (t381 != t371) = true := bne_iff_ne.mpr c46
            obtain rfl := Option.some.inj H
            go_wp2_with (first | ((with_reducible refine gate_callee (f := 29) rfl ?_); refine goesL_ (some 45) rfl rfl Try.func29 pL rfl #[.slice Ao21 t360.length co21, .int .i64 1] rfl pM ?_; (with_reducible refine (laws_markIntS.calls kj13 (fun k_ => some k_ = (.slice Ao21 t360.length co21 : Value).ownBlock) (.slice Ao21 t360.length co21) t360 1 t371 t372 w _ ?side1 ?side2 A30.out).mono ?_); (case side1 => exact pB); (case side2 => exact Kd.R_tight rfl HO_6.out); rintro e w52 ⟨rfl, hy0, hb, hkp⟩; refine ⟨_, rfl, ?_⟩; have n0_ := Aside0.mk (Kd.R_mono (ok' := fun k_ => some k_ ≠ (.slice Ao21 t360.length co21 : Value).ownBlock) (Kd.R_keptB (HO_4.out) hkp (fun k_ hk_ hs_ => (hk_) hs_)) (fun k_ hk_ => hk_.1)); have n1_ := Aside0.mk (Kd.R_reok rfl hy0 (fun k_ e_ => HO_6.out.1 k_ e_)); have n2_ := Aside0.mk (hb); clear HO_4; clear HO_6; clear HB; have HO_4 := n0_; have HO_6 := n1_; have HB := n2_; clear n0_ n1_ n2_; (try clear hb); (try clear hkp); (try clear hy0)) | ((with_reducible refine gate_callee (f := 30) rfl ?_); refine goesL_ (some 48) rfl rfl Try.func30 pL rfl #[.slice Ao21 t372.length co21, .int .i64 1] rfl (by (try simp only [List.map_toArray, List.map_cons, List.map_nil]); first | done | (rw [show t372.length = t360.length from (Kd.R_reads' HO_6.out).1.symm] <;> rfl) | rfl | (simp only [List.length_drop, List.length_take]; rfl)) ?_; (with_reducible refine (laws_heldIntS.calls kj13 _ _ t372 1 t373 _ ?side1 ?side2 A31.out).mono ?_); (case side1 => exact pS ((Kd.R_reads' HO_6.out).2.2)); (case side2 => rw [show t372.length = t360.length from (Kd.R_reads' HO_6.out).1.symm]; exact (Kd.R_reads' HO_6.out).2.1); rintro e w' ⟨rfl, ⟨nd, rfl⟩⟩; refine ⟨_, rfl, ?_⟩) | ((with_reducible refine gate_callee (f := 16) rfl ?_); refine goesL_ (some 55) rfl rfl Try.func16 pL rfl #[.slice A0 l0.length c0] rfl pM ?_; (with_reducible refine (laws_toUseS.calls kj13 _ _ l0 t374 _ ?side1 ?side2 A35.out).mono ?_); (case side1 => exact pS ((Kd.C_below HR0.out pB))); (case side2 => exact HC0.out); rintro e w53 ⟨v375, rfl, ho0, hb⟩; refine ⟨_, rfl, ?_⟩; have n0_ := Aside0.mk (Kd.R_below (pR HO_4) hb); have n1_ := Aside0.mk (Kd.R_below (pR HO_6) hb); have n2_ := Aside0.mk (Kd.R_lower ho0 (below_size pB)); have n3_ := Aside0.mk (below_step pB hb); clear HO_4; clear HO_6; clear HB; have HO_4 := n0_; have HO_6 := n1_; have HO376 := n2_; have HB := n3_; clear n0_ n1_ n2_ n3_; (try clear hb); (try clear hb2); (try clear hk); (try clear hi); (try clear ho0); obtain ⟨Ao54, co54, eo54⟩ := Kd.R_slice HO376.out; subst eo54) | ((with_reducible refine gate_callee (f := 22) rfl ?_); refine goesL_ (some 56) rfl rfl Try.func22 pL rfl #[.slice Ao54 t374.length co54] rfl pM ?_; (with_reducible refine (impl_TracesOf.calls kj13 _ _ t374 t377 _ ?side1 ?side2 A36.out).mono ?_); (case side1 => exact pS ((Kd.R_reads' HO376.out).2.2)); (case side2 => exact (Kd.R_reads' HO376.out).2.1); rintro e w55 ⟨v378, rfl, ho0, hb⟩; refine ⟨_, rfl, ?_⟩; have n0_ := Aside0.mk (Kd.R_elder' (pR HO_4) (Kd.R_base ho0) hb); have n1_ := Aside0.mk (Kd.R_elder' (pR HO_6) (Kd.R_base ho0) hb); have n2_ := Aside0.mk (Kd.R_below (pR HO376) hb); have n3_ := Aside0.mk (Kd.R_lower (Kd.R_new' (Kd.R_new' ho0 (Kd.R_lt (pR HO_4))) (Kd.R_lt (pR HO_6))) (below_size pB)); have n4_ := Aside0.mk (below_step pB hb); clear HO_4; clear HO_6; clear HO376; clear HB; have HO_4 := n0_; have HO_6 := n1_; have HO376 := n2_; have HO379 := n3_; have HB := n4_; clear n0_ n1_ n2_ n3_ n4_; (try clear hb); (try clear hb2); (try clear hk); (try clear hi); (try clear ho0); obtain ⟨Ao56, co56, eo56⟩ := Kd.R_slice HO379.out; subst eo56) | ((with_reducible refine gate_callee (f := 27) rfl ?_); refine goesL_ (some 59) rfl rfl Try.func27 pL rfl #[.slice Ao56 t377.length co56, .slice Ao22 t354.length co22] rfl pM ?_; (with_reducible refine (laws_eqIntS.calls kj13 _ _ t377 _ _ t354 true _ ?side1 ?side2 ?side3 ?side4 A37.out).mono ?_); (case side1 => exact pS ((Kd.R_reads' HO379.out).2.2)); (case side2 => exact (Kd.R_reads' HO379.out).2.1); (case side3 => exact pS ((Kd.R_reads' HO_4.out).2.2)); (case side4 => exact (Kd.R_reads' HO_4.out).2.1); rintro e w' ⟨rfl, ⟨nd, rfl⟩⟩; refine ⟨_, rfl, ?_⟩) | ((with_reducible refine gate_callee (f := 30) rfl ?_); refine goesL_ (some 63) rfl rfl Try.func30 pL rfl #[.slice Ao21 t372.length co21, .int .i64 1] rfl (by (try simp only [List.map_toArray, List.map_cons, List.map_nil]); first | done | (rw [show t372.length = t360.length from (Kd.R_reads' HO_6.out).1.symm] <;> rfl) | rfl | (simp only [List.length_drop, List.length_take]; rfl)) ?_; (with_reducible refine (laws_heldIntS.calls kj13 _ _ t372 1 t381 _ ?side1 ?side2 A39.out).mono ?_); (case side1 => exact pS ((Kd.R_reads' HO_6.out).2.2)); (case side2 => rw [show t372.length = t360.length from (Kd.R_reads' HO_6.out).1.symm]; exact (Kd.R_reads' HO_6.out).2.1); rintro e w' ⟨rfl, ⟨nd, rfl⟩⟩; refine ⟨_, rfl, ?_⟩))
            go_ret
            exact ⟨pE, pB⟩
         ·replace c38 := Bool.eq_false_iff.mpr c38
          subst c38
          have H1 : (some false) = some r := by rw [if_neg (show ¬ (false = true) by decide)] at H; exact H
          clear H
          have H := H1
          clear H1
          obtain rfl := Option.some.inj H
          go_wp2_with (first | ((with_reducible refine gate_callee (f := 29) rfl ?_); refine goesL_ (some 45) rfl rfl Try.func29 pL rfl #[.slice Ao21 t360.length co21, .int .i64 1] rfl pM ?_; (with_reducible refine (laws_markIntS.calls kj13 (fun k_ => some k_ = (.slice Ao21 t360.length co21 : Value).ownBlock) (.slice Ao21 t360.length co21) t360 1 t371 t372 w _ ?side1 ?side2 A30.out).mono ?_); (case side1 => exact pB); (case side2 => exact Kd.R_tight rfl HO_6.out); rintro e w57 ⟨rfl, hy0, hb, hkp⟩; refine ⟨_, rfl, ?_⟩; have n0_ := Aside0.mk (Kd.R_mono (ok' := fun k_ => some k_ ≠ (.slice Ao21 t360.length co21 : Value).ownBlock) (Kd.R_keptB (HO_4.out) hkp (fun k_ hk_ hs_ => (hk_) hs_)) (fun k_ hk_ => hk_.1)); have n1_ := Aside0.mk (Kd.R_reok rfl hy0 (fun k_ e_ => HO_6.out.1 k_ e_)); have n2_ := Aside0.mk (hb); clear HO_4; clear HO_6; clear HB; have HO_4 := n0_; have HO_6 := n1_; have HB := n2_; clear n0_ n1_ n2_; (try clear hb); (try clear hkp); (try clear hy0)) | ((with_reducible refine gate_callee (f := 30) rfl ?_); refine goesL_ (some 48) rfl rfl Try.func30 pL rfl #[.slice Ao21 t372.length co21, .int .i64 1] rfl (by (try simp only [List.map_toArray, List.map_cons, List.map_nil]); first | done | (rw [show t372.length = t360.length from (Kd.R_reads' HO_6.out).1.symm] <;> rfl) | rfl | (simp only [List.length_drop, List.length_take]; rfl)) ?_; (with_reducible refine (laws_heldIntS.calls kj13 _ _ t372 1 t373 _ ?side1 ?side2 A31.out).mono ?_); (case side1 => exact pS ((Kd.R_reads' HO_6.out).2.2)); (case side2 => rw [show t372.length = t360.length from (Kd.R_reads' HO_6.out).1.symm]; exact (Kd.R_reads' HO_6.out).2.1); rintro e w' ⟨rfl, ⟨nd, rfl⟩⟩; refine ⟨_, rfl, ?_⟩) | ((with_reducible refine gate_callee (f := 16) rfl ?_); refine goesL_ (some 55) rfl rfl Try.func16 pL rfl #[.slice A0 l0.length c0] rfl pM ?_; (with_reducible refine (laws_toUseS.calls kj13 _ _ l0 t374 _ ?side1 ?side2 A35.out).mono ?_); (case side1 => exact pS ((Kd.C_below HR0.out pB))); (case side2 => exact HC0.out); rintro e w58 ⟨v375, rfl, ho0, hb⟩; refine ⟨_, rfl, ?_⟩; have n0_ := Aside0.mk (Kd.R_below (pR HO_4) hb); have n1_ := Aside0.mk (Kd.R_below (pR HO_6) hb); have n2_ := Aside0.mk (Kd.R_lower ho0 (below_size pB)); have n3_ := Aside0.mk (below_step pB hb); clear HO_4; clear HO_6; clear HB; have HO_4 := n0_; have HO_6 := n1_; have HO376 := n2_; have HB := n3_; clear n0_ n1_ n2_ n3_; (try clear hb); (try clear hb2); (try clear hk); (try clear hi); (try clear ho0); obtain ⟨Ao59, co59, eo59⟩ := Kd.R_slice HO376.out; subst eo59) | ((with_reducible refine gate_callee (f := 22) rfl ?_); refine goesL_ (some 56) rfl rfl Try.func22 pL rfl #[.slice Ao59 t374.length co59] rfl pM ?_; (with_reducible refine (impl_TracesOf.calls kj13 _ _ t374 t377 _ ?side1 ?side2 A36.out).mono ?_); (case side1 => exact pS ((Kd.R_reads' HO376.out).2.2)); (case side2 => exact (Kd.R_reads' HO376.out).2.1); rintro e w60 ⟨v378, rfl, ho0, hb⟩; refine ⟨_, rfl, ?_⟩; have n0_ := Aside0.mk (Kd.R_elder' (pR HO_4) (Kd.R_base ho0) hb); have n1_ := Aside0.mk (Kd.R_elder' (pR HO_6) (Kd.R_base ho0) hb); have n2_ := Aside0.mk (Kd.R_below (pR HO376) hb); have n3_ := Aside0.mk (Kd.R_lower (Kd.R_new' (Kd.R_new' ho0 (Kd.R_lt (pR HO_4))) (Kd.R_lt (pR HO_6))) (below_size pB)); have n4_ := Aside0.mk (below_step pB hb); clear HO_4; clear HO_6; clear HO376; clear HB; have HO_4 := n0_; have HO_6 := n1_; have HO376 := n2_; have HO379 := n3_; have HB := n4_; clear n0_ n1_ n2_ n3_ n4_; (try clear hb); (try clear hb2); (try clear hk); (try clear hi); (try clear ho0); obtain ⟨Ao61, co61, eo61⟩ := Kd.R_slice HO379.out; subst eo61) | ((with_reducible refine gate_callee (f := 27) rfl ?_); refine goesL_ (some 59) rfl rfl Try.func27 pL rfl #[.slice Ao61 t377.length co61, .slice Ao22 t354.length co22] rfl pM ?_; (with_reducible refine (laws_eqIntS.calls kj13 _ _ t377 _ _ t354 false _ ?side1 ?side2 ?side3 ?side4 A37.out).mono ?_); (case side1 => exact pS ((Kd.R_reads' HO379.out).2.2)); (case side2 => exact (Kd.R_reads' HO379.out).2.1); (case side3 => exact pS ((Kd.R_reads' HO_4.out).2.2)); (case side4 => exact (Kd.R_reads' HO_4.out).2.1); rintro e w' ⟨rfl, ⟨nd, rfl⟩⟩; refine ⟨_, rfl, ?_⟩))
          go_ret
          exact ⟨pE, pB⟩
        ·rw [if_neg c34] at H
         have c34b0 : (t373 == t371) = false := beq_eq_false_iff_ne.mpr c34
         have c34b1 : (t373 != t371) = true := bne_iff_ne.mpr c34
         obtain rfl := Option.some.inj H
         go_wp2_with (first | ((with_reducible refine gate_callee (f := 29) rfl ?_); refine goesL_ (some 45) rfl rfl Try.func29 pL rfl #[.slice Ao21 t360.length co21, .int .i64 1] rfl pM ?_; (with_reducible refine (laws_markIntS.calls kj13 (fun k_ => some k_ = (.slice Ao21 t360.length co21 : Value).ownBlock) (.slice Ao21 t360.length co21) t360 1 t371 t372 w _ ?side1 ?side2 A30.out).mono ?_); (case side1 => exact pB); (case side2 => exact Kd.R_tight rfl HO_6.out); rintro e w62 ⟨rfl, hy0, hb, hkp⟩; refine ⟨_, rfl, ?_⟩; have n0_ := Aside0.mk (Kd.R_mono (ok' := fun k_ => some k_ ≠ (.slice Ao21 t360.length co21 : Value).ownBlock) (Kd.R_keptB (HO_4.out) hkp (fun k_ hk_ hs_ => (hk_) hs_)) (fun k_ hk_ => hk_.1)); have n1_ := Aside0.mk (Kd.R_reok rfl hy0 (fun k_ e_ => HO_6.out.1 k_ e_)); have n2_ := Aside0.mk (hb); clear HO_4; clear HO_6; clear HB; have HO_4 := n0_; have HO_6 := n1_; have HB := n2_; clear n0_ n1_ n2_; (try clear hb); (try clear hkp); (try clear hy0)) | ((with_reducible refine gate_callee (f := 30) rfl ?_); refine goesL_ (some 48) rfl rfl Try.func30 pL rfl #[.slice Ao21 t372.length co21, .int .i64 1] rfl (by (try simp only [List.map_toArray, List.map_cons, List.map_nil]); first | done | (rw [show t372.length = t360.length from (Kd.R_reads' HO_6.out).1.symm] <;> rfl) | rfl | (simp only [List.length_drop, List.length_take]; rfl)) ?_; (with_reducible refine (laws_heldIntS.calls kj13 _ _ t372 1 t373 _ ?side1 ?side2 A31.out).mono ?_); (case side1 => exact pS ((Kd.R_reads' HO_6.out).2.2)); (case side2 => rw [show t372.length = t360.length from (Kd.R_reads' HO_6.out).1.symm]; exact (Kd.R_reads' HO_6.out).2.1); rintro e w' ⟨rfl, ⟨nd, rfl⟩⟩; refine ⟨_, rfl, ?_⟩))
         go_ret
         exact ⟨pE, pB⟩
   ·replace c12 := Bool.eq_false_iff.mpr c12
    subst c12
    have H1 : (some false) = some r := by rw [if_neg (show ¬ (false = true) by decide)] at H; exact H
    clear H
    have H := H1
    clear H1
    obtain rfl := Option.some.inj H
    go_enter Try.func9, Try.ntmps9
    go_wp2_with (first | ((with_reducible refine gate_callee (f := 14) rfl ?_); refine goesL_ (some 13) rfl rfl Try.func14 pL rfl #[.slice A0 l0.length c0, .int .i64 1048576] rfl pM ?_; (with_reducible refine (laws_szUseS.calls _ _ l0 1048576 t350 _ ?side1 ?side2 A2.out).mono ?_); (case side1 => exact pS (HR0.out)); (case side2 => exact HC0.out); rintro e w' ⟨rfl, ⟨nd, rfl⟩⟩; refine ⟨_, rfl, ?_⟩) | ((with_reducible refine gate_callee (f := 16) rfl ?_); refine goesL_ (some 17) rfl rfl Try.func16 pL rfl #[.slice A0 l0.length c0] rfl pM ?_; (with_reducible refine (laws_toUseS.calls k _ _ l0 t351 _ ?side1 ?side2 A4.out).mono ?_); (case side1 => exact pS (HR0.out)); (case side2 => exact HC0.out); rintro e w63 ⟨v352, rfl, ho0, hb⟩; refine ⟨_, rfl, ?_⟩; have n0_ := Aside0.mk (Kd.R_lower ho0 (below_size pB)); have n1_ := Aside0.mk (below_step pB hb); clear HB; have HO353 := n0_; have HB := n1_; clear n0_ n1_; (try clear hb); (try clear hb2); (try clear hk); (try clear hi); (try clear ho0); obtain ⟨Ao64, co64, eo64⟩ := Kd.R_slice HO353.out; subst eo64) | ((with_reducible refine gate_callee (f := 23) rfl ?_); refine goesL_ (some 18) rfl rfl Try.func23 pL rfl #[.slice Ao64 t351.length co64] rfl pM ?_; (with_reducible refine (spec_TracesOf.calls k _ _ t351 t354 _ ?side1 ?side2 A5.out).mono ?_); (case side1 => exact pS ((Kd.R_reads' HO353.out).2.2)); (case side2 => exact (Kd.R_reads' HO353.out).2.1); rintro e w65 ⟨v355, rfl, ho0, hb⟩; refine ⟨_, rfl, ?_⟩; have n0_ := Aside0.mk (Kd.R_below (pR HO353) hb); have n1_ := Aside0.mk (Kd.R_lower ho0 (below_size pB)); have n2_ := Aside0.mk (below_step pB hb); clear HO353; clear HB; have HO353 := n0_; have HO356 := n1_; have HB := n2_; clear n0_ n1_ n2_; (try clear hb); (try clear hb2); (try clear hk); (try clear hi); (try clear ho0)) | ((with_reducible refine gate_callee (f := 16) rfl ?_); refine goesL_ (some 20) rfl rfl Try.func16 pL rfl #[.slice A0 l0.length c0] rfl pM ?_; (with_reducible refine (laws_toUseS.calls k _ _ l0 t357 _ ?side1 ?side2 A6.out).mono ?_); (case side1 => exact pS ((Kd.C_below HR0.out HB.out))); (case side2 => exact HC0.out); rintro e w66 ⟨v358, rfl, ho0, hb⟩; refine ⟨_, rfl, ?_⟩; have n0_ := Aside0.mk (Kd.R_elder' (pR HO353) (Kd.R_base ho0) hb); have n1_ := Aside0.mk (Kd.R_below (pR HO356) hb); have n2_ := Aside0.mk (Kd.R_lower (Kd.R_new' ho0 (Kd.R_lt (pR HO353))) (below_size pB)); have n3_ := Aside0.mk (below_step pB hb); clear HO353; clear HO356; clear HB; have HO353 := n0_; have HO356 := n1_; have HO359 := n2_; have HB := n3_; clear n0_ n1_ n2_ n3_; (try clear hb); (try clear hb2); (try clear hk); (try clear hi); (try clear ho0); obtain ⟨Ao67, co67, eo67⟩ := Kd.R_slice HO359.out; subst eo67) | ((with_reducible refine gate_callee (f := 22) rfl ?_); refine goesL_ (some 22) rfl rfl Try.func22 pL rfl #[.slice Ao67 t357.length co67] rfl pM ?_; (with_reducible refine (impl_TracesOf.calls k _ _ t357 t360 _ ?side1 ?side2 A7.out).mono ?_); (case side1 => exact pS ((Kd.R_reads' HO359.out).2.2)); (case side2 => exact (Kd.R_reads' HO359.out).2.1); rintro e w68 ⟨v361, rfl, ho0, hb⟩; refine ⟨_, rfl, ?_⟩; have n0_ := Aside0.mk (Kd.R_below (pR HO353) hb); have n1_ := Aside0.mk (Kd.R_elder' (pR HO356) (Kd.R_base ho0) hb); have n2_ := Aside0.mk (Kd.R_below (pR HO359) hb); have n3_ := Aside0.mk (Kd.R_lower (Kd.R_new' ho0 (Kd.R_lt (pR HO356))) (below_size pB)); have n4_ := Aside0.mk (below_step pB hb); clear HO353; clear HO356; clear HO359; clear HB; have HO353 := n0_; have HO356 := n1_; have HO359 := n2_; have HO362 := n3_; have HB := n4_; clear n0_ n1_ n2_ n3_ n4_; (try clear hb); (try clear hb2); (try clear hk); (try clear hi); (try clear ho0); obtain ⟨Ao69, co69, eo69⟩ := Kd.R_slice HO362.out; subst eo69; obtain ⟨Ao70, co70, eo70⟩ := Kd.R_slice HO356.out; subst eo70) | ((with_reducible refine gate_callee (f := 27) rfl ?_); refine goesL_ (some 25) rfl rfl Try.func27 pL rfl #[.slice Ao69 t360.length co69, .slice Ao70 t354.length co70] rfl pM ?_; (with_reducible refine (laws_eqIntS.calls k _ _ t360 _ _ t354 true _ ?side1 ?side2 ?side3 ?side4 A8.out).mono ?_); (case side1 => exact pS ((Kd.R_reads' HO362.out).2.2)); (case side2 => exact (Kd.R_reads' HO362.out).2.1); (case side3 => exact pS ((Kd.R_reads' HO356.out).2.2)); (case side4 => exact (Kd.R_reads' HO356.out).2.1); rintro e w' ⟨rfl, ⟨nd, rfl⟩⟩; refine ⟨_, rfl, ?_⟩) | ((with_reducible refine gate_callee (f := 16) rfl ?_); refine goesL_ (some 29) rfl rfl Try.func16 pL rfl #[.slice A0 l0.length c0] rfl pM ?_; (with_reducible refine (laws_toUseS.calls k _ _ l0 t364 _ ?side1 ?side2 A10.out).mono ?_); (case side1 => exact pS ((Kd.C_below HR0.out pB))); (case side2 => exact HC0.out); rintro e w71 ⟨v365, rfl, ho0, hb⟩; refine ⟨_, rfl, ?_⟩; have n0_ := Aside0.mk (Kd.R_elder' (pR HO353) (Kd.R_base ho0) hb); have n1_ := Aside0.mk (Kd.R_below (pR HO356) hb); have n2_ := Aside0.mk (Kd.R_elder' (pR HO359) (Kd.R_base ho0) hb); have n3_ := Aside0.mk (Kd.R_below (pR HO362) hb); have n4_ := Aside0.mk (Kd.R_lower (Kd.R_new' (Kd.R_new' ho0 (Kd.R_lt (pR HO353))) (Kd.R_lt (pR HO359))) (below_size pB)); have n5_ := Aside0.mk (below_step pB hb); clear HO353; clear HO356; clear HO359; clear HO362; clear HB; have HO353 := n0_; have HO356 := n1_; have HO359 := n2_; have HO362 := n3_; have HO366 := n4_; have HB := n5_; clear n0_ n1_ n2_ n3_ n4_ n5_; (try clear hb); (try clear hb2); (try clear hk); (try clear hi); (try clear ho0); obtain ⟨Ao72, co72, eo72⟩ := Kd.R_slice HO366.out; subst eo72) | ((with_reducible refine gate_callee (f := 18) rfl ?_); refine goesL_ (some 30) rfl rfl Try.func18 pL rfl #[.slice Ao67 t357.length co67, .slice Ao72 t364.length co72] rfl pM ?_; (with_reducible refine (laws_eqUseS.calls k _ _ t357 _ _ t364 false _ ?side1 ?side2 ?side3 ?side4 A11.out).mono ?_); (case side1 => exact pS ((Kd.R_reads' HO359.out).2.2)); (case side2 => exact (Kd.R_reads' HO359.out).2.1); (case side3 => exact pS ((Kd.R_reads' HO366.out).2.2)); (case side4 => exact (Kd.R_reads' HO366.out).2.1); rintro e w73 ⟨rfl, hb⟩; refine ⟨_, rfl, ?_⟩; have n0_ := Aside0.mk (Kd.R_below (pR HO353) hb); have n1_ := Aside0.mk (Kd.R_below (pR HO356) hb); have n2_ := Aside0.mk (Kd.R_below (pR HO359) hb); have n3_ := Aside0.mk (Kd.R_below (pR HO362) hb); have n4_ := Aside0.mk (Kd.R_below (pR HO366) hb); have n5_ := Aside0.mk (below_step pB hb); clear HO353; clear HO356; clear HO359; clear HO362; clear HO366; clear HB; have HO353 := n0_; have HO356 := n1_; have HO359 := n2_; have HO362 := n3_; have HO366 := n4_; have HB := n5_; clear n0_ n1_ n2_ n3_ n4_ n5_; (try clear hb); (try clear hb2); (try clear hk); (try clear hi)))
    go_ret
    exact ⟨pE, pB⟩
  ·replace c9 := Bool.eq_false_iff.mpr c9
   subst c9
   have H1 : (some false) = some r := by rw [if_neg (show ¬ (false = true) by decide)] at H; exact H
   clear H
   have H := H1
   clear H1
   obtain rfl := Option.some.inj H
   go_enter Try.func9, Try.ntmps9
   go_wp2_with (first | ((with_reducible refine gate_callee (f := 14) rfl ?_); refine goesL_ (some 13) rfl rfl Try.func14 pL rfl #[.slice A0 l0.length c0, .int .i64 1048576] rfl pM ?_; (with_reducible refine (laws_szUseS.calls _ _ l0 1048576 t350 _ ?side1 ?side2 A2.out).mono ?_); (case side1 => exact pS (HR0.out)); (case side2 => exact HC0.out); rintro e w' ⟨rfl, ⟨nd, rfl⟩⟩; refine ⟨_, rfl, ?_⟩) | ((with_reducible refine gate_callee (f := 16) rfl ?_); refine goesL_ (some 17) rfl rfl Try.func16 pL rfl #[.slice A0 l0.length c0] rfl pM ?_; (with_reducible refine (laws_toUseS.calls k _ _ l0 t351 _ ?side1 ?side2 A4.out).mono ?_); (case side1 => exact pS (HR0.out)); (case side2 => exact HC0.out); rintro e w74 ⟨v352, rfl, ho0, hb⟩; refine ⟨_, rfl, ?_⟩; have n0_ := Aside0.mk (Kd.R_lower ho0 (below_size pB)); have n1_ := Aside0.mk (below_step pB hb); clear HB; have HO353 := n0_; have HB := n1_; clear n0_ n1_; (try clear hb); (try clear hb2); (try clear hk); (try clear hi); (try clear ho0); obtain ⟨Ao75, co75, eo75⟩ := Kd.R_slice HO353.out; subst eo75) | ((with_reducible refine gate_callee (f := 23) rfl ?_); refine goesL_ (some 18) rfl rfl Try.func23 pL rfl #[.slice Ao75 t351.length co75] rfl pM ?_; (with_reducible refine (spec_TracesOf.calls k _ _ t351 t354 _ ?side1 ?side2 A5.out).mono ?_); (case side1 => exact pS ((Kd.R_reads' HO353.out).2.2)); (case side2 => exact (Kd.R_reads' HO353.out).2.1); rintro e w76 ⟨v355, rfl, ho0, hb⟩; refine ⟨_, rfl, ?_⟩; have n0_ := Aside0.mk (Kd.R_below (pR HO353) hb); have n1_ := Aside0.mk (Kd.R_lower ho0 (below_size pB)); have n2_ := Aside0.mk (below_step pB hb); clear HO353; clear HB; have HO353 := n0_; have HO356 := n1_; have HB := n2_; clear n0_ n1_ n2_; (try clear hb); (try clear hb2); (try clear hk); (try clear hi); (try clear ho0)) | ((with_reducible refine gate_callee (f := 16) rfl ?_); refine goesL_ (some 20) rfl rfl Try.func16 pL rfl #[.slice A0 l0.length c0] rfl pM ?_; (with_reducible refine (laws_toUseS.calls k _ _ l0 t357 _ ?side1 ?side2 A6.out).mono ?_); (case side1 => exact pS ((Kd.C_below HR0.out HB.out))); (case side2 => exact HC0.out); rintro e w77 ⟨v358, rfl, ho0, hb⟩; refine ⟨_, rfl, ?_⟩; have n0_ := Aside0.mk (Kd.R_elder' (pR HO353) (Kd.R_base ho0) hb); have n1_ := Aside0.mk (Kd.R_below (pR HO356) hb); have n2_ := Aside0.mk (Kd.R_lower (Kd.R_new' ho0 (Kd.R_lt (pR HO353))) (below_size pB)); have n3_ := Aside0.mk (below_step pB hb); clear HO353; clear HO356; clear HB; have HO353 := n0_; have HO356 := n1_; have HO359 := n2_; have HB := n3_; clear n0_ n1_ n2_ n3_; (try clear hb); (try clear hb2); (try clear hk); (try clear hi); (try clear ho0); obtain ⟨Ao78, co78, eo78⟩ := Kd.R_slice HO359.out; subst eo78) | ((with_reducible refine gate_callee (f := 22) rfl ?_); refine goesL_ (some 22) rfl rfl Try.func22 pL rfl #[.slice Ao78 t357.length co78] rfl pM ?_; (with_reducible refine (impl_TracesOf.calls k _ _ t357 t360 _ ?side1 ?side2 A7.out).mono ?_); (case side1 => exact pS ((Kd.R_reads' HO359.out).2.2)); (case side2 => exact (Kd.R_reads' HO359.out).2.1); rintro e w79 ⟨v361, rfl, ho0, hb⟩; refine ⟨_, rfl, ?_⟩; have n0_ := Aside0.mk (Kd.R_below (pR HO353) hb); have n1_ := Aside0.mk (Kd.R_elder' (pR HO356) (Kd.R_base ho0) hb); have n2_ := Aside0.mk (Kd.R_below (pR HO359) hb); have n3_ := Aside0.mk (Kd.R_lower (Kd.R_new' ho0 (Kd.R_lt (pR HO356))) (below_size pB)); have n4_ := Aside0.mk (below_step pB hb); clear HO353; clear HO356; clear HO359; clear HB; have HO353 := n0_; have HO356 := n1_; have HO359 := n2_; have HO362 := n3_; have HB := n4_; clear n0_ n1_ n2_ n3_ n4_; (try clear hb); (try clear hb2); (try clear hk); (try clear hi); (try clear ho0); obtain ⟨Ao80, co80, eo80⟩ := Kd.R_slice HO362.out; subst eo80; obtain ⟨Ao81, co81, eo81⟩ := Kd.R_slice HO356.out; subst eo81) | ((with_reducible refine gate_callee (f := 27) rfl ?_); refine goesL_ (some 25) rfl rfl Try.func27 pL rfl #[.slice Ao80 t360.length co80, .slice Ao81 t354.length co81] rfl pM ?_; (with_reducible refine (laws_eqIntS.calls k _ _ t360 _ _ t354 false _ ?side1 ?side2 ?side3 ?side4 A8.out).mono ?_); (case side1 => exact pS ((Kd.R_reads' HO362.out).2.2)); (case side2 => exact (Kd.R_reads' HO362.out).2.1); (case side3 => exact pS ((Kd.R_reads' HO356.out).2.2)); (case side4 => exact (Kd.R_reads' HO356.out).2.1); rintro e w' ⟨rfl, ⟨nd, rfl⟩⟩; refine ⟨_, rfl, ?_⟩))
   go_ret
   exact ⟨pE, pB⟩

end Go.Proofs.Ytglpjchpgjaanaa.Q
