-- Written by the kit's print.py for all laws of the seat at once (one namespace), by a program of this session.
import Derived.Test.YtclldijjbmnkeaaQx0
import Derived.Test.YtclldijjbmnkeaaQx3
import Derived.Test.YtclldijjbmnkeaaQx5
import Derived.Test.YtclldijjbmnkeaaQx10
import Derived.Test.YtclldijjbmnkeaaQx14
import Derived.Test.YtclldijjbmnkeaaQx16
namespace Go.Proofs.Ytclldijjbmnkeaa.Q
open Go.RowKit Go.Proofs.YtclldijjbmnkeaaW.PrintWords Go.Proofs.YtclldijjbmnkeaaW.PrintLast Go.Proofs.YtclldijjbmnkeaaW.PrintMore
attribute [local go_sem] max2_int min2_int max_two min_two max_three min_three max_four min_four   -- for this text's walks alone
set_option linter.unusedVariables false
set_option linter.unusedSimpArgs false

/-! ### spec_l3Has: function 92 -/
def spec_l3Has.f (k : Nat) (a0 : Int) (a1 : Int) : Option (Bool) := (spec_l3Weight.f k a1).bind fun t354 => (if t354 = 0 then (none) else (some ((Int.tmod (wrap64 (Int.tdiv a0 t354)) 2) == 1)))
theorem spec_l3Has.mono : ∀ a0 a1 k, LeO (spec_l3Has.f k a0 a1) (spec_l3Has.f (k + 1) a0 a1) := by
 intro a0 a1 k
 unfold spec_l3Has.f
 repeat' first
   | (with_reducible exact spec_l3Weight.mono _ _)
   | (with_reducible exact LeO.refl _)
   | (with_reducible exact LeO.none _)
   | (with_reducible refine LeO.ite ?_ ?_)
   | (with_reducible refine LeO.bind ?_ (fun _ => ?_))
   | exact spec_l3Weight.mono _ _
   | exact LeO.none _
   | refine LeO.ite ?_ ?_
   | refine LeO.bind ?_ (fun _ => ?_)
set_option maxHeartbeats 8000000 in
set_option maxRecDepth 100000 in
theorem spec_l3Has.calls (k : Nat) (a0 : Int) (a1 : Int) (r : Bool) (w : World) (h : spec_l3Has.f k a0 a1 = some r) :
  Calls Try.prog 92 #[.int .i64 a0, .int .i64 a1] w fun e w' => e = .returned (.bool r) ∧ Drawn0 w w' := by
 have H : ((spec_l3Weight.f k a1).bind fun t354 => (if t354 = 0 then (none) else (some ((Int.tmod (wrap64 (Int.tdiv a0 t354)) 2) == 1)))) = some r := h
 clear h
 replace H := Option.bind_eq_some_iff.mp H
 obtain ⟨t354, A30, H⟩ := H
 replace H : (if t354 = 0 then (none) else (some ((Int.tmod (wrap64 (Int.tdiv a0 t354)) 2) == 1))) = some r := H
 have A3 := Aside0.mk A30
 clear A30
 by_cases c4 : t354 = 0
 ·rw [if_pos c4] at H
  exact absurd H (by simp)
 rw [if_neg c4] at H
 have c4b0 : (t354 == 0) = false := beq_eq_false_iff_ne.mpr c4
 have c4b1 : (t354 != 0) = true := bne_iff_ne.mpr c4
 obtain rfl := Option.some.inj H
 go_enter Try.func92, Try.ntmps92
 go_wp2_with (first | ((with_reducible refine gate_callee (f := 93) rfl ?_); refine goesL_ (some 7) rfl rfl Try.func93 pL rfl #[.int .i64 a1] rfl pM ?_; (with_reducible refine (spec_l3Weight.calls k a1 t354 _ A3.out).mono ?_); rintro e w' ⟨rfl, ⟨nd, rfl⟩⟩; refine ⟨_, rfl, ?_⟩))
 go_ret
 exact ⟨pF, by repeat (first | exact Drawn0.refl _ | apply Drawn0.step)⟩

/-! ### spec_l3Join: function 63 -/
def spec_l3Join.l0 : Nat → Int → Int → Int → Int → Option (Int)
 | 0, _, _, _, _ => none
 | k + 1, x0, x1, x5, x6 => if x6 < 8 then ((spec_l3Has.f k x0 x6).bind fun t355 => (if t355 = true then ((spec_l3Weight.f k x6).bind fun t356 => (spec_l3Join.l0 k x0 x1 (wrap64 (x5 + t356)) (wrap64 (x6 + 1)))) else ((spec_l3Has.f k x1 x6).bind fun t357 => (if t357 = true then ((spec_l3Weight.f k x6).bind fun t358 => (spec_l3Join.l0 k x0 x1 (wrap64 (x5 + t358)) (wrap64 (x6 + 1)))) else (spec_l3Join.l0 k x0 x1 x5 (wrap64 (x6 + 1))))))) else (some x5)
def spec_l3Join.f (k : Nat) (a0 : Int) (a1 : Int) : Option (Int) := spec_l3Join.l0 k a0 a1 0 0
theorem spec_l3Join.mono_l : ∀ k, (∀ y0 y1 y2 y3, LeO (spec_l3Join.l0 k y0 y1 y2 y3) (spec_l3Join.l0 (k + 1) y0 y1 y2 y3))
 | 0 => fun _ _ _ _ r h => by simp [spec_l3Join.l0] at h
 | k + 1 => by
  have ih0 := spec_l3Join.mono_l k
  ·intro y0 y1 y2 y3
   unfold spec_l3Join.l0
   repeat' first
   | (with_reducible exact ih0 _ _ _ _)
   | (with_reducible exact spec_l3Has.mono _ _ _)
   | (with_reducible exact spec_l3Weight.mono _ _)
   | (with_reducible exact LeO.refl _)
   | (with_reducible exact LeO.none _)
   | (with_reducible refine LeO.ite ?_ ?_)
   | (with_reducible refine LeO.bind ?_ (fun _ => ?_))
   | exact ih0 _ _ _ _
   | exact spec_l3Has.mono _ _ _
   | exact spec_l3Weight.mono _ _
   | exact LeO.none _
   | refine LeO.ite ?_ ?_
   | refine LeO.bind ?_ (fun _ => ?_)
theorem spec_l3Join.mono : ∀ a0 a1 k, LeO (spec_l3Join.f k a0 a1) (spec_l3Join.f (k + 1) a0 a1) := by
 intro a0 a1 k
 have ih0 := spec_l3Join.mono_l k
 unfold spec_l3Join.f
 repeat' first
   | (with_reducible exact ih0 _ _ _ _)
   | (with_reducible exact spec_l3Has.mono _ _ _)
   | (with_reducible exact spec_l3Weight.mono _ _)
   | (with_reducible exact LeO.refl _)
   | (with_reducible exact LeO.none _)
   | (with_reducible refine LeO.ite ?_ ?_)
   | (with_reducible refine LeO.bind ?_ (fun _ => ?_))
   | exact ih0 _ _ _ _
   | exact spec_l3Has.mono _ _ _
   | exact spec_l3Weight.mono _ _
   | exact LeO.none _
   | refine LeO.ite ?_ ?_
   | refine LeO.bind ?_ (fun _ => ?_)
set_option maxHeartbeats 8000000 in
set_option maxRecDepth 100000 in
theorem spec_l3Join.calls (k : Nat) (a0 : Int) (a1 : Int) (r : Int) (w : World) (h : spec_l3Join.f k a0 a1 = some r) :
  Calls Try.prog 63 #[.int .i64 a0, .int .i64 a1] w fun e w' => e = .returned (.int .i64 r) ∧ Drawn0 w w' := by
 have H : (spec_l3Join.l0 k a0 a1 0 0) = some r := h
 clear h
 have H' := Aside0.mk H
 clear H
 go_enter Try.func63, Try.ntmps63
 go_wp2
 go_loopg [5, 6] k (fun kq v5 v6 w' => ∃ (x5_1 : Int) (x6_1 : Int), v5 = .int .i64 x5_1 ∧ v6 = .int .i64 x6_1 ∧ Aside0 (spec_l3Join.l0 kq a0 a1 x5_1 x6_1 = some r) ∧ Aside0 (kq ≤ k) ∧ Drawn0 w w')
 case atStart => exact ⟨(0), (0), pF, pF, H', ⟨Nat.le_refl _⟩, by repeat (first | exact Drawn0.refl _ | apply Drawn0.step)⟩
 case round =>
  clear H'
  try clear p2
  obtain ⟨x5_1, x6_1, rfl, rfl, HA, HK1, ⟨m1, rfl⟩⟩ := hrel
  cases gk with
  | zero => exact absurd HA.out (by simp [spec_l3Join.l0])
  | succ k1 =>
   have H := HA.out
   clear HA
   simp only [spec_l3Join.l0] at H
   rcases (Classical.em (x6_1 < 8)).symm with c3 | c3
   ·rw [if_neg c3] at H
    have c3b0 : decide (x6_1 < 8) = false := decide_eq_false c3
    clear c3
    obtain rfl := Option.some.inj H
    go_wp2
    go_ret
    exact ⟨pF, by repeat (first | exact Drawn0.refl _ | apply Drawn0.step)⟩

   rw [if_pos c3] at H
   have c3b0 : decide (x6_1 < 8) = true := decide_eq_true c3
   clear c3
   replace H := Option.bind_eq_some_iff.mp H
   obtain ⟨t355, A40, H⟩ := H
   replace H : (if t355 = true then ((spec_l3Weight.f k1 x6_1).bind fun t356 => (spec_l3Join.l0 k1 a0 a1 (wrap64 (x5_1 + t356)) (wrap64 (x6_1 + 1)))) else ((spec_l3Has.f k1 a1 x6_1).bind fun t357 => (if t357 = true then ((spec_l3Weight.f k1 x6_1).bind fun t358 => (spec_l3Join.l0 k1 a0 a1 (wrap64 (x5_1 + t358)) (wrap64 (x6_1 + 1)))) else (spec_l3Join.l0 k1 a0 a1 x5_1 (wrap64 (x6_1 + 1)))))) = some r := H
   have A4 := Aside0.mk A40
   clear A40
   by_cases c5 : t355 = true
   ·subst c5
    have H1 : ((spec_l3Weight.f k1 x6_1).bind fun t356 => (spec_l3Join.l0 k1 a0 a1 (wrap64 (x5_1 + t356)) (wrap64 (x6_1 + 1)))) = some r := by rw [if_pos rfl] at H; exact H
    clear H
    have H := H1
    clear H1
    replace H := Option.bind_eq_some_iff.mp H
    obtain ⟨t356, A60, H⟩ := H
    replace H : (spec_l3Join.l0 k1 a0 a1 (wrap64 (x5_1 + t356)) (wrap64 (x6_1 + 1))) = some r := H
    have A6 := Aside0.mk A60
    clear A60
    have H' := Aside0.mk H
    clear H
    go_wp2_with (first | ((with_reducible refine gate_callee (f := 92) rfl ?_); refine goesL_ (some 13) rfl rfl Try.func92 pL rfl #[.int .i64 a0, .int .i64 x6_1] rfl pM ?_; (with_reducible refine (spec_l3Has.calls k1 a0 x6_1 true _ A4.out).mono ?_); rintro e w' ⟨rfl, ⟨nd, rfl⟩⟩; refine ⟨_, rfl, ?_⟩) | ((with_reducible refine gate_callee (f := 93) rfl ?_); refine goesL_ (some 21) rfl rfl Try.func93 pL rfl #[.int .i64 x6_1] rfl pM ?_; (with_reducible refine (spec_l3Weight.calls k1 x6_1 t356 _ A6.out).mono ?_); rintro e w' ⟨rfl, ⟨nd, rfl⟩⟩; refine ⟨_, rfl, ?_⟩))
    go_roundg k1
    case measure => have := HK1.out; omega
    case rel => exact ⟨(wrap64 (x5_1 + t356)), (wrap64 (x6_1 + 1)), pF, pF, H', ⟨by have := HK1.out; omega⟩, by repeat (first | exact Drawn0.refl _ | apply Drawn0.step)⟩
   replace c5 := Bool.eq_false_iff.mpr c5
   subst c5
   have H1 : ((spec_l3Has.f k1 a1 x6_1).bind fun t357 => (if t357 = true then ((spec_l3Weight.f k1 x6_1).bind fun t358 => (spec_l3Join.l0 k1 a0 a1 (wrap64 (x5_1 + t358)) (wrap64 (x6_1 + 1)))) else (spec_l3Join.l0 k1 a0 a1 x5_1 (wrap64 (x6_1 + 1))))) = some r := by rw [if_neg (show ¬ (false = true) by decide)] at H; exact H
   clear H
   have H := H1
   clear H1
   replace H := Option.bind_eq_some_iff.mp H
   obtain ⟨t357, A70, H⟩ := H
   replace H : (if t357 = true then ((spec_l3Weight.f k1 x6_1).bind fun t358 => (spec_l3Join.l0 k1 a0 a1 (wrap64 (x5_1 + t358)) (wrap64 (x6_1 + 1)))) else (spec_l3Join.l0 k1 a0 a1 x5_1 (wrap64 (x6_1 + 1)))) = some r := H
   have A7 := Aside0.mk A70
   clear A70
   rcases (Classical.em (t357 = true)).symm with c8 | c8
   ·replace c8 := Bool.eq_false_iff.mpr c8
    subst c8
    have H1 : (spec_l3Join.l0 k1 a0 a1 x5_1 (wrap64 (x6_1 + 1))) = some r := by rw [if_neg (show ¬ (false = true) by decide)] at H; exact H
    clear H
    have H := H1
    clear H1
    have H' := Aside0.mk H
    clear H
    go_wp2_with (first | ((with_reducible refine gate_callee (f := 92) rfl ?_); refine goesL_ (some 13) rfl rfl Try.func92 pL rfl #[.int .i64 a0, .int .i64 x6_1] rfl pM ?_; (with_reducible refine (spec_l3Has.calls k1 a0 x6_1 false _ A4.out).mono ?_); rintro e w' ⟨rfl, ⟨nd, rfl⟩⟩; refine ⟨_, rfl, ?_⟩) | (go_at_call 92; (with_reducible refine (spec_l3Has.calls k1 a1 x6_1 false _ A7.out).mono ?_); rintro e w' ⟨rfl, ⟨nd, rfl⟩⟩))
    go_roundg k1
    case measure => have := HK1.out; omega
    case rel => exact ⟨(x5_1), (wrap64 (x6_1 + 1)), pF, pF, H', ⟨by have := HK1.out; omega⟩, by repeat (first | exact Drawn0.refl _ | apply Drawn0.step)⟩
   subst c8
   have H1 : ((spec_l3Weight.f k1 x6_1).bind fun t358 => (spec_l3Join.l0 k1 a0 a1 (wrap64 (x5_1 + t358)) (wrap64 (x6_1 + 1)))) = some r := by rw [if_pos rfl] at H; exact H
   clear H
   have H := H1
   clear H1
   replace H := Option.bind_eq_some_iff.mp H
   obtain ⟨t358, A90, H⟩ := H
   replace H : (spec_l3Join.l0 k1 a0 a1 (wrap64 (x5_1 + t358)) (wrap64 (x6_1 + 1))) = some r := H
   have A9 := Aside0.mk A90
   clear A90
   have H' := Aside0.mk H
   clear H
   go_wp2_with (first | ((with_reducible refine gate_callee (f := 92) rfl ?_); refine goesL_ (some 13) rfl rfl Try.func92 pL rfl #[.int .i64 a0, .int .i64 x6_1] rfl pM ?_; (with_reducible refine (spec_l3Has.calls k1 a0 x6_1 false _ A4.out).mono ?_); rintro e w' ⟨rfl, ⟨nd, rfl⟩⟩; refine ⟨_, rfl, ?_⟩) | (go_at_call 92; (with_reducible refine (spec_l3Has.calls k1 a1 x6_1 true _ A7.out).mono ?_); rintro e w' ⟨rfl, ⟨nd, rfl⟩⟩) | ((with_reducible refine gate_callee (f := 93) rfl ?_); refine goesL_ (some 21) rfl rfl Try.func93 pL rfl #[.int .i64 x6_1] rfl pM ?_; (with_reducible refine (spec_l3Weight.calls k1 x6_1 t358 _ A9.out).mono ?_); rintro e w' ⟨rfl, ⟨nd, rfl⟩⟩; refine ⟨_, rfl, ?_⟩))
   go_roundg k1
   case measure => have := HK1.out; omega
   case rel => exact ⟨(wrap64 (x5_1 + t358)), (wrap64 (x6_1 + 1)), pF, pF, H', ⟨by have := HK1.out; omega⟩, by repeat (first | exact Drawn0.refl _ | apply Drawn0.step)⟩
/-! ### spec_DishAllergens: function 26 -/
mutual
def spec_DishAllergens.j0 : Nat → List (S29) → List (S63) → Int → Bool → Option (Int)
 | 0, _, _, _, _ => none
 | k + 1, x0, x1, x2, x19 => if x19 = true then (some (-1)) else ((spec_l11Find.f k x0 x2).bind fun t361 => ((spec_l11Foods.f k x0 t361).bind fun t362 => (spec_DishAllergens.l0 k x1 0 t362 0)))
def spec_DishAllergens.l0 : Nat → List (S63) → Int → List Int → Int → Option (Int)
 | 0, _, _, _, _ => none
 | k + 1, x1, x7, x8, x9 => if x9 < (x8.length : Int) then (if 0 ≤ x9 then ((spec_l5Find.f k x1 (rd x8 x9)).bind fun t366 => (if 0 ≤ t366 then (if t366 < (x1.length : Int) then ((spec_l3Join.f k x7 ((rd_T63 x1 t366).f2)).bind fun t368 => (spec_DishAllergens.l0 k x1 t368 x8 (wrap64 (x9 + 1)))) else (none)) else (none))) else (none)) else (some x7)
end
def spec_DishAllergens.f (k : Nat) (l0 : List (S29)) (l1 : List (S63)) (a2 : Int) : Option (Int) := (spec_DishesValid.f k l0 l1).bind fun t359 => (if t359 = true then ((spec_l11Find.f k l0 a2).bind fun t360 => (spec_DishAllergens.j0 k l0 l1 a2 (decide (t360 < 0)))) else (spec_DishAllergens.j0 k l0 l1 a2 true))
theorem spec_DishAllergens.mono_l : ∀ k, (∀ y0 y1 y2 y3, LeO (spec_DishAllergens.j0 k y0 y1 y2 y3) (spec_DishAllergens.j0 (k + 1) y0 y1 y2 y3)) ∧ (∀ y0 y1 y2 y3, LeO (spec_DishAllergens.l0 k y0 y1 y2 y3) (spec_DishAllergens.l0 (k + 1) y0 y1 y2 y3))
 | 0 => ⟨fun _ _ _ _ r h => by simp [spec_DishAllergens.j0] at h, fun _ _ _ _ r h => by simp [spec_DishAllergens.l0] at h⟩
 | k + 1 => by
  obtain ⟨ih0, ih1⟩ := spec_DishAllergens.mono_l k
  refine ⟨?_, ?_⟩
  ·intro y0 y1 y2 y3
   unfold spec_DishAllergens.j0
   repeat' first
   | (with_reducible exact ih0 _ _ _ _)
   | (with_reducible exact ih1 _ _ _ _)
   | (with_reducible exact spec_DishesValid.mono _ _ _)
   | (with_reducible exact spec_l11Find.mono _ _ _)
   | (with_reducible exact spec_l11Foods.mono _ _ _)
   | (with_reducible exact spec_l3Join.mono _ _ _)
   | (with_reducible exact spec_l5Find.mono _ _ _)
   | (with_reducible exact LeO.refl _)
   | (with_reducible exact LeO.none _)
   | (with_reducible refine LeO.ite ?_ ?_)
   | (with_reducible refine LeO.bind ?_ (fun _ => ?_))
   | exact ih0 _ _ _ _
   | exact ih1 _ _ _ _
   | exact spec_DishesValid.mono _ _ _
   | exact spec_l11Find.mono _ _ _
   | exact spec_l11Foods.mono _ _ _
   | exact spec_l3Join.mono _ _ _
   | exact spec_l5Find.mono _ _ _
   | exact LeO.none _
   | refine LeO.ite ?_ ?_
   | refine LeO.bind ?_ (fun _ => ?_)
  ·intro y0 y1 y2 y3
   unfold spec_DishAllergens.l0
   repeat' first
   | (with_reducible exact ih0 _ _ _ _)
   | (with_reducible exact ih1 _ _ _ _)
   | (with_reducible exact spec_DishesValid.mono _ _ _)
   | (with_reducible exact spec_l11Find.mono _ _ _)
   | (with_reducible exact spec_l11Foods.mono _ _ _)
   | (with_reducible exact spec_l3Join.mono _ _ _)
   | (with_reducible exact spec_l5Find.mono _ _ _)
   | (with_reducible exact LeO.refl _)
   | (with_reducible exact LeO.none _)
   | (with_reducible refine LeO.ite ?_ ?_)
   | (with_reducible refine LeO.bind ?_ (fun _ => ?_))
   | exact ih0 _ _ _ _
   | exact ih1 _ _ _ _
   | exact spec_DishesValid.mono _ _ _
   | exact spec_l11Find.mono _ _ _
   | exact spec_l11Foods.mono _ _ _
   | exact spec_l3Join.mono _ _ _
   | exact spec_l5Find.mono _ _ _
   | exact LeO.none _
   | refine LeO.ite ?_ ?_
   | refine LeO.bind ?_ (fun _ => ?_)
theorem spec_DishAllergens.mono : ∀ a0 a1 a2 k, LeO (spec_DishAllergens.f k a0 a1 a2) (spec_DishAllergens.f (k + 1) a0 a1 a2) := by
 intro a0 a1 a2 k
 obtain ⟨ih0, ih1⟩ := spec_DishAllergens.mono_l k
 unfold spec_DishAllergens.f
 repeat' first
   | (with_reducible exact ih0 _ _ _ _)
   | (with_reducible exact ih1 _ _ _ _)
   | (with_reducible exact spec_DishesValid.mono _ _ _)
   | (with_reducible exact spec_l11Find.mono _ _ _)
   | (with_reducible exact spec_l11Foods.mono _ _ _)
   | (with_reducible exact spec_l3Join.mono _ _ _)
   | (with_reducible exact spec_l5Find.mono _ _ _)
   | (with_reducible exact LeO.refl _)
   | (with_reducible exact LeO.none _)
   | (with_reducible refine LeO.ite ?_ ?_)
   | (with_reducible refine LeO.bind ?_ (fun _ => ?_))
   | exact ih0 _ _ _ _
   | exact ih1 _ _ _ _
   | exact spec_DishesValid.mono _ _ _
   | exact spec_l11Find.mono _ _ _
   | exact spec_l11Foods.mono _ _ _
   | exact spec_l3Join.mono _ _ _
   | exact spec_l5Find.mono _ _ _
   | exact LeO.none _
   | refine LeO.ite ?_ ?_
   | refine LeO.bind ?_ (fun _ => ?_)
set_option maxHeartbeats 8000000 in
set_option maxRecDepth 100000 in
theorem spec_DishAllergens.calls (k : Nat) (A0 : Option Addr) (c0 : Nat) (l0 : List (S29)) (A1 : Option Addr) (c1 : Nat) (l1 : List (S63)) (a2 : Int) (r : Int) (w : World) (hr0 : Kd.C k29 w A0 l0.length l0) (hc0 : l0.length ≤ c0) (hr1 : Kd.C k63 w A1 l1.length l1) (hc1 : l1.length ≤ c1) (h : spec_DishAllergens.f k l0 l1 a2 = some r) :
  Calls Try.prog 26 #[.slice A0 l0.length c0, .slice A1 l1.length c1, .int .i64 a2] w fun e w' => e = .returned (.int .i64 r) ∧ Below w.heap.size w w' := by
 have HR0 := Aside0.mk hr0
 have HC0 := Aside0.mk hc0
 clear hr0 hc0
 have HR1 := Aside0.mk hr1
 have HC1 := Aside0.mk hc1
 clear hr1 hc1
 have HB := Aside0.mk (Below.refl w.heap.size w)
 have H : ((spec_DishesValid.f k l0 l1).bind fun t359 => (if t359 = true then ((spec_l11Find.f k l0 a2).bind fun t360 => (spec_DishAllergens.j0 k l0 l1 a2 (decide (t360 < 0)))) else (spec_DishAllergens.j0 k l0 l1 a2 true))) = some r := h
 clear h
 have HC4 := Aside0.mk H
 clear H
 go_enter Try.func26, Try.ntmps26
 go_upto_region 1 with (fail)
 go_cut [19] (fun v19 wc => ∃ (kq : Nat) (x19_3 : Bool), v19 = .bool x19_3 ∧ Aside0 (spec_DishAllergens.j0 kq l0 l1 a2 x19_3 = some r) ∧ Aside0 (kq ≤ k) ∧ Aside0 (Below w.heap.size w wc))
 case first =>
  have H := HC4.out
  clear HC4
  replace H := Option.bind_eq_some_iff.mp H
  obtain ⟨t359, A50, H⟩ := H
  replace H : (if t359 = true then ((spec_l11Find.f k l0 a2).bind fun t360 => (spec_DishAllergens.j0 k l0 l1 a2 (decide (t360 < 0)))) else (spec_DishAllergens.j0 k l0 l1 a2 true)) = some r := H
  have A5 := Aside0.mk A50
  clear A50
  rcases (Classical.em (t359 = true)).symm with c6 | c6
  ·replace c6 := Bool.eq_false_iff.mpr c6
   subst c6
   have H1 : (spec_DishAllergens.j0 k l0 l1 a2 true) = some r := by rw [if_neg (show ¬ (false = true) by decide)] at H; exact H
   clear H
   have H := H1
   clear H1
   have H' := Aside0.mk H
   clear H
   go_wp2_with (first | ((with_reducible refine gate_callee (f := 41) rfl ?_); refine goesL_ (some 12) rfl rfl Try.func41 pL rfl #[.slice A0 l0.length c0, .slice A1 l1.length c1] rfl pM ?_; (with_reducible refine (spec_DishesValid.calls k _ _ l0 _ _ l1 false _ ?side1 ?side2 ?side3 ?side4 A5.out).mono ?_); (case side1 => exact pS ((Kd.C_below HR0.out HB.out))); (case side2 => exact HC0.out); (case side3 => exact pS ((Kd.C_below HR1.out HB.out))); (case side4 => exact HC1.out); rintro e w9 ⟨rfl, hb⟩; refine ⟨_, rfl, ?_⟩; have n0_ := Aside0.mk (below_step pB hb); clear HB; have HB := n0_; clear n0_; (try clear hb); (try clear hb2); (try clear hk); (try clear hi)))
   go_meet
   case rel => exact ⟨_, (true), pF, H', ⟨by first | omega | exact Nat.le_refl _⟩, ⟨pB⟩⟩
  subst c6
  have H1 : ((spec_l11Find.f k l0 a2).bind fun t360 => (spec_DishAllergens.j0 k l0 l1 a2 (decide (t360 < 0)))) = some r := by rw [if_pos rfl] at H; exact H
  clear H
  have H := H1
  clear H1
  replace H := Option.bind_eq_some_iff.mp H
  obtain ⟨t360, A70, H⟩ := H
  replace H : (spec_DishAllergens.j0 k l0 l1 a2 (decide (t360 < 0))) = some r := H
  have A7 := Aside0.mk A70
  clear A70
  have H' := Aside0.mk H
  clear H
  go_wp2_with (first | ((with_reducible refine gate_callee (f := 41) rfl ?_); refine goesL_ (some 12) rfl rfl Try.func41 pL rfl #[.slice A0 l0.length c0, .slice A1 l1.length c1] rfl pM ?_; (with_reducible refine (spec_DishesValid.calls k _ _ l0 _ _ l1 true _ ?side1 ?side2 ?side3 ?side4 A5.out).mono ?_); (case side1 => exact pS ((Kd.C_below HR0.out HB.out))); (case side2 => exact HC0.out); (case side3 => exact pS ((Kd.C_below HR1.out HB.out))); (case side4 => exact HC1.out); rintro e w8 ⟨rfl, hb⟩; refine ⟨_, rfl, ?_⟩; have n0_ := Aside0.mk (below_step pB hb); clear HB; have HB := n0_; clear n0_; (try clear hb); (try clear hb2); (try clear hk); (try clear hi)) | (go_at_call 58; (with_reducible refine (spec_l11Find.calls k _ _ l0 a2 t360 _ ?side1 ?side2 A7.out).mono ?_); (case side1 => exact pS ((Kd.C_below HR0.out HB.out))); (case side2 => exact HC0.out); rintro e w' ⟨rfl, ⟨nd, rfl⟩⟩))
  go_meet
  case rel => exact ⟨_, (decide (t360 < 0)), pF, H', ⟨by first | omega | exact Nat.le_refl _⟩, ⟨pB⟩⟩
 case rest =>
  clear HC4
  try clear c1
  try clear c2
  try clear p2
  try clear c4
  try clear c6
  obtain ⟨kq, x19_3, rfl, HA, HJ3, HB⟩ := hcut
  cases kq with
  | zero => exact absurd HA.out (by simp [spec_DishAllergens.j0])
  | succ kj3 =>
   have H := HA.out
   clear HA
   simp only [spec_DishAllergens.j0] at H
   by_cases c10 : x19_3 = true
   ·subst c10
    have H1 : (some (-1)) = some r := by rw [if_pos rfl] at H; exact H
    clear H
    have H := H1
    clear H1
    obtain rfl := Option.some.inj H
    go_wp2
    go_ret
    exact ⟨pE, pB⟩
   replace c10 := Bool.eq_false_iff.mpr c10
   subst c10
   have H1 : ((spec_l11Find.f kj3 l0 a2).bind fun t361 => ((spec_l11Foods.f kj3 l0 t361).bind fun t362 => (spec_DishAllergens.l0 kj3 l1 0 t362 0))) = some r := by rw [if_neg (show ¬ (false = true) by decide)] at H; exact H
   clear H
   have H := H1
   clear H1
   replace H := Option.bind_eq_some_iff.mp H
   obtain ⟨t361, A110, H⟩ := H
   replace H : ((spec_l11Foods.f kj3 l0 t361).bind fun t362 => (spec_DishAllergens.l0 kj3 l1 0 t362 0)) = some r := H
   have A11 := Aside0.mk A110
   clear A110
   replace H := Option.bind_eq_some_iff.mp H
   obtain ⟨t362, A120, H⟩ := H
   replace H : (spec_DishAllergens.l0 kj3 l1 0 t362 0) = some r := H
   have A12 := Aside0.mk A120
   clear A120
   have H' := Aside0.mk H
   clear H
   go_wp2_with (first | ((with_reducible refine gate_callee (f := 58) rfl ?_); refine goesL_ (some 23) rfl rfl Try.func58 pL rfl #[.slice A0 l0.length c0, .int .i64 a2] rfl pM ?_; (with_reducible refine (spec_l11Find.calls kj3 _ _ l0 a2 t361 _ ?side1 ?side2 A11.out).mono ?_); (case side1 => exact pS ((Kd.C_below HR0.out HB.out))); (case side2 => exact HC0.out); rintro e w' ⟨rfl, ⟨nd, rfl⟩⟩; refine ⟨_, rfl, ?_⟩) | ((with_reducible refine gate_callee (f := 62) rfl ?_); refine goesL_ (some 24) rfl rfl Try.func62 pL rfl #[.slice A0 l0.length c0, .int .i64 t361] rfl pM ?_; (with_reducible refine (spec_l11Foods.calls kj3 _ _ l0 t361 t362 _ ?side1 ?side2 A12.out).mono ?_); (case side1 => exact pS ((Kd.C_below HR0.out pB))); (case side2 => exact HC0.out); rintro e w13 ⟨v363, rfl, ho0, hb⟩; refine ⟨_, rfl, ?_⟩; have n0_ := Aside0.mk (Kd.R_lower ho0 (below_size pB)); have n1_ := Aside0.mk (below_step pB hb); clear HB; have HO364 := n0_; have HB := n1_; clear n0_ n1_; (try clear hb); (try clear hb2); (try clear hk); (try clear hi); (try clear ho0)))
   go_loopg [7, 9] kj3 (fun kq v7 v9 w' => ∃ (x7_2 : Int) (x9_2 : Int), v7 = .int .i64 x7_2 ∧ v9 = .int .i64 x9_2 ∧ Aside0 (spec_DishAllergens.l0 kq l1 x7_2 t362 x9_2 = some r) ∧ Aside0 (kq ≤ kj3) ∧ Aside0 (Kd.R (Kd.int .i64) 3 w' w.heap.size (fun _ => True) v363 t362) ∧ Aside0 (Below w.heap.size w w'))
   case atStart => exact ⟨(0), (0), pF, pF, H', ⟨Nat.le_refl _⟩, ⟨pR HO364⟩, ⟨pB⟩⟩
   case round =>
    clear H'
    try clear c1
    try clear c2
    try clear p2
    try clear c4
    try clear c5
    try clear c6
    try clear c10
    try clear p2
    obtain ⟨x7_2, x9_2, rfl, rfl, HA, HK2, HO_8, HB⟩ := hrel
    cases gk with
    | zero => exact absurd HA.out (by simp [spec_DishAllergens.l0])
    | succ k2 =>
     have H := HA.out
     clear HA
     simp only [spec_DishAllergens.l0] at H
     rcases (Classical.em (x9_2 < (t362.length : Int))).symm with c14 | c14
     ·rw [if_neg c14] at H
      have c14b0 : decide (x9_2 < (t362.length : Int)) = false := decide_eq_false c14
      clear c14
      obtain rfl := Option.some.inj H
      obtain ⟨Ao21, co21, eo21⟩ := Kd.R_slice HO_8.out
      subst eo21
      go_wp2
      go_ret
      exact ⟨pE, pB⟩

     rw [if_pos c14] at H
     have c14b0 : decide (x9_2 < (t362.length : Int)) = true := decide_eq_true c14
     clear c14
     rcases (Classical.em (0 ≤ x9_2)).symm with c15 | c15
     ·rw [if_neg c15] at H
      exact absurd H (by simp)
     rw [if_pos c15] at H
     have c15b0 : decide (0 ≤ x9_2) = true := decide_eq_true c15
     clear c15
     replace H := Option.bind_eq_some_iff.mp H
     obtain ⟨t366, A160, H⟩ := H
     replace H : (if 0 ≤ t366 then (if t366 < (l1.length : Int) then ((spec_l3Join.f k2 x7_2 ((rd_T63 l1 t366).f2)).bind fun t368 => (spec_DishAllergens.l0 k2 l1 t368 t362 (wrap64 (x9_2 + 1)))) else (none)) else (none)) = some r := H
     have A16 := Aside0.mk A160
     clear A160
     rcases (Classical.em (0 ≤ t366)).symm with c17 | c17
     ·rw [if_neg c17] at H
      exact absurd H (by simp)
     rw [if_pos c17] at H
     have c17b0 : decide (0 ≤ t366) = true := decide_eq_true c17
     clear c17
     rcases (Classical.em (t366 < (l1.length : Int))).symm with c18 | c18
     ·rw [if_neg c18] at H
      exact absurd H (by simp)
     rw [if_pos c18] at H
     have c18b0 : decide (t366 < (l1.length : Int)) = true := decide_eq_true c18
     clear c18
     replace H := Option.bind_eq_some_iff.mp H
     obtain ⟨t368, A190, H⟩ := H
     replace H : (spec_DishAllergens.l0 k2 l1 t368 t362 (wrap64 (x9_2 + 1))) = some r := H
     have A19 := Aside0.mk A190
     clear A190
     have H' := Aside0.mk H
     clear H
     obtain ⟨Ao20, co20, eo20⟩ := Kd.R_slice HO_8.out
     subst eo20
     have p365 : 0 ≤ (x9_2 : Int) := of_decide_eq_true pA
     have q365 : x9_2 < (t362.length : Int) := of_decide_eq_true pA
     obtain ⟨ad365, e365, hx365_0⟩ := Kd.at_int (Kd.R_reads' HO_8.out).2.2 x9_2 p365 q365
     cases e365
     replace p365 := eq_true p365
     replace q365 := eq_true q365
     go_wp2_with (first | ((with_reducible refine gate_callee (f := 64) rfl ?_); refine goesL_ (some 38) rfl rfl Try.func64 pL rfl #[.slice A1 l1.length c1, .int .i64 (rd t362 x9_2)] rfl pM ?_; (with_reducible refine (spec_l5Find.calls k2 _ _ l1 (rd t362 x9_2) t366 _ ?side1 ?side2 A16.out).mono ?_); (case side1 => exact pS ((Kd.C_below HR1.out HB.out))); (case side2 => exact HC1.out); rintro e w' ⟨rfl, ⟨nd, rfl⟩⟩; refine ⟨_, rfl, ?_⟩; have p367 : 0 ≤ (t366 : Int) := of_decide_eq_true pA; have q367 : t366 < (l1.length : Int) := of_decide_eq_true pA; obtain ⟨ad367, e367, hx367_0, hx367_1, hx367_2, hx367_3, hx367_4, hx367_5⟩ := at_T63 HR1.out t366 p367 q367; cases e367; replace hx367_0 := (HB.out.cell (World.block_lt_of_cell? w _ hx367_0)).trans hx367_0; replace hx367_1 := (HB.out.cell (World.block_lt_of_cell? w _ hx367_1)).trans hx367_1; replace hx367_2 := (HB.out.cell (World.block_lt_of_cell? w _ hx367_2)).trans hx367_2; replace hx367_3 := (HB.out.cell (World.block_lt_of_cell? w _ hx367_3)).trans hx367_3; replace hx367_4 := (HB.out.cell (World.block_lt_of_cell? w _ hx367_4)).trans hx367_4; replace hx367_5 := (HB.out.cell (World.block_lt_of_cell? w _ hx367_5)).trans hx367_5; replace p367 := eq_true p367; replace q367 := eq_true q367) | ((with_reducible refine gate_callee (f := 63) rfl ?_); refine goesL_ (some 42) rfl rfl Try.func63 pL rfl #[.int .i64 x7_2, .int .i64 ((rd_T63 l1 t366).f2)] rfl pM ?_; (with_reducible refine (spec_l3Join.calls k2 x7_2 ((rd_T63 l1 t366).f2) t368 _ A19.out).mono ?_); rintro e w' ⟨rfl, ⟨nd, rfl⟩⟩; refine ⟨_, rfl, ?_⟩))
     go_roundg k2
     case measure => have := HJ3.out; have := HK2.out; omega
     case rel => exact ⟨(t368), (wrap64 (x9_2 + 1)), pF, pF, H', ⟨by have := HJ3.out; have := HK2.out; omega⟩, ⟨pR HO_8⟩, ⟨pB⟩⟩
/-! ### impl_DishAllergens: function 28 -/
def impl_DishAllergens.l0 : Nat → Int → List (S63) → Int → Int → Option (Int)
 | 0, _, _, _, _ => none
 | k + 1, x7, x18, x19, x20 => if x20 < x19 then (if 0 ≤ x20 then (if x20 < (x18.length : Int) then (impl_DishAllergens.l0 k (Go.bits .or .i64 x7 ((rd_T63 x18 x20).f2)) x18 x19 (wrap64 (x20 + 1))) else (none)) else (none)) else (some x7)
def impl_DishAllergens.f (k : Nat) (l0 : List (S29)) (l1 : List (S63)) (a2 : Int) : Option (Int) := (impl_hasDish.f k l0 l1 a2).bind fun t442 => (if t442 = true then ((impl_foodsIn.f k l0 l1 a2).bind fun t443 => (impl_DishAllergens.l0 k 0 t443 (t443.length : Int) 0)) else (some (-1)))
theorem impl_DishAllergens.mono_l : ∀ k, (∀ y0 y1 y2 y3, LeO (impl_DishAllergens.l0 k y0 y1 y2 y3) (impl_DishAllergens.l0 (k + 1) y0 y1 y2 y3))
 | 0 => fun _ _ _ _ r h => by simp [impl_DishAllergens.l0] at h
 | k + 1 => by
  have ih0 := impl_DishAllergens.mono_l k
  ·intro y0 y1 y2 y3
   unfold impl_DishAllergens.l0
   repeat' first
   | (with_reducible exact ih0 _ _ _ _)
   | (with_reducible exact impl_foodsIn.mono _ _ _ _)
   | (with_reducible exact impl_hasDish.mono _ _ _ _)
   | (with_reducible exact LeO.refl _)
   | (with_reducible exact LeO.none _)
   | (with_reducible refine LeO.ite ?_ ?_)
   | (with_reducible refine LeO.bind ?_ (fun _ => ?_))
   | exact ih0 _ _ _ _
   | exact impl_foodsIn.mono _ _ _ _
   | exact impl_hasDish.mono _ _ _ _
   | exact LeO.none _
   | refine LeO.ite ?_ ?_
   | refine LeO.bind ?_ (fun _ => ?_)
theorem impl_DishAllergens.mono : ∀ a0 a1 a2 k, LeO (impl_DishAllergens.f k a0 a1 a2) (impl_DishAllergens.f (k + 1) a0 a1 a2) := by
 intro a0 a1 a2 k
 have ih0 := impl_DishAllergens.mono_l k
 unfold impl_DishAllergens.f
 repeat' first
   | (with_reducible exact ih0 _ _ _ _)
   | (with_reducible exact impl_foodsIn.mono _ _ _ _)
   | (with_reducible exact impl_hasDish.mono _ _ _ _)
   | (with_reducible exact LeO.refl _)
   | (with_reducible exact LeO.none _)
   | (with_reducible refine LeO.ite ?_ ?_)
   | (with_reducible refine LeO.bind ?_ (fun _ => ?_))
   | exact ih0 _ _ _ _
   | exact impl_foodsIn.mono _ _ _ _
   | exact impl_hasDish.mono _ _ _ _
   | exact LeO.none _
   | refine LeO.ite ?_ ?_
   | refine LeO.bind ?_ (fun _ => ?_)
set_option maxHeartbeats 8000000 in
set_option maxRecDepth 100000 in
theorem impl_DishAllergens.calls (k : Nat) (A0 : Option Addr) (c0 : Nat) (l0 : List (S29)) (A1 : Option Addr) (c1 : Nat) (l1 : List (S63)) (a2 : Int) (r : Int) (w : World) (hr0 : Kd.C k29 w A0 l0.length l0) (hc0 : l0.length ≤ c0) (hr1 : Kd.C k63 w A1 l1.length l1) (hc1 : l1.length ≤ c1) (h : impl_DishAllergens.f k l0 l1 a2 = some r) :
  Calls Try.prog 28 #[.slice A0 l0.length c0, .slice A1 l1.length c1, .int .i64 a2] w fun e w' => e = .returned (.int .i64 r) ∧ Below w.heap.size w w' := by
 have hu63 := Try.underlying63
 have HR0 := Aside0.mk hr0
 have HC0 := Aside0.mk hc0
 clear hr0 hc0
 have HR1 := Aside0.mk hr1
 have HC1 := Aside0.mk hc1
 clear hr1 hc1
 have HB := Aside0.mk (Below.refl w.heap.size w)
 have H : ((impl_hasDish.f k l0 l1 a2).bind fun t442 => (if t442 = true then ((impl_foodsIn.f k l0 l1 a2).bind fun t443 => (impl_DishAllergens.l0 k 0 t443 (t443.length : Int) 0)) else (some (-1)))) = some r := h
 clear h
 replace H := Option.bind_eq_some_iff.mp H
 obtain ⟨t442, A40, H⟩ := H
 replace H : (if t442 = true then ((impl_foodsIn.f k l0 l1 a2).bind fun t443 => (impl_DishAllergens.l0 k 0 t443 (t443.length : Int) 0)) else (some (-1))) = some r := H
 have A4 := Aside0.mk A40
 clear A40
 rcases (Classical.em (t442 = true)).symm with c5 | c5
 ·replace c5 := Bool.eq_false_iff.mpr c5
  subst c5
  have H1 : (some (-1)) = some r := by rw [if_neg (show ¬ (false = true) by decide)] at H; exact H
  clear H
  have H := H1
  clear H1
  obtain rfl := Option.some.inj H
  go_enter Try.func28, Try.ntmps28
  go_wp2_with (first | ((with_reducible refine gate_callee (f := 66) rfl ?_); refine goesL_ (some 13) rfl rfl Try.func66 pL rfl #[.slice A0 l0.length c0, .slice A1 l1.length c1, .int .i64 a2] rfl pM ?_; (with_reducible refine (impl_hasDish.calls k _ _ l0 _ _ l1 a2 false _ ?side1 ?side2 ?side3 ?side4 A4.out).mono ?_); (case side1 => exact pS (HR0.out)); (case side2 => exact HC0.out); (case side3 => exact pS (HR1.out)); (case side4 => exact HC1.out); rintro e w15 ⟨rfl, hb⟩; refine ⟨_, rfl, ?_⟩; have n0_ := Aside0.mk (below_step pB hb); clear HB; have HB := n0_; clear n0_; (try clear hb); (try clear hb2); (try clear hk); (try clear hi)))
  go_ret
  exact ⟨pE, pB⟩

 subst c5
 have H1 : ((impl_foodsIn.f k l0 l1 a2).bind fun t443 => (impl_DishAllergens.l0 k 0 t443 (t443.length : Int) 0)) = some r := by rw [if_pos rfl] at H; exact H
 clear H
 have H := H1
 clear H1
 replace H := Option.bind_eq_some_iff.mp H
 obtain ⟨t443, A60, H⟩ := H
 replace H : (impl_DishAllergens.l0 k 0 t443 (t443.length : Int) 0) = some r := H
 have A6 := Aside0.mk A60
 clear A60
 have H' := Aside0.mk H
 clear H
 go_enter Try.func28, Try.ntmps28
 go_wp2_with (first | ((with_reducible refine gate_callee (f := 66) rfl ?_); refine goesL_ (some 13) rfl rfl Try.func66 pL rfl #[.slice A0 l0.length c0, .slice A1 l1.length c1, .int .i64 a2] rfl pM ?_; (with_reducible refine (impl_hasDish.calls k _ _ l0 _ _ l1 a2 true _ ?side1 ?side2 ?side3 ?side4 A4.out).mono ?_); (case side1 => exact pS (HR0.out)); (case side2 => exact HC0.out); (case side3 => exact pS (HR1.out)); (case side4 => exact HC1.out); rintro e w7 ⟨rfl, hb⟩; refine ⟨_, rfl, ?_⟩; have n0_ := Aside0.mk (below_step pB hb); clear HB; have HB := n0_; clear n0_; (try clear hb); (try clear hb2); (try clear hk); (try clear hi)) | ((with_reducible refine gate_callee (f := 67) rfl ?_); refine goesL_ (some 18) rfl rfl Try.func67 pL rfl #[.slice A0 l0.length c0, .slice A1 l1.length c1, .int .i64 a2] rfl pM ?_; (with_reducible refine (impl_foodsIn.calls k _ _ l0 _ _ l1 a2 t443 _ ?side1 ?side2 ?side3 ?side4 A6.out).mono ?_); (case side1 => exact pS ((Kd.C_below HR0.out HB.out))); (case side2 => exact HC0.out); (case side3 => exact pS ((Kd.C_below HR1.out HB.out))); (case side4 => exact HC1.out); rintro e w8 ⟨v444, rfl, ho0, hb⟩; refine ⟨_, rfl, ?_⟩; have n0_ := Aside0.mk (Kd.R_lower ho0 (below_size pB)); have n1_ := Aside0.mk (below_step pB hb); clear HB; have HO445 := n0_; have HB := n1_; clear n0_ n1_; (try clear hb); (try clear hb2); (try clear hk); (try clear hi); (try clear ho0); obtain ⟨Ao9, co9, eo9⟩ := Kd.R_slice HO445.out; subst eo9))
 go_loopg [7, 20] k (fun kq v7 v20 w' => ∃ (x7_1 : Int) (x20_1 : Int), v7 = .int .i64 x7_1 ∧ v20 = .int .i64 x20_1 ∧ Aside0 (impl_DishAllergens.l0 kq x7_1 t443 (t443.length : Int) x20_1 = some r) ∧ Aside0 (kq ≤ k) ∧ Aside0 (Kd.R k63 63 w' w.heap.size (fun _ => True) (.slice Ao9 t443.length co9) t443) ∧ Aside0 (Below w.heap.size w w'))
 case atStart => exact ⟨(0), (0), pF, pF, H', ⟨Nat.le_refl _⟩, ⟨pR HO445⟩, ⟨pB⟩⟩
 case round =>
  clear H'
  try clear c1
  try clear c2
  try clear p2
  try clear c5
  try clear c6
  obtain ⟨x7_1, x20_1, rfl, rfl, HA, HK1, HO_18, HB⟩ := hrel
  cases gk with
  | zero => exact absurd HA.out (by simp [impl_DishAllergens.l0])
  | succ k1 =>
   have H := HA.out
   clear HA
   simp only [impl_DishAllergens.l0] at H
   rcases (Classical.em (x20_1 < (t443.length : Int))).symm with c10 | c10
   ·rw [if_neg c10] at H
    have c10b0 : decide (x20_1 < (t443.length : Int)) = false := decide_eq_false c10
    clear c10
    obtain rfl := Option.some.inj H
    go_wp2
    go_ret
    exact ⟨pE, pB⟩
   rw [if_pos c10] at H
   have c10b0 : decide (x20_1 < (t443.length : Int)) = true := decide_eq_true c10
   clear c10
   rcases (Classical.em (0 ≤ x20_1)).symm with c11 | c11
   ·rw [if_neg c11] at H
    exact absurd H (by simp)
   rw [if_pos c11] at H
   have c11b0 : decide (0 ≤ x20_1) = true := decide_eq_true c11
   clear c11
   rcases (Classical.em (x20_1 < (t443.length : Int))).symm with c12 | c12
   ·rw [if_neg c12] at H
    exact absurd H (by simp)
   rw [if_pos c12] at H
   have c12b0 : decide (x20_1 < (t443.length : Int)) = true := decide_eq_true c12
   clear c12
   have H' := Aside0.mk H
   clear H
   have p446 : 0 ≤ (x20_1 : Int) := of_decide_eq_true pA
   have q446 : x20_1 < (t443.length : Int) := of_decide_eq_true pA
   obtain ⟨ad446, e446, hx446_0, hx446_1, hx446_2, hx446_3, hx446_4, hx446_5⟩ := at_T63 (Kd.R_reads' HO_18.out).2.2 x20_1 p446 q446
   cases e446
   replace p446 := eq_true p446
   replace q446 := eq_true q446
   go_wp2_with (first | ((with_reducible refine gate_dst (N := 9) rfl ?_); refine box_event ?hg (N := 9) ?hd (cs := #[.int .i64 0, .int .i64 0, .int .i64 0, .int .i64 0, .int .i64 0, .int .i64 0]) (t := 63) ?hr ?_; (case hd => rfl); (case hg => rfl); (case hr => first | (go_simp; done) | (go_simp; rfl)); intro gb447 hg w13 hbox hb; have n0_ := Aside0.mk (Kd.R_below (Kd.R_elderB (pR HO_18) gb447 (Nat.le_of_eq hg.symm)) hb); have n1_ := Aside0.mk (below_step pB hb); have n2_ := Aside0.mk (hbox); have n3_ := Aside0.mk ((by rw [hg]; exact (below_size pB) : w.heap.size ≤ gb447)); have n4_ := Aside0.mk ((by rw [hg]; exact (below_size pB) : w.heap.size ≤ gb447)); clear HO_18; clear HB; have HO_18 := n0_; have HB := n1_; have BK447 := n2_; have GW447 := n3_; have GE447 := n4_; clear n0_ n1_ n2_ n3_ n4_; clear hb hbox hg; have hcz14_0 : w13.cell? ⟨gb447, 0, none⟩ = some (.int .i64 0) := (blk_cell BK447.out 0).trans rfl; have hcz14_1 : w13.cell? ⟨gb447, 1, none⟩ = some (.int .i64 0) := (blk_cell BK447.out 1).trans rfl; have hcz14_2 : w13.cell? ⟨gb447, 2, none⟩ = some (.int .i64 0) := (blk_cell BK447.out 2).trans rfl; have hcz14_3 : w13.cell? ⟨gb447, 3, none⟩ = some (.int .i64 0) := (blk_cell BK447.out 3).trans rfl; have hcz14_4 : w13.cell? ⟨gb447, 4, none⟩ = some (.int .i64 0) := (blk_cell BK447.out 4).trans rfl; have hcz14_5 : w13.cell? ⟨gb447, 5, none⟩ = some (.int .i64 0) := (blk_cell BK447.out 5).trans rfl; have hfz14_0 := blk_frozen BK447.out 0; have hfz14_1 := blk_frozen BK447.out 1; have hfz14_2 := blk_frozen BK447.out 2; have hfz14_3 := blk_frozen BK447.out 3; have hfz14_4 := blk_frozen BK447.out 4; have hfz14_5 := blk_frozen BK447.out 5))
   go_roundg k1
   case measure => have := HK1.out; omega
   case rel => exact ⟨(Go.bits .or .i64 x7_1 ((rd_T63 t443 x20_1).f2)), (wrap64 (x20_1 + 1)), pF, pF, H', ⟨by have := HK1.out; omega⟩, ⟨by (with_reducible repeat (first | apply Kd.R_alloc | apply Kd.R_drewN | apply Kd.R_drew)); exact Kd.R_mono (Kd.R_far (p := ⟨gb447, 5, none⟩) (Kd.R_far (p := ⟨gb447, 4, none⟩) (Kd.R_far (p := ⟨gb447, 3, none⟩) (Kd.R_far (p := ⟨gb447, 2, none⟩) (Kd.R_far (p := ⟨gb447, 1, none⟩) (Kd.R_far (p := ⟨gb447, 0, none⟩) (Kd.R_mono HO_18.out (fun k_ hk => (⟨hk, hk.2⟩ : _ ∧ k_ ≠ gb447))) (fun _ hk => hk.2) (.int .i64 ((rd_T63 t443 x20_1).f0))) (fun _ hk => hk.2) (.int .i64 ((rd_T63 t443 x20_1).f1))) (fun _ hk => hk.2) (.int .i64 ((rd_T63 t443 x20_1).f2))) (fun _ hk => hk.2) (.int .i64 ((rd_T63 t443 x20_1).f3))) (fun _ hk => hk.2) (.int .i64 ((rd_T63 t443 x20_1).f4))) (fun _ hk => hk.2) (.int .i64 ((rd_T63 t443 x20_1).f5))) (fun _ hk => trivial)⟩, ⟨pG GE447⟩⟩
end Go.Proofs.Ytclldijjbmnkeaa.Q
