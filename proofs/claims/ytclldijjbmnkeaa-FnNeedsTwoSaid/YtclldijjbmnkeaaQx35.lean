-- Written by the kit's print.py for all laws of the seat at once (one namespace), by a program of this session.
import Derived.Test.YtclldijjbmnkeaaQx0
import Derived.Test.YtclldijjbmnkeaaQx21
import Derived.Test.YtclldijjbmnkeaaQx22
import Derived.Test.YtclldijjbmnkeaaQx29
import Derived.Test.YtclldijjbmnkeaaQx32
namespace Go.Proofs.Ytclldijjbmnkeaa.Q
open Go.RowKit Go.Proofs.YtclldijjbmnkeaaW.PrintWords Go.Proofs.YtclldijjbmnkeaaW.PrintLast Go.Proofs.YtclldijjbmnkeaaW.PrintMore
attribute [local go_sem] max2_int min2_int max_two min_two max_three min_three max_four min_four   -- for this text's walks alone
set_option linter.unusedVariables false
set_option linter.unusedSimpArgs false

/-! ### laws_FnNeedsTwo: function 14 -/
mutual
def laws_FnNeedsTwo.j0 : Nat → List Int → List Int → Bool → Option (Bool)
 | 0, _, _, _ => none
 | k + 1, x0, x1, x27 => if x27 = true then (some true) else ((spec_DrawDishNeeds.f k x0).bind fun bt888 => ((impl_DishNeeds.f k bt888.1 bt888.2.1 bt888.2.2.1 bt888.2.2.2).bind fun bt896 => ((spec_DishNeeds.f k bt888.1 bt888.2.1 bt888.2.2.1 bt888.2.2.2).bind fun bt900 => (if (bt896.2 != bt900.2) = true then (laws_FnNeedsTwo.j1 k x1 bt888.1 bt888.2.1 bt888.2.2.1 bt888.2.2.2 bt896.1 bt896.2 bt900.1 bt900.2 true) else ((laws_sameInts.f k bt896.1 bt900.1).bind fun t904 => (if t904 = true then (laws_FnNeedsTwo.j1 k x1 bt888.1 bt888.2.1 bt888.2.2.1 bt888.2.2.2 bt896.1 bt896.2 bt900.1 bt900.2 (!bt896.2)) else (laws_FnNeedsTwo.j1 k x1 bt888.1 bt888.2.1 bt888.2.2.1 bt888.2.2.2 bt896.1 bt896.2 bt900.1 bt900.2 true)))))))
def laws_FnNeedsTwo.j1 : Nat → List Int → List (S29) → List (S63) → Int → Int → List Int → Bool → List Int → Bool → Bool → Option (Bool)
 | 0, _, _, _, _, _, _, _, _, _, _ => none
 | k + 1, x1, x5, x6, x7, x8, x9, x10, x11, x12, x63 => if x63 = true then (if (x10 == x12) = true then ((laws_sameInts.f k x9 x11).bind fun t905 => (some t905)) else (some false)) else (if (wrap64 (x8 + 1)) = 0 then (none) else ((impl_DishNeeds.f k x5 x6 x7 ((x1.length : Int) % (wrap64 (x8 + 1)))).bind fun bt906 => ((impl_DishNeeds.f k x5 x6 x7 (wrap64 (x8 - ((x1.length : Int) % (wrap64 (x8 + 1)))))).bind fun bt910 => (laws_FnNeedsTwo.l0 k x9 bt906.1 bt906.2 bt910.1 bt910.2 0))))
def laws_FnNeedsTwo.l0 : Nat → List Int → List Int → Bool → List Int → Bool → Int → Option (Bool)
 | 0, _, _, _, _, _, _ => none
 | k + 1, x9, x14, x15, x16, x17, x18 => if x18 < (x9.length : Int) then (if x18 < (x14.length : Int) then (laws_FnNeedsTwo.j3 k x9 x14 x15 x16 x17 x18 (decide (x18 < (x16.length : Int)))) else (laws_FnNeedsTwo.j3 k x9 x14 x15 x16 x17 x18 false)) else (laws_FnNeedsTwo.j3 k x9 x14 x15 x16 x17 x18 false)
def laws_FnNeedsTwo.j3 : Nat → List Int → List Int → Bool → List Int → Bool → Int → Bool → Option (Bool)
 | 0, _, _, _, _, _, _, _ => none
 | k + 1, x9, x14, x15, x16, x17, x18, x110 => if x110 = true then (if 0 ≤ x18 then (if x18 < (x14.length : Int) then (if x18 < (x16.length : Int) then (if x18 < (x9.length : Int) then (if (wrap64 ((wrap64 ((rd x14 x18) + (rd x16 x18))) - (rd x9 x18))) < 0 then (some false) else (if (wrap64 ((wrap64 ((rd x14 x18) + (rd x16 x18))) - (rd x9 x18))) > 1 then (some false) else (laws_FnNeedsTwo.l0 k x9 x14 x15 x16 x17 (wrap64 (x18 + 1))))) else (none)) else (none)) else (none)) else (none)) else (if x15 = true then (if x17 = true then (if (x14.length : Int) = (x9.length : Int) then (some ((x16.length : Int) == (x9.length : Int))) else (some false)) else (some false)) else (some false))
end
def laws_FnNeedsTwo.f (k : Nat) (l0 : List Int) (l1 : List Int) : Option (Bool) := if (l0.length : Int) > 1048576 then (laws_FnNeedsTwo.j0 k l0 l1 true) else (laws_FnNeedsTwo.j0 k l0 l1 (decide ((l1.length : Int) > 1048576)))
theorem laws_FnNeedsTwo.mono_l : ∀ k, (∀ y0 y1 y2, LeO (laws_FnNeedsTwo.j0 k y0 y1 y2) (laws_FnNeedsTwo.j0 (k + 1) y0 y1 y2)) ∧ (∀ y0 y1 y2 y3 y4 y5 y6 y7 y8 y9, LeO (laws_FnNeedsTwo.j1 k y0 y1 y2 y3 y4 y5 y6 y7 y8 y9) (laws_FnNeedsTwo.j1 (k + 1) y0 y1 y2 y3 y4 y5 y6 y7 y8 y9)) ∧ (∀ y0 y1 y2 y3 y4 y5, LeO (laws_FnNeedsTwo.l0 k y0 y1 y2 y3 y4 y5) (laws_FnNeedsTwo.l0 (k + 1) y0 y1 y2 y3 y4 y5)) ∧ (∀ y0 y1 y2 y3 y4 y5 y6, LeO (laws_FnNeedsTwo.j3 k y0 y1 y2 y3 y4 y5 y6) (laws_FnNeedsTwo.j3 (k + 1) y0 y1 y2 y3 y4 y5 y6))
 | 0 => ⟨fun _ _ _ r h => by simp [laws_FnNeedsTwo.j0] at h, fun _ _ _ _ _ _ _ _ _ _ r h => by simp [laws_FnNeedsTwo.j1] at h, fun _ _ _ _ _ _ r h => by simp [laws_FnNeedsTwo.l0] at h, fun _ _ _ _ _ _ _ r h => by simp [laws_FnNeedsTwo.j3] at h⟩
 | k + 1 => by
  obtain ⟨ih0, ih1, ih2, ih3⟩ := laws_FnNeedsTwo.mono_l k
  refine ⟨?_, ?_, ?_, ?_⟩
  ·intro y0 y1 y2
   unfold laws_FnNeedsTwo.j0
   repeat' first
   | (with_reducible exact ih0 _ _ _)
   | (with_reducible exact ih1 _ _ _ _ _ _ _ _ _ _)
   | (with_reducible exact ih2 _ _ _ _ _ _)
   | (with_reducible exact ih3 _ _ _ _ _ _ _)
   | (with_reducible exact impl_DishNeeds.mono _ _ _ _ _)
   | (with_reducible exact laws_sameInts.mono _ _ _)
   | (with_reducible exact spec_DishNeeds.mono _ _ _ _ _)
   | (with_reducible exact spec_DrawDishNeeds.mono _ _)
   | (with_reducible exact LeO.refl _)
   | (with_reducible exact LeO.none _)
   | (with_reducible refine LeO.ite ?_ ?_)
   | (with_reducible refine LeO.bind ?_ (fun _ => ?_))
   | exact ih0 _ _ _
   | exact ih1 _ _ _ _ _ _ _ _ _ _
   | exact ih2 _ _ _ _ _ _
   | exact ih3 _ _ _ _ _ _ _
   | exact impl_DishNeeds.mono _ _ _ _ _
   | exact laws_sameInts.mono _ _ _
   | exact spec_DishNeeds.mono _ _ _ _ _
   | exact spec_DrawDishNeeds.mono _ _
   | exact LeO.none _
   | refine LeO.ite ?_ ?_
   | refine LeO.bind ?_ (fun _ => ?_)
  ·intro y0 y1 y2 y3 y4 y5 y6 y7 y8 y9
   unfold laws_FnNeedsTwo.j1
   repeat' first
   | (with_reducible exact ih0 _ _ _)
   | (with_reducible exact ih1 _ _ _ _ _ _ _ _ _ _)
   | (with_reducible exact ih2 _ _ _ _ _ _)
   | (with_reducible exact ih3 _ _ _ _ _ _ _)
   | (with_reducible exact impl_DishNeeds.mono _ _ _ _ _)
   | (with_reducible exact laws_sameInts.mono _ _ _)
   | (with_reducible exact spec_DishNeeds.mono _ _ _ _ _)
   | (with_reducible exact spec_DrawDishNeeds.mono _ _)
   | (with_reducible exact LeO.refl _)
   | (with_reducible exact LeO.none _)
   | (with_reducible refine LeO.ite ?_ ?_)
   | (with_reducible refine LeO.bind ?_ (fun _ => ?_))
   | exact ih0 _ _ _
   | exact ih1 _ _ _ _ _ _ _ _ _ _
   | exact ih2 _ _ _ _ _ _
   | exact ih3 _ _ _ _ _ _ _
   | exact impl_DishNeeds.mono _ _ _ _ _
   | exact laws_sameInts.mono _ _ _
   | exact spec_DishNeeds.mono _ _ _ _ _
   | exact spec_DrawDishNeeds.mono _ _
   | exact LeO.none _
   | refine LeO.ite ?_ ?_
   | refine LeO.bind ?_ (fun _ => ?_)
  ·intro y0 y1 y2 y3 y4 y5
   unfold laws_FnNeedsTwo.l0
   repeat' first
   | (with_reducible exact ih0 _ _ _)
   | (with_reducible exact ih1 _ _ _ _ _ _ _ _ _ _)
   | (with_reducible exact ih2 _ _ _ _ _ _)
   | (with_reducible exact ih3 _ _ _ _ _ _ _)
   | (with_reducible exact impl_DishNeeds.mono _ _ _ _ _)
   | (with_reducible exact laws_sameInts.mono _ _ _)
   | (with_reducible exact spec_DishNeeds.mono _ _ _ _ _)
   | (with_reducible exact spec_DrawDishNeeds.mono _ _)
   | (with_reducible exact LeO.refl _)
   | (with_reducible exact LeO.none _)
   | (with_reducible refine LeO.ite ?_ ?_)
   | (with_reducible refine LeO.bind ?_ (fun _ => ?_))
   | exact ih0 _ _ _
   | exact ih1 _ _ _ _ _ _ _ _ _ _
   | exact ih2 _ _ _ _ _ _
   | exact ih3 _ _ _ _ _ _ _
   | exact impl_DishNeeds.mono _ _ _ _ _
   | exact laws_sameInts.mono _ _ _
   | exact spec_DishNeeds.mono _ _ _ _ _
   | exact spec_DrawDishNeeds.mono _ _
   | exact LeO.none _
   | refine LeO.ite ?_ ?_
   | refine LeO.bind ?_ (fun _ => ?_)
  ·intro y0 y1 y2 y3 y4 y5 y6
   unfold laws_FnNeedsTwo.j3
   repeat' first
   | (with_reducible exact ih0 _ _ _)
   | (with_reducible exact ih1 _ _ _ _ _ _ _ _ _ _)
   | (with_reducible exact ih2 _ _ _ _ _ _)
   | (with_reducible exact ih3 _ _ _ _ _ _ _)
   | (with_reducible exact impl_DishNeeds.mono _ _ _ _ _)
   | (with_reducible exact laws_sameInts.mono _ _ _)
   | (with_reducible exact spec_DishNeeds.mono _ _ _ _ _)
   | (with_reducible exact spec_DrawDishNeeds.mono _ _)
   | (with_reducible exact LeO.refl _)
   | (with_reducible exact LeO.none _)
   | (with_reducible refine LeO.ite ?_ ?_)
   | (with_reducible refine LeO.bind ?_ (fun _ => ?_))
   | exact ih0 _ _ _
   | exact ih1 _ _ _ _ _ _ _ _ _ _
   | exact ih2 _ _ _ _ _ _
   | exact ih3 _ _ _ _ _ _ _
   | exact impl_DishNeeds.mono _ _ _ _ _
   | exact laws_sameInts.mono _ _ _
   | exact spec_DishNeeds.mono _ _ _ _ _
   | exact spec_DrawDishNeeds.mono _ _
   | exact LeO.none _
   | refine LeO.ite ?_ ?_
   | refine LeO.bind ?_ (fun _ => ?_)
theorem laws_FnNeedsTwo.mono : ∀ a0 a1 k, LeO (laws_FnNeedsTwo.f k a0 a1) (laws_FnNeedsTwo.f (k + 1) a0 a1) := by
 intro a0 a1 k
 obtain ⟨ih0, ih1, ih2, ih3⟩ := laws_FnNeedsTwo.mono_l k
 unfold laws_FnNeedsTwo.f
 repeat' first
   | (with_reducible exact ih0 _ _ _)
   | (with_reducible exact ih1 _ _ _ _ _ _ _ _ _ _)
   | (with_reducible exact ih2 _ _ _ _ _ _)
   | (with_reducible exact ih3 _ _ _ _ _ _ _)
   | (with_reducible exact impl_DishNeeds.mono _ _ _ _ _)
   | (with_reducible exact laws_sameInts.mono _ _ _)
   | (with_reducible exact spec_DishNeeds.mono _ _ _ _ _)
   | (with_reducible exact spec_DrawDishNeeds.mono _ _)
   | (with_reducible exact LeO.refl _)
   | (with_reducible exact LeO.none _)
   | (with_reducible refine LeO.ite ?_ ?_)
   | (with_reducible refine LeO.bind ?_ (fun _ => ?_))
   | exact ih0 _ _ _
   | exact ih1 _ _ _ _ _ _ _ _ _ _
   | exact ih2 _ _ _ _ _ _
   | exact ih3 _ _ _ _ _ _ _
   | exact impl_DishNeeds.mono _ _ _ _ _
   | exact laws_sameInts.mono _ _ _
   | exact spec_DishNeeds.mono _ _ _ _ _
   | exact spec_DrawDishNeeds.mono _ _
   | exact LeO.none _
   | refine LeO.ite ?_ ?_
   | refine LeO.bind ?_ (fun _ => ?_)
theorem F14.q0 {P : Prop} (h : P := by (with_reducible repeat (first | apply Kd.N_alloc | apply Kd.N_drewN | apply Kd.N_drew)); exact HO890.out) : P := h
theorem F14.q1 {P : Prop} (h : P := by (with_reducible repeat (first | apply Kd.N_alloc | apply Kd.N_drewN | apply Kd.N_drew)); exact HO_5.out) : P := h
set_option maxHeartbeats 8000000 in
set_option maxRecDepth 100000 in
theorem laws_FnNeedsTwo.calls (k : Nat) (A0 : Option Addr) (c0 : Nat) (l0 : List Int) (A1 : Option Addr) (c1 : Nat) (l1 : List Int) (r : Bool) (w : World) (hr0 : Kd.C (Kd.int .u8) w A0 l0.length l0) (hc0 : l0.length ≤ c0) (hr1 : Kd.C (Kd.int .u8) w A1 l1.length l1) (hc1 : l1.length ≤ c1) (h : laws_FnNeedsTwo.f k l0 l1 = some r) :
  Calls Try.prog 14 #[.slice A0 l0.length c0, .slice A1 l1.length c1] w fun e w' => e = .returned (.bool r) ∧ Below w.heap.size w w' := by
 have HR0 := Aside0.mk hr0
 have HC0 := Aside0.mk hc0
 clear hr0 hc0
 have HR1 := Aside0.mk hr1
 have HC1 := Aside0.mk hc1
 clear hr1 hc1
 have HB := Aside0.mk (Below.refl w.heap.size w)
 have H : (if (l0.length : Int) > 1048576 then (laws_FnNeedsTwo.j0 k l0 l1 true) else (laws_FnNeedsTwo.j0 k l0 l1 (decide ((l1.length : Int) > 1048576)))) = some r := h
 clear h
 have HC3 := Aside0.mk H
 clear H
 go_enter Try.func14, Try.ntmps14
 go_upto_region 1 with (fail)
 repeat (go_quiet (fail); go_upto_region 1 with (fail))
 go_cut [27] (fun v27 wc => ∃ (kq : Nat) (x27_2 : Bool), v27 = .bool x27_2 ∧ Aside0 (laws_FnNeedsTwo.j0 kq l0 l1 x27_2 = some r) ∧ Aside0 (kq ≤ k) ∧ Aside0 (Below w.heap.size w wc))
 case first =>
  have H := HC3.out
  clear HC3
  by_cases c4 : (l0.length : Int) > 1048576
  ·rw [if_pos c4] at H
   have c4b0 : decide (1048576 < (l0.length : Int)) = true := decide_eq_true c4
   have c4b1 : decide (1048576 < l0.length) = true := decide_eq_true (by omega)
   clear c4
   (first | rw [c4b0] | (simp only [i64_w, i32_w]; rw [c4b0]) | skip)
   have H' := Aside0.mk H
   clear H
   go_wp2
   repeat (go_quiet (fail); try go_wp2)
   go_meet
   case rel => exact ⟨_, (true), pF, H', ⟨by first | omega | exact Nat.le_refl _⟩, ⟨pB⟩⟩
  rw [if_neg c4] at H
  have c4b0 : decide (1048576 < (l0.length : Int)) = false := decide_eq_false c4
  have c4b1 : decide (1048576 < l0.length) = false := decide_eq_false (by omega)
  clear c4
  (first | rw [c4b0] | (simp only [i64_w, i32_w]; rw [c4b0]) | skip)
  have H' := Aside0.mk H
  clear H
  go_wp2
  repeat (go_quiet (fail); try go_wp2)
  go_meet
  case rel => exact ⟨_, (decide ((l1.length : Int) > 1048576)), pF, H', ⟨by first | omega | exact Nat.le_refl _⟩, ⟨pB⟩⟩
 case rest =>
  clear HC3
  try clear c1
  try clear p2
  try clear c4
  try clear c4b0
  try clear c4b1
  obtain ⟨kq, x27_2, rfl, HA, HJ2, HB⟩ := hcut
  cases kq with
  | zero => exact absurd HA.out (by simp [laws_FnNeedsTwo.j0])
  | succ kj2 =>
   have H := HA.out
   clear HA
   simp only [laws_FnNeedsTwo.j0] at H
   by_cases c5 : x27_2 = true
   ·subst c5
    have H1 : (some true) = some r := by rw [if_pos rfl] at H; exact H
    clear H
    have H := H1
    clear H1
    obtain rfl := Option.some.inj H
    go_wp2
    repeat (go_quiet (fail); try go_wp2)
    go_ret
    exact ⟨pE, pB⟩
   replace c5 := Bool.eq_false_iff.mpr c5
   subst c5
   have H1 : ((spec_DrawDishNeeds.f kj2 l0).bind fun bt888 => ((impl_DishNeeds.f kj2 bt888.1 bt888.2.1 bt888.2.2.1 bt888.2.2.2).bind fun bt896 => ((spec_DishNeeds.f kj2 bt888.1 bt888.2.1 bt888.2.2.1 bt888.2.2.2).bind fun bt900 => (if (bt896.2 != bt900.2) = true then (laws_FnNeedsTwo.j1 kj2 l1 bt888.1 bt888.2.1 bt888.2.2.1 bt888.2.2.2 bt896.1 bt896.2 bt900.1 bt900.2 true) else ((laws_sameInts.f kj2 bt896.1 bt900.1).bind fun t904 => (if t904 = true then (laws_FnNeedsTwo.j1 kj2 l1 bt888.1 bt888.2.1 bt888.2.2.1 bt888.2.2.2 bt896.1 bt896.2 bt900.1 bt900.2 (!bt896.2)) else (laws_FnNeedsTwo.j1 kj2 l1 bt888.1 bt888.2.1 bt888.2.2.1 bt888.2.2.2 bt896.1 bt896.2 bt900.1 bt900.2 true))))))) = some r := by rw [if_neg (show ¬ (false = true) by decide)] at H; exact H
   clear H
   have H := H1
   clear H1
   replace H := Option.bind_eq_some_iff.mp H
   obtain ⟨⟨t888, t891, t894, t895⟩, A60, H⟩ := H
   replace H : ((impl_DishNeeds.f kj2 t888 t891 t894 t895).bind fun bt896 => ((spec_DishNeeds.f kj2 t888 t891 t894 t895).bind fun bt900 => (if (bt896.2 != bt900.2) = true then (laws_FnNeedsTwo.j1 kj2 l1 t888 t891 t894 t895 bt896.1 bt896.2 bt900.1 bt900.2 true) else ((laws_sameInts.f kj2 bt896.1 bt900.1).bind fun t904 => (if t904 = true then (laws_FnNeedsTwo.j1 kj2 l1 t888 t891 t894 t895 bt896.1 bt896.2 bt900.1 bt900.2 (!bt896.2)) else (laws_FnNeedsTwo.j1 kj2 l1 t888 t891 t894 t895 bt896.1 bt896.2 bt900.1 bt900.2 true)))))) = some r := H
   have A6 := Aside0.mk A60
   clear A60
   replace H := Option.bind_eq_some_iff.mp H
   obtain ⟨⟨t896, t897⟩, A70, H⟩ := H
   replace H : ((spec_DishNeeds.f kj2 t888 t891 t894 t895).bind fun bt900 => (if (t897 != bt900.2) = true then (laws_FnNeedsTwo.j1 kj2 l1 t888 t891 t894 t895 t896 t897 bt900.1 bt900.2 true) else ((laws_sameInts.f kj2 t896 bt900.1).bind fun t904 => (if t904 = true then (laws_FnNeedsTwo.j1 kj2 l1 t888 t891 t894 t895 t896 t897 bt900.1 bt900.2 (!t897)) else (laws_FnNeedsTwo.j1 kj2 l1 t888 t891 t894 t895 t896 t897 bt900.1 bt900.2 true))))) = some r := H
   have A7 := Aside0.mk A70
   clear A70
   replace H := Option.bind_eq_some_iff.mp H
   obtain ⟨⟨t900, t901⟩, A80, H⟩ := H
   replace H : (if (t897 != t901) = true then (laws_FnNeedsTwo.j1 kj2 l1 t888 t891 t894 t895 t896 t897 t900 t901 true) else ((laws_sameInts.f kj2 t896 t900).bind fun t904 => (if t904 = true then (laws_FnNeedsTwo.j1 kj2 l1 t888 t891 t894 t895 t896 t897 t900 t901 (!t897)) else (laws_FnNeedsTwo.j1 kj2 l1 t888 t891 t894 t895 t896 t897 t900 t901 true)))) = some r := H
   have A8 := Aside0.mk A80
   clear A80
   have HC9 := Aside0.mk H
   clear H
   go_upto_region 6 with (first | (go_at_call 45; (with_reducible refine (spec_DrawDishNeeds.calls kj2 _ _ l0 t888 t891 t894 t895 _ ?side1 ?side2 A6.out).mono ?_); (case side1 => exact pS ((Kd.C_below HR0.out HB.out))); (case side2 => exact HC0.out); rintro e w10 ⟨v889, v892, rfl, ho0, ho1, hb⟩; have n0_ := Aside0.mk (Kd.N_lower (Kd.N_mono (ok' := fun k_ => some k_ ≠ (v892 : Value).ownBlock) ho0 (fun k_ hk_ => hk_.2)) (below_size pB)); have n1_ := Aside0.mk (Kd.R_lower (Kd.R_mono (ok' := fun k_ => True) ho1 (fun _ hk_ => trivial)) (below_size pB)); have n2_ := Aside0.mk (below_step pB hb); clear HB; have HO890 := n0_; have HO893 := n1_; have HB := n2_; clear n0_ n1_ n2_; (try clear hb); (try clear hb2); (try clear hk); (try clear hi); (try clear ho0); (try clear ho1); obtain ⟨Ao11, co11, eo11⟩ := Kd.N_slice HO890.out; subst eo11; obtain ⟨Ao12, co12, eo12⟩ := Kd.R_slice HO893.out; subst eo12) | (go_at_call 38; (with_reducible refine (impl_DishNeeds.calls kj2 _ _ t888 _ _ t891 t894 t895 t896 t897 _ ?side1 ?side2 ?side3 ?side4 A7.out).mono ?_); (case side1 => exact pS ((Kd.N_reads' HO890.out).2.2)); (case side2 => exact (Kd.N_reads' HO890.out).2.1); (case side3 => exact pS ((Kd.R_reads' HO893.out).2.2)); (case side4 => exact (Kd.R_reads' HO893.out).2.1); rintro e w13 ⟨v898, rfl, ho0, hb⟩; have n0_ := Aside0.mk (Kd.N_elder' F14.q0 (Kd.R_base ho0) hb); have n1_ := Aside0.mk (Kd.R_below (pR HO893) hb); have n2_ := Aside0.mk (Kd.R_lower ho0 (below_size pB)); have n3_ := Aside0.mk (below_step pB hb); clear HO890; clear HO893; clear HB; have HO890 := n0_; have HO893 := n1_; have HO899 := n2_; have HB := n3_; clear n0_ n1_ n2_ n3_; (try clear hb); (try clear hb2); (try clear hk); (try clear hi); (try clear ho0)) | (go_at_call 37; (with_reducible refine (spec_DishNeeds.calls kj2 _ _ t888 _ _ t891 t894 t895 t900 t901 _ ?side1 ?side2 ?side3 ?side4 A8.out).mono ?_); (case side1 => exact pS ((Kd.N_reads' HO890.out).2.2)); (case side2 => exact (Kd.N_reads' HO890.out).2.1); (case side3 => exact pS ((Kd.R_reads' HO893.out).2.2)); (case side4 => exact (Kd.R_reads' HO893.out).2.1); rintro e w14 ⟨v902, rfl, ho0, hb⟩; have n0_ := Aside0.mk (Kd.N_elder' F14.q0 (Kd.R_base ho0) hb); have n1_ := Aside0.mk (Kd.R_below (pR HO893) hb); have n2_ := Aside0.mk (Kd.R_elder' (pR HO899) (Kd.R_base ho0) hb); have n3_ := Aside0.mk (Kd.R_lower (Kd.R_new' ho0 (Kd.R_lt (pR HO899))) (below_size pB)); have n4_ := Aside0.mk (below_step pB hb); clear HO890; clear HO893; clear HO899; clear HB; have HO890 := n0_; have HO893 := n1_; have HO899 := n2_; have HO903 := n3_; have HB := n4_; clear n0_ n1_ n2_ n3_ n4_; (try clear hb); (try clear hb2); (try clear hk); (try clear hi); (try clear ho0)))
   repeat (go_quiet (first | (go_at_call 45; (with_reducible refine (spec_DrawDishNeeds.calls kj2 _ _ l0 t888 t891 t894 t895 _ ?side1 ?side2 A6.out).mono ?_); (case side1 => exact pS ((Kd.C_below HR0.out HB.out))); (case side2 => exact HC0.out); rintro e w10 ⟨v889, v892, rfl, ho0, ho1, hb⟩; have n0_ := Aside0.mk (Kd.N_lower (Kd.N_mono (ok' := fun k_ => some k_ ≠ (v892 : Value).ownBlock) ho0 (fun k_ hk_ => hk_.2)) (below_size pB)); have n1_ := Aside0.mk (Kd.R_lower (Kd.R_mono (ok' := fun k_ => True) ho1 (fun _ hk_ => trivial)) (below_size pB)); have n2_ := Aside0.mk (below_step pB hb); clear HB; have HO890 := n0_; have HO893 := n1_; have HB := n2_; clear n0_ n1_ n2_; (try clear hb); (try clear hb2); (try clear hk); (try clear hi); (try clear ho0); (try clear ho1); obtain ⟨Ao11, co11, eo11⟩ := Kd.N_slice HO890.out; subst eo11; obtain ⟨Ao12, co12, eo12⟩ := Kd.R_slice HO893.out; subst eo12) | (go_at_call 38; (with_reducible refine (impl_DishNeeds.calls kj2 _ _ t888 _ _ t891 t894 t895 t896 t897 _ ?side1 ?side2 ?side3 ?side4 A7.out).mono ?_); (case side1 => exact pS ((Kd.N_reads' HO890.out).2.2)); (case side2 => exact (Kd.N_reads' HO890.out).2.1); (case side3 => exact pS ((Kd.R_reads' HO893.out).2.2)); (case side4 => exact (Kd.R_reads' HO893.out).2.1); rintro e w13 ⟨v898, rfl, ho0, hb⟩; have n0_ := Aside0.mk (Kd.N_elder' F14.q0 (Kd.R_base ho0) hb); have n1_ := Aside0.mk (Kd.R_below (pR HO893) hb); have n2_ := Aside0.mk (Kd.R_lower ho0 (below_size pB)); have n3_ := Aside0.mk (below_step pB hb); clear HO890; clear HO893; clear HB; have HO890 := n0_; have HO893 := n1_; have HO899 := n2_; have HB := n3_; clear n0_ n1_ n2_ n3_; (try clear hb); (try clear hb2); (try clear hk); (try clear hi); (try clear ho0)) | (go_at_call 37; (with_reducible refine (spec_DishNeeds.calls kj2 _ _ t888 _ _ t891 t894 t895 t900 t901 _ ?side1 ?side2 ?side3 ?side4 A8.out).mono ?_); (case side1 => exact pS ((Kd.N_reads' HO890.out).2.2)); (case side2 => exact (Kd.N_reads' HO890.out).2.1); (case side3 => exact pS ((Kd.R_reads' HO893.out).2.2)); (case side4 => exact (Kd.R_reads' HO893.out).2.1); rintro e w14 ⟨v902, rfl, ho0, hb⟩; have n0_ := Aside0.mk (Kd.N_elder' F14.q0 (Kd.R_base ho0) hb); have n1_ := Aside0.mk (Kd.R_below (pR HO893) hb); have n2_ := Aside0.mk (Kd.R_elder' (pR HO899) (Kd.R_base ho0) hb); have n3_ := Aside0.mk (Kd.R_lower (Kd.R_new' ho0 (Kd.R_lt (pR HO899))) (below_size pB)); have n4_ := Aside0.mk (below_step pB hb); clear HO890; clear HO893; clear HO899; clear HB; have HO890 := n0_; have HO893 := n1_; have HO899 := n2_; have HO903 := n3_; have HB := n4_; clear n0_ n1_ n2_ n3_ n4_; (try clear hb); (try clear hb2); (try clear hk); (try clear hi); (try clear ho0))); go_upto_region 6 with (first | (go_at_call 45; (with_reducible refine (spec_DrawDishNeeds.calls kj2 _ _ l0 t888 t891 t894 t895 _ ?side1 ?side2 A6.out).mono ?_); (case side1 => exact pS ((Kd.C_below HR0.out HB.out))); (case side2 => exact HC0.out); rintro e w10 ⟨v889, v892, rfl, ho0, ho1, hb⟩; have n0_ := Aside0.mk (Kd.N_lower (Kd.N_mono (ok' := fun k_ => some k_ ≠ (v892 : Value).ownBlock) ho0 (fun k_ hk_ => hk_.2)) (below_size pB)); have n1_ := Aside0.mk (Kd.R_lower (Kd.R_mono (ok' := fun k_ => True) ho1 (fun _ hk_ => trivial)) (below_size pB)); have n2_ := Aside0.mk (below_step pB hb); clear HB; have HO890 := n0_; have HO893 := n1_; have HB := n2_; clear n0_ n1_ n2_; (try clear hb); (try clear hb2); (try clear hk); (try clear hi); (try clear ho0); (try clear ho1); obtain ⟨Ao11, co11, eo11⟩ := Kd.N_slice HO890.out; subst eo11; obtain ⟨Ao12, co12, eo12⟩ := Kd.R_slice HO893.out; subst eo12) | (go_at_call 38; (with_reducible refine (impl_DishNeeds.calls kj2 _ _ t888 _ _ t891 t894 t895 t896 t897 _ ?side1 ?side2 ?side3 ?side4 A7.out).mono ?_); (case side1 => exact pS ((Kd.N_reads' HO890.out).2.2)); (case side2 => exact (Kd.N_reads' HO890.out).2.1); (case side3 => exact pS ((Kd.R_reads' HO893.out).2.2)); (case side4 => exact (Kd.R_reads' HO893.out).2.1); rintro e w13 ⟨v898, rfl, ho0, hb⟩; have n0_ := Aside0.mk (Kd.N_elder' F14.q0 (Kd.R_base ho0) hb); have n1_ := Aside0.mk (Kd.R_below (pR HO893) hb); have n2_ := Aside0.mk (Kd.R_lower ho0 (below_size pB)); have n3_ := Aside0.mk (below_step pB hb); clear HO890; clear HO893; clear HB; have HO890 := n0_; have HO893 := n1_; have HO899 := n2_; have HB := n3_; clear n0_ n1_ n2_ n3_; (try clear hb); (try clear hb2); (try clear hk); (try clear hi); (try clear ho0)) | (go_at_call 37; (with_reducible refine (spec_DishNeeds.calls kj2 _ _ t888 _ _ t891 t894 t895 t900 t901 _ ?side1 ?side2 ?side3 ?side4 A8.out).mono ?_); (case side1 => exact pS ((Kd.N_reads' HO890.out).2.2)); (case side2 => exact (Kd.N_reads' HO890.out).2.1); (case side3 => exact pS ((Kd.R_reads' HO893.out).2.2)); (case side4 => exact (Kd.R_reads' HO893.out).2.1); rintro e w14 ⟨v902, rfl, ho0, hb⟩; have n0_ := Aside0.mk (Kd.N_elder' F14.q0 (Kd.R_base ho0) hb); have n1_ := Aside0.mk (Kd.R_below (pR HO893) hb); have n2_ := Aside0.mk (Kd.R_elder' (pR HO899) (Kd.R_base ho0) hb); have n3_ := Aside0.mk (Kd.R_lower (Kd.R_new' ho0 (Kd.R_lt (pR HO899))) (below_size pB)); have n4_ := Aside0.mk (below_step pB hb); clear HO890; clear HO893; clear HO899; clear HB; have HO890 := n0_; have HO893 := n1_; have HO899 := n2_; have HO903 := n3_; have HB := n4_; clear n0_ n1_ n2_ n3_ n4_; (try clear hb); (try clear hb2); (try clear hk); (try clear hi); (try clear ho0))))
   (try simp only [Act.put, List.setIfInBounds_toArray, List.set_cons_zero, List.set_cons_succ])
   go_cut [63] (fun v63 wc => ∃ (kq : Nat) (x63_8 : Bool), v63 = .bool x63_8 ∧ Aside0 (laws_FnNeedsTwo.j1 kq l1 t888 t891 t894 t895 t896 t897 t900 t901 x63_8 = some r) ∧ Aside0 (kq ≤ kj2) ∧ Aside0 (Kd.N k29 29 wc w.heap.size (fun k_ => some k_ ≠ ((.slice Ao12 t891.length co12) : Value).ownBlock ∧ some k_ ≠ (v898 : Value).ownBlock ∧ some k_ ≠ (v902 : Value).ownBlock) (.slice Ao11 t888.length co11) t888) ∧ Aside0 (Kd.R k63 63 wc w.heap.size (fun _ => True) (.slice Ao12 t891.length co12) t891) ∧ Aside0 (Kd.R (Kd.int .i64) 3 wc w.heap.size (fun k_ => some k_ ≠ (v902 : Value).ownBlock) v898 t896) ∧ Aside0 (Kd.R (Kd.int .i64) 3 wc w.heap.size (fun k_ => some k_ ≠ (v898 : Value).ownBlock) v902 t900) ∧ Aside0 (Below w.heap.size w wc))
   case first =>
    have H := HC9.out
    clear HC9
    by_cases c15 : (t897 != t901) = true
    ·rw [if_pos c15] at H
     have c15b0 : (t897 != t901) = true := c15
     (try (have c15b1 : decide (t897 = t901) = false := by simpa using c15))
     (try (have c15b2 : (t897 == t901) = false := by simpa using c15))
     (try (have c15b3 : ¬ (t897 = t901) := by simpa using c15))
     clear c15
     (first | rw [c15b0] | (simp only [i64_w, i32_w]; rw [c15b0]) | skip)
     have H' := Aside0.mk H
     clear H
     go_wp2
     repeat (go_quiet (fail); try go_wp2)
     go_meet
     case rel => exact ⟨_, (true), pF, H', ⟨by have := HJ2.out; first | omega | exact Nat.le_refl _⟩, ⟨by (with_reducible repeat (first | apply Kd.N_alloc | apply Kd.N_drewN | apply Kd.N_drew)); exact Kd.N_mono HO890.out (fun _ hk => ⟨hk.1.1, ⟨hk.1.2, hk.2⟩⟩)⟩, ⟨pR HO893⟩, ⟨by (with_reducible repeat (first | apply Kd.R_alloc | apply Kd.R_drewN | apply Kd.R_drew)); exact Kd.R_mono HO899.out (fun _ hk => hk.2)⟩, ⟨by (with_reducible repeat (first | apply Kd.R_alloc | apply Kd.R_drewN | apply Kd.R_drew)); exact Kd.R_mono HO903.out (fun _ hk => hk.2)⟩, ⟨pB⟩⟩
    rw [if_neg c15] at H
    have c15b0 : (t897 != t901) = false := by simpa using c15
    (try (have c15b1 : decide (t897 = t901) = true := by simpa using c15))
    (try (have c15b2 : (t897 == t901) = true := by simpa using c15))
    clear c15
    (first | rw [c15b0] | (simp only [i64_w, i32_w]; rw [c15b0]) | skip)
    replace H := Option.bind_eq_some_iff.mp H
    obtain ⟨t904, A160, H⟩ := H
    replace H : (if t904 = true then (laws_FnNeedsTwo.j1 kj2 l1 t888 t891 t894 t895 t896 t897 t900 t901 (!t897)) else (laws_FnNeedsTwo.j1 kj2 l1 t888 t891 t894 t895 t896 t897 t900 t901 true)) = some r := H
    have A16 := Aside0.mk A160
    clear A160
    by_cases c17 : t904 = true
    ·subst c17
     have H1 : (laws_FnNeedsTwo.j1 kj2 l1 t888 t891 t894 t895 t896 t897 t900 t901 (!t897)) = some r := by rw [if_pos rfl] at H; exact H
     clear H
     have H := H1
     clear H1
     have H' := Aside0.mk H
     clear H
     obtain ⟨Ao18, co18, eo18⟩ := Kd.R_slice HO899.out
     subst eo18
     obtain ⟨Ao19, co19, eo19⟩ := Kd.R_slice HO903.out
     subst eo19
     go_wp2_with (first | (go_at_call 43; (with_reducible refine (laws_sameInts.calls kj2 _ _ t896 _ _ t900 true _ ?side1 ?side2 ?side3 ?side4 A16.out).mono ?_); (case side1 => exact pS ((Kd.R_reads' HO899.out).2.2)); (case side2 => exact (Kd.R_reads' HO899.out).2.1); (case side3 => exact pS ((Kd.R_reads' HO903.out).2.2)); (case side4 => exact (Kd.R_reads' HO903.out).2.1); rintro e w' ⟨rfl, ⟨nd, rfl⟩⟩; (try exact pD)))
     repeat (go_quiet (first | (go_at_call 43; (with_reducible refine (laws_sameInts.calls kj2 _ _ t896 _ _ t900 true _ ?side1 ?side2 ?side3 ?side4 A16.out).mono ?_); (case side1 => exact pS ((Kd.R_reads' HO899.out).2.2)); (case side2 => exact (Kd.R_reads' HO899.out).2.1); (case side3 => exact pS ((Kd.R_reads' HO903.out).2.2)); (case side4 => exact (Kd.R_reads' HO903.out).2.1); rintro e w' ⟨rfl, ⟨nd, rfl⟩⟩; (try exact pD))); try go_wp2_with (first | (go_at_call 43; (with_reducible refine (laws_sameInts.calls kj2 _ _ t896 _ _ t900 true _ ?side1 ?side2 ?side3 ?side4 A16.out).mono ?_); (case side1 => exact pS ((Kd.R_reads' HO899.out).2.2)); (case side2 => exact (Kd.R_reads' HO899.out).2.1); (case side3 => exact pS ((Kd.R_reads' HO903.out).2.2)); (case side4 => exact (Kd.R_reads' HO903.out).2.1); rintro e w' ⟨rfl, ⟨nd, rfl⟩⟩; (try exact pD))))
     go_meet
     case rel => exact ⟨_, (!t897), pF, H', ⟨by have := HJ2.out; first | omega | exact Nat.le_refl _⟩, ⟨by (with_reducible repeat (first | apply Kd.N_alloc | apply Kd.N_drewN | apply Kd.N_drew)); exact Kd.N_mono HO890.out (fun _ hk => ⟨hk.1.1, ⟨hk.1.2, hk.2⟩⟩)⟩, ⟨pR HO893⟩, ⟨by (with_reducible repeat (first | apply Kd.R_alloc | apply Kd.R_drewN | apply Kd.R_drew)); exact Kd.R_mono HO899.out (fun _ hk => hk.2)⟩, ⟨by (with_reducible repeat (first | apply Kd.R_alloc | apply Kd.R_drewN | apply Kd.R_drew)); exact Kd.R_mono HO903.out (fun _ hk => hk.2)⟩, ⟨pB⟩⟩
    replace c17 := Bool.eq_false_iff.mpr c17
    subst c17
    have H1 : (laws_FnNeedsTwo.j1 kj2 l1 t888 t891 t894 t895 t896 t897 t900 t901 true) = some r := by rw [if_neg (show ¬ (false = true) by decide)] at H; exact H
    clear H
    have H := H1
    clear H1
    have H' := Aside0.mk H
    clear H
    obtain ⟨Ao20, co20, eo20⟩ := Kd.R_slice HO899.out
    subst eo20
    obtain ⟨Ao21, co21, eo21⟩ := Kd.R_slice HO903.out
    subst eo21
    go_wp2_with (first | (go_at_call 43; (with_reducible refine (laws_sameInts.calls kj2 _ _ t896 _ _ t900 false _ ?side1 ?side2 ?side3 ?side4 A16.out).mono ?_); (case side1 => exact pS ((Kd.R_reads' HO899.out).2.2)); (case side2 => exact (Kd.R_reads' HO899.out).2.1); (case side3 => exact pS ((Kd.R_reads' HO903.out).2.2)); (case side4 => exact (Kd.R_reads' HO903.out).2.1); rintro e w' ⟨rfl, ⟨nd, rfl⟩⟩; (try exact pD)))
    repeat (go_quiet (first | (go_at_call 43; (with_reducible refine (laws_sameInts.calls kj2 _ _ t896 _ _ t900 false _ ?side1 ?side2 ?side3 ?side4 A16.out).mono ?_); (case side1 => exact pS ((Kd.R_reads' HO899.out).2.2)); (case side2 => exact (Kd.R_reads' HO899.out).2.1); (case side3 => exact pS ((Kd.R_reads' HO903.out).2.2)); (case side4 => exact (Kd.R_reads' HO903.out).2.1); rintro e w' ⟨rfl, ⟨nd, rfl⟩⟩; (try exact pD))); try go_wp2_with (first | (go_at_call 43; (with_reducible refine (laws_sameInts.calls kj2 _ _ t896 _ _ t900 false _ ?side1 ?side2 ?side3 ?side4 A16.out).mono ?_); (case side1 => exact pS ((Kd.R_reads' HO899.out).2.2)); (case side2 => exact (Kd.R_reads' HO899.out).2.1); (case side3 => exact pS ((Kd.R_reads' HO903.out).2.2)); (case side4 => exact (Kd.R_reads' HO903.out).2.1); rintro e w' ⟨rfl, ⟨nd, rfl⟩⟩; (try exact pD))))
    go_meet
    case rel => exact ⟨_, (true), pF, H', ⟨by have := HJ2.out; first | omega | exact Nat.le_refl _⟩, ⟨by (with_reducible repeat (first | apply Kd.N_alloc | apply Kd.N_drewN | apply Kd.N_drew)); exact Kd.N_mono HO890.out (fun _ hk => ⟨hk.1.1, ⟨hk.1.2, hk.2⟩⟩)⟩, ⟨pR HO893⟩, ⟨by (with_reducible repeat (first | apply Kd.R_alloc | apply Kd.R_drewN | apply Kd.R_drew)); exact Kd.R_mono HO899.out (fun _ hk => hk.2)⟩, ⟨by (with_reducible repeat (first | apply Kd.R_alloc | apply Kd.R_drewN | apply Kd.R_drew)); exact Kd.R_mono HO903.out (fun _ hk => hk.2)⟩, ⟨pB⟩⟩
   case rest =>
    clear HC9
    try clear c1
    try clear p2
    try clear c4
    try clear c4b0
    try clear c4b1
    try clear c5
    try clear c14
    try clear c15
    try clear c15b0
    try clear c15b1
    try clear c15b2
    try clear c17
    try clear p2
    obtain ⟨kq, x63_8, rfl, HA, HJ8, HO_5, HO_6, HO_9, HO_11, HB⟩ := hcut
    cases kq with
    | zero => exact absurd HA.out (by simp [laws_FnNeedsTwo.j1])
    | succ kj8 =>
     have H := HA.out
     clear HA
     simp only [laws_FnNeedsTwo.j1] at H
     by_cases c22 : x63_8 = true
     ·subst c22
      have H1 : (if (t897 == t901) = true then ((laws_sameInts.f kj8 t896 t900).bind fun t905 => (some t905)) else (some false)) = some r := by rw [if_pos rfl] at H; exact H
      clear H
      have H := H1
      clear H1
      rcases (Classical.em ((t897 == t901) = true)).symm with c23 | c23
      ·rw [if_neg c23] at H
       have c23b0 : (t897 == t901) = false := by simpa using c23
       (try (have c23b1 : decide (t897 = t901) = false := by simpa using c23))
       (try (have c23b2 : (t897 == t901) = false := by simpa using c23))
       (try (have c23b3 : ¬ (t897 = t901) := by simpa using c23))
       clear c23
       obtain rfl := Option.some.inj H
       go_wp2
       repeat (go_quiet (fail); try go_wp2)
       go_ret
       exact ⟨pE, pB⟩
      rw [if_pos c23] at H
      have c23b0 : (t897 == t901) = true := c23
      (try (have c23b1 : decide (t897 = t901) = true := by simpa using c23))
      (try (have c23b2 : (t897 == t901) = true := by simpa using c23))
      clear c23
      replace H := Option.bind_eq_some_iff.mp H
      obtain ⟨t905, A240, H⟩ := H
      replace H : (some t905) = some r := H
      have A24 := Aside0.mk A240
      clear A240
      obtain rfl := Option.some.inj H
      obtain ⟨Ao25, co25, eo25⟩ := Kd.R_slice HO_9.out
      subst eo25
      obtain ⟨Ao26, co26, eo26⟩ := Kd.R_slice HO_11.out
      subst eo26
      go_wp2_with (first | (go_at_call 43; (with_reducible refine (laws_sameInts.calls kj8 _ _ t896 _ _ t900 t905 _ ?side1 ?side2 ?side3 ?side4 A24.out).mono ?_); (case side1 => exact pS ((Kd.R_reads' HO_9.out).2.2)); (case side2 => exact (Kd.R_reads' HO_9.out).2.1); (case side3 => exact pS ((Kd.R_reads' HO_11.out).2.2)); (case side4 => exact (Kd.R_reads' HO_11.out).2.1); rintro e w' ⟨rfl, ⟨nd, rfl⟩⟩; (try exact pD)))
      repeat (go_quiet (first | (go_at_call 43; (with_reducible refine (laws_sameInts.calls kj8 _ _ t896 _ _ t900 t905 _ ?side1 ?side2 ?side3 ?side4 A24.out).mono ?_); (case side1 => exact pS ((Kd.R_reads' HO_9.out).2.2)); (case side2 => exact (Kd.R_reads' HO_9.out).2.1); (case side3 => exact pS ((Kd.R_reads' HO_11.out).2.2)); (case side4 => exact (Kd.R_reads' HO_11.out).2.1); rintro e w' ⟨rfl, ⟨nd, rfl⟩⟩; (try exact pD))); try go_wp2_with (first | (go_at_call 43; (with_reducible refine (laws_sameInts.calls kj8 _ _ t896 _ _ t900 t905 _ ?side1 ?side2 ?side3 ?side4 A24.out).mono ?_); (case side1 => exact pS ((Kd.R_reads' HO_9.out).2.2)); (case side2 => exact (Kd.R_reads' HO_9.out).2.1); (case side3 => exact pS ((Kd.R_reads' HO_11.out).2.2)); (case side4 => exact (Kd.R_reads' HO_11.out).2.1); rintro e w' ⟨rfl, ⟨nd, rfl⟩⟩; (try exact pD))))
      go_ret
      exact ⟨pE, pB⟩
     replace c22 := Bool.eq_false_iff.mpr c22
     subst c22
     have H1 : (if (wrap64 (t895 + 1)) = 0 then (none) else ((impl_DishNeeds.f kj8 t888 t891 t894 ((l1.length : Int) % (wrap64 (t895 + 1)))).bind fun bt906 => ((impl_DishNeeds.f kj8 t888 t891 t894 (wrap64 (t895 - ((l1.length : Int) % (wrap64 (t895 + 1)))))).bind fun bt910 => (laws_FnNeedsTwo.l0 kj8 t896 bt906.1 bt906.2 bt910.1 bt910.2 0)))) = some r := by rw [if_neg (show ¬ (false = true) by decide)] at H; exact H
     clear H
     have H := H1
     clear H1
     by_cases c27 : (wrap64 (t895 + 1)) = 0
     ·rw [if_pos c27] at H
      exact absurd H (by simp)
     rw [if_neg c27] at H
     have c27b0 : ((wrap64 (t895 + 1)) == 0) = false := beq_eq_false_iff_ne.mpr c27
     have c27b1 : ((wrap64 (t895 + 1)) != 0) = true := bne_iff_ne.mpr c27
     replace H := Option.bind_eq_some_iff.mp H
     obtain ⟨⟨t906, t907⟩, A280, H⟩ := H
     replace H : ((impl_DishNeeds.f kj8 t888 t891 t894 (wrap64 (t895 - ((l1.length : Int) % (wrap64 (t895 + 1)))))).bind fun bt910 => (laws_FnNeedsTwo.l0 kj8 t896 t906 t907 bt910.1 bt910.2 0)) = some r := H
     have A28 := Aside0.mk A280
     clear A280
     replace H := Option.bind_eq_some_iff.mp H
     obtain ⟨⟨t910, t911⟩, A290, H⟩ := H
     replace H : (laws_FnNeedsTwo.l0 kj8 t896 t906 t907 t910 t911 0) = some r := H
     have A29 := Aside0.mk A290
     clear A290
     have H' := Aside0.mk H
     clear H
     go_wp2_with (first | (go_at_call 38; (with_reducible refine (impl_DishNeeds.calls kj8 _ _ t888 _ _ t891 t894 ((l1.length : Int) % (wrap64 (t895 + 1))) t906 t907 _ ?side1 ?side2 ?side3 ?side4 A28.out).mono ?_); (case side1 => exact pS ((Kd.N_reads' HO_5.out).2.2)); (case side2 => exact (Kd.N_reads' HO_5.out).2.1); (case side3 => exact pS ((Kd.R_reads' HO_6.out).2.2)); (case side4 => exact (Kd.R_reads' HO_6.out).2.1); rintro e w30 ⟨v908, rfl, ho0, hb⟩; have n0_ := Aside0.mk (Kd.N_elder' F14.q1 (Kd.R_base ho0) hb); have n1_ := Aside0.mk (Kd.R_below (pR HO_6) hb); have n2_ := Aside0.mk (Kd.R_elder' (pR HO_9) (Kd.R_base ho0) hb); have n3_ := Aside0.mk (Kd.R_elder' (pR HO_11) (Kd.R_base ho0) hb); have n4_ := Aside0.mk (Kd.R_lower (Kd.R_new' (Kd.R_new' ho0 (Kd.R_lt (pR HO_9))) (Kd.R_lt (pR HO_11))) (below_size pB)); have n5_ := Aside0.mk (below_step pB hb); clear HO_5; clear HO_6; clear HO_9; clear HO_11; clear HB; have HO_5 := n0_; have HO_6 := n1_; have HO_9 := n2_; have HO_11 := n3_; have HO909 := n4_; have HB := n5_; clear n0_ n1_ n2_ n3_ n4_ n5_; (try clear hb); (try clear hb2); (try clear hk); (try clear hi); (try clear ho0)) | (go_at_call 38; (with_reducible refine (impl_DishNeeds.calls kj8 _ _ t888 _ _ t891 t894 (wrap64 (t895 - ((l1.length : Int) % (wrap64 (t895 + 1))))) t910 t911 _ ?side1 ?side2 ?side3 ?side4 A29.out).mono ?_); (case side1 => exact pS ((Kd.N_reads' HO_5.out).2.2)); (case side2 => exact (Kd.N_reads' HO_5.out).2.1); (case side3 => exact pS ((Kd.R_reads' HO_6.out).2.2)); (case side4 => exact (Kd.R_reads' HO_6.out).2.1); rintro e w31 ⟨v912, rfl, ho0, hb⟩; have n0_ := Aside0.mk (Kd.N_elder' F14.q1 (Kd.R_base ho0) hb); have n1_ := Aside0.mk (Kd.R_below (pR HO_6) hb); have n2_ := Aside0.mk (Kd.R_elder' (pR HO_9) (Kd.R_base ho0) hb); have n3_ := Aside0.mk (Kd.R_elder' (pR HO_11) (Kd.R_base ho0) hb); have n4_ := Aside0.mk (Kd.R_elder' (pR HO909) (Kd.R_base ho0) hb); have n5_ := Aside0.mk (Kd.R_lower (Kd.R_new' (Kd.R_new' (Kd.R_new' ho0 (Kd.R_lt (pR HO_9))) (Kd.R_lt (pR HO_11))) (Kd.R_lt (pR HO909))) (below_size pB)); have n6_ := Aside0.mk (below_step pB hb); clear HO_5; clear HO_6; clear HO_9; clear HO_11; clear HO909; clear HB; have HO_5 := n0_; have HO_6 := n1_; have HO_9 := n2_; have HO_11 := n3_; have HO909 := n4_; have HO913 := n5_; have HB := n6_; clear n0_ n1_ n2_ n3_ n4_ n5_ n6_; (try clear hb); (try clear hb2); (try clear hk); (try clear hi); (try clear ho0)))
     repeat (go_quiet (first | (go_at_call 38; (with_reducible refine (impl_DishNeeds.calls kj8 _ _ t888 _ _ t891 t894 ((l1.length : Int) % (wrap64 (t895 + 1))) t906 t907 _ ?side1 ?side2 ?side3 ?side4 A28.out).mono ?_); (case side1 => exact pS ((Kd.N_reads' HO_5.out).2.2)); (case side2 => exact (Kd.N_reads' HO_5.out).2.1); (case side3 => exact pS ((Kd.R_reads' HO_6.out).2.2)); (case side4 => exact (Kd.R_reads' HO_6.out).2.1); rintro e w30 ⟨v908, rfl, ho0, hb⟩; have n0_ := Aside0.mk (Kd.N_elder' F14.q1 (Kd.R_base ho0) hb); have n1_ := Aside0.mk (Kd.R_below (pR HO_6) hb); have n2_ := Aside0.mk (Kd.R_elder' (pR HO_9) (Kd.R_base ho0) hb); have n3_ := Aside0.mk (Kd.R_elder' (pR HO_11) (Kd.R_base ho0) hb); have n4_ := Aside0.mk (Kd.R_lower (Kd.R_new' (Kd.R_new' ho0 (Kd.R_lt (pR HO_9))) (Kd.R_lt (pR HO_11))) (below_size pB)); have n5_ := Aside0.mk (below_step pB hb); clear HO_5; clear HO_6; clear HO_9; clear HO_11; clear HB; have HO_5 := n0_; have HO_6 := n1_; have HO_9 := n2_; have HO_11 := n3_; have HO909 := n4_; have HB := n5_; clear n0_ n1_ n2_ n3_ n4_ n5_; (try clear hb); (try clear hb2); (try clear hk); (try clear hi); (try clear ho0)) | (go_at_call 38; (with_reducible refine (impl_DishNeeds.calls kj8 _ _ t888 _ _ t891 t894 (wrap64 (t895 - ((l1.length : Int) % (wrap64 (t895 + 1))))) t910 t911 _ ?side1 ?side2 ?side3 ?side4 A29.out).mono ?_); (case side1 => exact pS ((Kd.N_reads' HO_5.out).2.2)); (case side2 => exact (Kd.N_reads' HO_5.out).2.1); (case side3 => exact pS ((Kd.R_reads' HO_6.out).2.2)); (case side4 => exact (Kd.R_reads' HO_6.out).2.1); rintro e w31 ⟨v912, rfl, ho0, hb⟩; have n0_ := Aside0.mk (Kd.N_elder' F14.q1 (Kd.R_base ho0) hb); have n1_ := Aside0.mk (Kd.R_below (pR HO_6) hb); have n2_ := Aside0.mk (Kd.R_elder' (pR HO_9) (Kd.R_base ho0) hb); have n3_ := Aside0.mk (Kd.R_elder' (pR HO_11) (Kd.R_base ho0) hb); have n4_ := Aside0.mk (Kd.R_elder' (pR HO909) (Kd.R_base ho0) hb); have n5_ := Aside0.mk (Kd.R_lower (Kd.R_new' (Kd.R_new' (Kd.R_new' ho0 (Kd.R_lt (pR HO_9))) (Kd.R_lt (pR HO_11))) (Kd.R_lt (pR HO909))) (below_size pB)); have n6_ := Aside0.mk (below_step pB hb); clear HO_5; clear HO_6; clear HO_9; clear HO_11; clear HO909; clear HB; have HO_5 := n0_; have HO_6 := n1_; have HO_9 := n2_; have HO_11 := n3_; have HO909 := n4_; have HO913 := n5_; have HB := n6_; clear n0_ n1_ n2_ n3_ n4_ n5_ n6_; (try clear hb); (try clear hb2); (try clear hk); (try clear hi); (try clear ho0))); try go_wp2_with (first | (go_at_call 38; (with_reducible refine (impl_DishNeeds.calls kj8 _ _ t888 _ _ t891 t894 ((l1.length : Int) % (wrap64 (t895 + 1))) t906 t907 _ ?side1 ?side2 ?side3 ?side4 A28.out).mono ?_); (case side1 => exact pS ((Kd.N_reads' HO_5.out).2.2)); (case side2 => exact (Kd.N_reads' HO_5.out).2.1); (case side3 => exact pS ((Kd.R_reads' HO_6.out).2.2)); (case side4 => exact (Kd.R_reads' HO_6.out).2.1); rintro e w30 ⟨v908, rfl, ho0, hb⟩; have n0_ := Aside0.mk (Kd.N_elder' F14.q1 (Kd.R_base ho0) hb); have n1_ := Aside0.mk (Kd.R_below (pR HO_6) hb); have n2_ := Aside0.mk (Kd.R_elder' (pR HO_9) (Kd.R_base ho0) hb); have n3_ := Aside0.mk (Kd.R_elder' (pR HO_11) (Kd.R_base ho0) hb); have n4_ := Aside0.mk (Kd.R_lower (Kd.R_new' (Kd.R_new' ho0 (Kd.R_lt (pR HO_9))) (Kd.R_lt (pR HO_11))) (below_size pB)); have n5_ := Aside0.mk (below_step pB hb); clear HO_5; clear HO_6; clear HO_9; clear HO_11; clear HB; have HO_5 := n0_; have HO_6 := n1_; have HO_9 := n2_; have HO_11 := n3_; have HO909 := n4_; have HB := n5_; clear n0_ n1_ n2_ n3_ n4_ n5_; (try clear hb); (try clear hb2); (try clear hk); (try clear hi); (try clear ho0)) | (go_at_call 38; (with_reducible refine (impl_DishNeeds.calls kj8 _ _ t888 _ _ t891 t894 (wrap64 (t895 - ((l1.length : Int) % (wrap64 (t895 + 1))))) t910 t911 _ ?side1 ?side2 ?side3 ?side4 A29.out).mono ?_); (case side1 => exact pS ((Kd.N_reads' HO_5.out).2.2)); (case side2 => exact (Kd.N_reads' HO_5.out).2.1); (case side3 => exact pS ((Kd.R_reads' HO_6.out).2.2)); (case side4 => exact (Kd.R_reads' HO_6.out).2.1); rintro e w31 ⟨v912, rfl, ho0, hb⟩; have n0_ := Aside0.mk (Kd.N_elder' F14.q1 (Kd.R_base ho0) hb); have n1_ := Aside0.mk (Kd.R_below (pR HO_6) hb); have n2_ := Aside0.mk (Kd.R_elder' (pR HO_9) (Kd.R_base ho0) hb); have n3_ := Aside0.mk (Kd.R_elder' (pR HO_11) (Kd.R_base ho0) hb); have n4_ := Aside0.mk (Kd.R_elder' (pR HO909) (Kd.R_base ho0) hb); have n5_ := Aside0.mk (Kd.R_lower (Kd.R_new' (Kd.R_new' (Kd.R_new' ho0 (Kd.R_lt (pR HO_9))) (Kd.R_lt (pR HO_11))) (Kd.R_lt (pR HO909))) (below_size pB)); have n6_ := Aside0.mk (below_step pB hb); clear HO_5; clear HO_6; clear HO_9; clear HO_11; clear HO909; clear HB; have HO_5 := n0_; have HO_6 := n1_; have HO_9 := n2_; have HO_11 := n3_; have HO909 := n4_; have HO913 := n5_; have HB := n6_; clear n0_ n1_ n2_ n3_ n4_ n5_ n6_; (try clear hb); (try clear hb2); (try clear hk); (try clear hi); (try clear ho0))))
     go_loopg [18] kj8 (fun kq v18 w' => ∃ (x18_3 : Int), v18 = .int .i64 x18_3 ∧ Aside0 (laws_FnNeedsTwo.l0 kq t896 t906 t907 t910 t911 x18_3 = some r) ∧ Aside0 (kq ≤ kj8) ∧ Aside0 (Kd.R (Kd.int .i64) 3 w' w.heap.size (fun k_ => some k_ ≠ (v908 : Value).ownBlock ∧ some k_ ≠ (v912 : Value).ownBlock) v898 t896) ∧ Aside0 (Kd.R (Kd.int .i64) 3 w' w.heap.size (fun k_ => some k_ ≠ (v898 : Value).ownBlock ∧ some k_ ≠ (v912 : Value).ownBlock) v908 t906) ∧ Aside0 (Kd.R (Kd.int .i64) 3 w' w.heap.size (fun k_ => some k_ ≠ (v898 : Value).ownBlock ∧ some k_ ≠ (v908 : Value).ownBlock) v912 t910) ∧ Aside0 (Below w.heap.size w w'))
     case atStart => exact ⟨(0), pF, H', ⟨Nat.le_refl _⟩, ⟨by (with_reducible repeat (first | apply Kd.R_alloc | apply Kd.R_drewN | apply Kd.R_drew)); exact Kd.R_mono HO_9.out (fun _ hk => ⟨hk.1.2, hk.2⟩)⟩, ⟨by (with_reducible repeat (first | apply Kd.R_alloc | apply Kd.R_drewN | apply Kd.R_drew)); exact Kd.R_mono HO909.out (fun _ hk => ⟨hk.1.1.2, hk.2⟩)⟩, ⟨by (with_reducible repeat (first | apply Kd.R_alloc | apply Kd.R_drewN | apply Kd.R_drew)); exact Kd.R_mono HO913.out (fun _ hk => ⟨hk.1.1.2, hk.2⟩)⟩, ⟨pB⟩⟩
     case round =>
      clear H'
      try clear c1
      try clear c2
      try clear p2
      try clear c4
      try clear c4b0
      try clear c4b1
      try clear c5
      try clear p6
      try clear c14
      try clear c15
      try clear c15b0
      try clear c15b1
      try clear c15b2
      try clear c17
      try clear c22
      try clear c23
      try clear c23b0
      try clear c23b1
      try clear c23b2
      try clear c27
      try clear c27b0
      try clear c27b1
      try clear p2
      obtain ⟨x18_3, rfl, HA, HK3, HO_9, HO_14, HO_16, HB⟩ := hrel
      cases gk with
      | zero => exact absurd HA.out (by simp [laws_FnNeedsTwo.l0])
      | succ k3 =>
       have H := HA.out
       clear HA
       simp only [laws_FnNeedsTwo.l0] at H
       have HC32 := Aside0.mk H
       clear H
       go_upto_region 12 with (fail)
       repeat (go_quiet (fail); go_upto_region 12 with (fail))
       go_cut [110] (fun v110 wc => ∃ (kq : Nat) (x110_31 : Bool), v110 = .bool x110_31 ∧ Aside0 (laws_FnNeedsTwo.j3 kq t896 t906 t907 t910 t911 x18_3 x110_31 = some r) ∧ Aside0 (kq ≤ k3) ∧ Aside0 (Kd.R (Kd.int .i64) 3 wc w.heap.size (fun k_ => some k_ ≠ (v908 : Value).ownBlock ∧ some k_ ≠ (v912 : Value).ownBlock) v898 t896) ∧ Aside0 (Kd.R (Kd.int .i64) 3 wc w.heap.size (fun k_ => some k_ ≠ (v898 : Value).ownBlock ∧ some k_ ≠ (v912 : Value).ownBlock) v908 t906) ∧ Aside0 (Kd.R (Kd.int .i64) 3 wc w.heap.size (fun k_ => some k_ ≠ (v898 : Value).ownBlock ∧ some k_ ≠ (v908 : Value).ownBlock) v912 t910) ∧ Aside0 (Below w.heap.size w wc))
       case first =>
        have H := HC32.out
        clear HC32
        rcases (Classical.em (x18_3 < (t896.length : Int))).symm with c33 | c33
        ·rw [if_neg c33] at H
         have c33b0 : decide (x18_3 < (t896.length : Int)) = false := decide_eq_false c33
         clear c33
         (first | rw [c33b0] | (simp only [i64_w, i32_w]; rw [c33b0]) | skip)
         have H' := Aside0.mk H
         clear H
         obtain ⟨Ao40, co40, eo40⟩ := Kd.R_slice HO_9.out
         subst eo40
         go_wp2
         repeat (go_quiet (fail); try go_wp2)
         go_meet
         case rel => exact ⟨_, (false), pF, H', ⟨by have := HJ2.out; have := HJ8.out; have := HK3.out; first | omega | exact Nat.le_refl _⟩, ⟨pR HO_9⟩, ⟨pR HO_14⟩, ⟨pR HO_16⟩, ⟨pB⟩⟩
        rw [if_pos c33] at H
        have c33b0 : decide (x18_3 < (t896.length : Int)) = true := decide_eq_true c33
        clear c33
        (first | rw [c33b0] | (simp only [i64_w, i32_w]; rw [c33b0]) | skip)
        rcases (Classical.em (x18_3 < (t906.length : Int))).symm with c34 | c34
        ·rw [if_neg c34] at H
         have c34b0 : decide (x18_3 < (t906.length : Int)) = false := decide_eq_false c34
         clear c34
         have H' := Aside0.mk H
         clear H
         obtain ⟨Ao38, co38, eo38⟩ := Kd.R_slice HO_9.out
         subst eo38
         obtain ⟨Ao39, co39, eo39⟩ := Kd.R_slice HO_14.out
         subst eo39
         go_wp2
         repeat (go_quiet (fail); try go_wp2)
         go_meet
         case rel => exact ⟨_, (false), pF, H', ⟨by have := HJ2.out; have := HJ8.out; have := HK3.out; first | omega | exact Nat.le_refl _⟩, ⟨pR HO_9⟩, ⟨pR HO_14⟩, ⟨pR HO_16⟩, ⟨pB⟩⟩
        rw [if_pos c34] at H
        have c34b0 : decide (x18_3 < (t906.length : Int)) = true := decide_eq_true c34
        clear c34
        have H' := Aside0.mk H
        clear H
        obtain ⟨Ao35, co35, eo35⟩ := Kd.R_slice HO_9.out
        subst eo35
        obtain ⟨Ao36, co36, eo36⟩ := Kd.R_slice HO_14.out
        subst eo36
        obtain ⟨Ao37, co37, eo37⟩ := Kd.R_slice HO_16.out
        subst eo37
        go_wp2
        repeat (go_quiet (fail); try go_wp2)
        go_meet
        case rel => exact ⟨_, (decide (x18_3 < (t910.length : Int))), pF, H', ⟨by have := HJ2.out; have := HJ8.out; have := HK3.out; first | omega | exact Nat.le_refl _⟩, ⟨pR HO_9⟩, ⟨pR HO_14⟩, ⟨pR HO_16⟩, ⟨pB⟩⟩
       case rest =>
        clear HC32
        try clear c1
        try clear c2
        try clear p2
        try clear c3
        try clear c4
        try clear c4b0
        try clear c4b1
        try clear c5
        try clear p6
        try clear c14
        try clear c15
        try clear c15b0
        try clear c15b1
        try clear c15b2
        try clear c17
        try clear c22
        try clear c23
        try clear c23b0
        try clear c23b1
        try clear c23b2
        try clear c27
        try clear c27b0
        try clear c27b1
        try clear c33
        try clear c33b0
        try clear c34
        try clear c34b0
        try clear p2
        try clear p6
        obtain ⟨kq, x110_31, rfl, HA, HJ31, HO_9, HO_14, HO_16, HB⟩ := hcut
        cases kq with
        | zero => exact absurd HA.out (by simp [laws_FnNeedsTwo.j3])
        | succ kj31 =>
         have H := HA.out
         clear HA
         simp only [laws_FnNeedsTwo.j3] at H
         rcases (Classical.em (x110_31 = true)).symm with c41 | c41
         ·replace c41 := Bool.eq_false_iff.mpr c41
          subst c41
          have H1 : (if t907 = true then (if t911 = true then (if (t906.length : Int) = (t896.length : Int) then (some ((t910.length : Int) == (t896.length : Int))) else (some false)) else (some false)) else (some false)) = some r := by rw [if_neg (show ¬ (false = true) by decide)] at H; exact H
          clear H
          have H := H1
          clear H1
          rcases (Classical.em (t907 = true)).symm with c57 | c57
          ·replace c57 := Bool.eq_false_iff.mpr c57
           subst c57
           have H1 : (some false) = some r := by rw [if_neg (show ¬ (false = true) by decide)] at H; exact H
           clear H
           have H := H1
           clear H1
           obtain rfl := Option.some.inj H
           go_wp2
           repeat (go_quiet (fail); try go_wp2)
           go_ret
           exact ⟨pE, pB⟩

          subst c57
          have H1 : (if t911 = true then (if (t906.length : Int) = (t896.length : Int) then (some ((t910.length : Int) == (t896.length : Int))) else (some false)) else (some false)) = some r := by rw [if_pos rfl] at H; exact H
          clear H
          have H := H1
          clear H1
          rcases (Classical.em (t911 = true)).symm with c58 | c58
          ·replace c58 := Bool.eq_false_iff.mpr c58
           subst c58
           have H1 : (some false) = some r := by rw [if_neg (show ¬ (false = true) by decide)] at H; exact H
           clear H
           have H := H1
           clear H1
           obtain rfl := Option.some.inj H
           go_wp2
           repeat (go_quiet (fail); try go_wp2)
           go_ret
           exact ⟨pE, pB⟩
          subst c58
          have H1 : (if (t906.length : Int) = (t896.length : Int) then (some ((t910.length : Int) == (t896.length : Int))) else (some false)) = some r := by rw [if_pos rfl] at H; exact H
          clear H
          have H := H1
          clear H1
          rcases (Classical.em ((t906.length : Int) = (t896.length : Int))).symm with c59 | c59
          ·rw [if_neg c59] at H
           have c59b0 : ((t906.length : Int) == (t896.length : Int)) = false := beq_eq_false_iff_ne.mpr c59
           have c59b1 : ((t906.length : Int) != (t896.length : Int)) = true := bne_iff_ne.mpr c59
           have c59b2 : (t906.length == t896.length) = false := by first | simpa using c59 | (simp at c59 ⊢; omega)
           obtain rfl := Option.some.inj H
           obtain ⟨Ao63, co63, eo63⟩ := Kd.R_slice HO_14.out
           subst eo63
           obtain ⟨Ao64, co64, eo64⟩ := Kd.R_slice HO_9.out
           subst eo64
           go_wp2
           repeat (go_quiet (fail); try go_wp2)
           go_ret
           exact ⟨pE, pB⟩
          rw [if_pos c59] at H
          have c59b0 : ((t906.length : Int) == (t896.length : Int)) = true := beq_iff_eq.mpr c59
          have c59b1 : ((t906.length : Int) != (t896.length : Int)) = false := bne_eq_false_iff_eq.mpr c59
          have c59b2 : (t906.length == t896.length) = true := by first | simpa using c59 | (simp at c59 ⊢; omega)
          clear c59
          obtain rfl := Option.some.inj H
          obtain ⟨Ao60, co60, eo60⟩ := Kd.R_slice HO_14.out
          subst eo60
          obtain ⟨Ao61, co61, eo61⟩ := Kd.R_slice HO_9.out
          subst eo61
          obtain ⟨Ao62, co62, eo62⟩ := Kd.R_slice HO_16.out
          subst eo62
          go_wp2
          repeat (go_quiet (fail); try go_wp2)
          go_ret
          exact ⟨pE, pB⟩
         subst c41
         have H1 : (if 0 ≤ x18_3 then (if x18_3 < (t906.length : Int) then (if x18_3 < (t910.length : Int) then (if x18_3 < (t896.length : Int) then (if (wrap64 ((wrap64 ((rd t906 x18_3) + (rd t910 x18_3))) - (rd t896 x18_3))) < 0 then (some false) else (if (wrap64 ((wrap64 ((rd t906 x18_3) + (rd t910 x18_3))) - (rd t896 x18_3))) > 1 then (some false) else (laws_FnNeedsTwo.l0 kj31 t896 t906 t907 t910 t911 (wrap64 (x18_3 + 1))))) else (none)) else (none)) else (none)) else (none)) = some r := by rw [if_pos rfl] at H; exact H
         clear H
         have H := H1
         clear H1
         rcases (Classical.em (0 ≤ x18_3)).symm with c42 | c42
         ·rw [if_neg c42] at H
          exact absurd H (by simp)
         rw [if_pos c42] at H
         have c42b0 : decide (0 ≤ x18_3) = true := decide_eq_true c42
         clear c42
         rcases (Classical.em (x18_3 < (t906.length : Int))).symm with c43 | c43
         ·rw [if_neg c43] at H
          exact absurd H (by simp)
         rw [if_pos c43] at H
         have c43b0 : decide (x18_3 < (t906.length : Int)) = true := decide_eq_true c43
         clear c43
         rcases (Classical.em (x18_3 < (t910.length : Int))).symm with c44 | c44
         ·rw [if_neg c44] at H
          exact absurd H (by simp)
         rw [if_pos c44] at H
         have c44b0 : decide (x18_3 < (t910.length : Int)) = true := decide_eq_true c44
         clear c44
         rcases (Classical.em (x18_3 < (t896.length : Int))).symm with c45 | c45
         ·rw [if_neg c45] at H
          exact absurd H (by simp)
         rw [if_pos c45] at H
         have c45b0 : decide (x18_3 < (t896.length : Int)) = true := decide_eq_true c45
         clear c45
         by_cases c46 : (wrap64 ((wrap64 ((rd t906 x18_3) + (rd t910 x18_3))) - (rd t896 x18_3))) < 0
         ·rw [if_pos c46] at H
          have c46b0 : decide ((wrap64 ((wrap64 ((rd t906 x18_3) + (rd t910 x18_3))) - (rd t896 x18_3))) < 0) = true := decide_eq_true c46
          clear c46
          obtain rfl := Option.some.inj H
          obtain ⟨Ao47, co47, eo47⟩ := Kd.R_slice HO_14.out
          subst eo47
          have p914 : 0 ≤ (x18_3 : Int) := of_decide_eq_true pA
          have q914 : x18_3 < (t906.length : Int) := of_decide_eq_true pA
          obtain ⟨ad914, e914, hx914_0⟩ := Kd.at_int (Kd.R_reads' HO_14.out).2.2 x18_3 p914 q914
          cases e914
          replace p914 := eq_true p914
          replace q914 := eq_true q914
          obtain ⟨Ao48, co48, eo48⟩ := Kd.R_slice HO_16.out
          subst eo48
          have p915 : 0 ≤ (x18_3 : Int) := of_decide_eq_true pA
          have q915 : x18_3 < (t910.length : Int) := of_decide_eq_true pA
          obtain ⟨ad915, e915, hx915_0⟩ := Kd.at_int (Kd.R_reads' HO_16.out).2.2 x18_3 p915 q915
          cases e915
          replace p915 := eq_true p915
          replace q915 := eq_true q915
          obtain ⟨Ao49, co49, eo49⟩ := Kd.R_slice HO_9.out
          subst eo49
          have p916 : 0 ≤ (x18_3 : Int) := of_decide_eq_true pA
          have q916 : x18_3 < (t896.length : Int) := of_decide_eq_true pA
          obtain ⟨ad916, e916, hx916_0⟩ := Kd.at_int (Kd.R_reads' HO_9.out).2.2 x18_3 p916 q916
          cases e916
          replace p916 := eq_true p916
          replace q916 := eq_true q916
          go_wp2
          repeat (go_quiet (fail); try go_wp2)
          go_ret
          exact ⟨pE, pB⟩
         rw [if_neg c46] at H
         have c46b0 : decide ((wrap64 ((wrap64 ((rd t906 x18_3) + (rd t910 x18_3))) - (rd t896 x18_3))) < 0) = false := decide_eq_false c46
         clear c46
         by_cases c50 : (wrap64 ((wrap64 ((rd t906 x18_3) + (rd t910 x18_3))) - (rd t896 x18_3))) > 1
         ·rw [if_pos c50] at H
          have c50b0 : decide (1 < (wrap64 ((wrap64 ((rd t906 x18_3) + (rd t910 x18_3))) - (rd t896 x18_3)))) = true := decide_eq_true c50
          clear c50
          obtain rfl := Option.some.inj H
          obtain ⟨Ao51, co51, eo51⟩ := Kd.R_slice HO_14.out
          subst eo51
          have p914 : 0 ≤ (x18_3 : Int) := of_decide_eq_true pA
          have q914 : x18_3 < (t906.length : Int) := of_decide_eq_true pA
          obtain ⟨ad914, e914, hx914_0⟩ := Kd.at_int (Kd.R_reads' HO_14.out).2.2 x18_3 p914 q914
          cases e914
          replace p914 := eq_true p914
          replace q914 := eq_true q914
          obtain ⟨Ao52, co52, eo52⟩ := Kd.R_slice HO_16.out
          subst eo52
          have p915 : 0 ≤ (x18_3 : Int) := of_decide_eq_true pA
          have q915 : x18_3 < (t910.length : Int) := of_decide_eq_true pA
          obtain ⟨ad915, e915, hx915_0⟩ := Kd.at_int (Kd.R_reads' HO_16.out).2.2 x18_3 p915 q915
          cases e915
          replace p915 := eq_true p915
          replace q915 := eq_true q915
          obtain ⟨Ao53, co53, eo53⟩ := Kd.R_slice HO_9.out
          subst eo53
          have p916 : 0 ≤ (x18_3 : Int) := of_decide_eq_true pA
          have q916 : x18_3 < (t896.length : Int) := of_decide_eq_true pA
          obtain ⟨ad916, e916, hx916_0⟩ := Kd.at_int (Kd.R_reads' HO_9.out).2.2 x18_3 p916 q916
          cases e916
          replace p916 := eq_true p916
          replace q916 := eq_true q916
          go_wp2
          repeat (go_quiet (fail); try go_wp2)
          go_ret
          exact ⟨pE, pB⟩
         rw [if_neg c50] at H
         have c50b0 : decide (1 < (wrap64 ((wrap64 ((rd t906 x18_3) + (rd t910 x18_3))) - (rd t896 x18_3)))) = false := decide_eq_false c50
         clear c50
         have H' := Aside0.mk H
         clear H
         obtain ⟨Ao54, co54, eo54⟩ := Kd.R_slice HO_14.out
         subst eo54
         have p914 : 0 ≤ (x18_3 : Int) := of_decide_eq_true pA
         have q914 : x18_3 < (t906.length : Int) := of_decide_eq_true pA
         obtain ⟨ad914, e914, hx914_0⟩ := Kd.at_int (Kd.R_reads' HO_14.out).2.2 x18_3 p914 q914
         cases e914
         replace p914 := eq_true p914
         replace q914 := eq_true q914
         obtain ⟨Ao55, co55, eo55⟩ := Kd.R_slice HO_16.out
         subst eo55
         have p915 : 0 ≤ (x18_3 : Int) := of_decide_eq_true pA
         have q915 : x18_3 < (t910.length : Int) := of_decide_eq_true pA
         obtain ⟨ad915, e915, hx915_0⟩ := Kd.at_int (Kd.R_reads' HO_16.out).2.2 x18_3 p915 q915
         cases e915
         replace p915 := eq_true p915
         replace q915 := eq_true q915
         obtain ⟨Ao56, co56, eo56⟩ := Kd.R_slice HO_9.out
         subst eo56
         have p916 : 0 ≤ (x18_3 : Int) := of_decide_eq_true pA
         have q916 : x18_3 < (t896.length : Int) := of_decide_eq_true pA
         obtain ⟨ad916, e916, hx916_0⟩ := Kd.at_int (Kd.R_reads' HO_9.out).2.2 x18_3 p916 q916
         cases e916
         replace p916 := eq_true p916
         replace q916 := eq_true q916
         go_wp2
         repeat (go_quiet (fail); try go_wp2)
         go_roundg kj31
         case measure => have := HJ2.out; have := HJ8.out; have := HK3.out; have := HJ31.out; omega
         case rel => exact ⟨(wrap64 (x18_3 + 1)), pF, H', ⟨by have := HJ2.out; have := HJ8.out; have := HK3.out; have := HJ31.out; omega⟩, ⟨pR HO_9⟩, ⟨pR HO_14⟩, ⟨pR HO_16⟩, ⟨pB⟩⟩
/-- THE ONE PURE STATEMENT of laws_FnNeedsTwo: yours. -/
def laws_FnNeedsTwo.Pure : Prop := ∀ (l0 : List Int) (l1 : List Int), l0.length ≤ maxLen → l0.length * 1 ≤ 140737488351232 → (∀ x ∈ l0, (Lit.int .u8 x).wf = true) → l1.length ≤ maxLen → l1.length * 1 ≤ 140737488351232 → (∀ x ∈ l1, (Lit.int .u8 x).wf = true) → ∃ k, laws_FnNeedsTwo.f k l0 l1 = some true
theorem laws_FnNeedsTwo.walk (P : laws_FnNeedsTwo.Pure) (a0 : Option Addr) (len0 cap0 : Nat) (z0 : List Int) (a1 : Option Addr) (len1 cap1 : Nat) (z1 : List Int) (w : World) (w0 : (a0 = none ∧ len0 = 0 ∧ cap0 = 0 ∧ z0 = []) ∨ ∃ x, a0 = some x ∧ len0 ≤ cap0 ∧ cap0 ≤ maxLen ∧ z0.length = cap0 ∧ (∀ i, i < z0.length → w.cell? (x.add i) = some (.int .u8 (z0.getD i 0))) ∧ ∀ n ∈ z0, (Lit.int .u8 n).wf = true) (y0 : len0 * 1 ≤ 140737488351232) (w1 : (a1 = none ∧ len1 = 0 ∧ cap1 = 0 ∧ z1 = []) ∨ ∃ x, a1 = some x ∧ len1 ≤ cap1 ∧ cap1 ≤ maxLen ∧ z1.length = cap1 ∧ (∀ i, i < z1.length → w.cell? (x.add i) = some (.int .u8 (z1.getD i 0))) ∧ ∀ n ∈ z1, (Lit.int .u8 n).wf = true) (y1 : len1 * 1 ≤ 140737488351232) :
  Calls Try.prog 14 #[.slice a0 len0 cap0, .slice a1 len1 cap1] w fun e w' => e = .returned (.bool true) ∧ Below w.heap.size w w' := by
 obtain ⟨l0, rfl, hr0, hm0, hw0, hc0⟩ := ReadsInt.ofRowC w0
 obtain ⟨l1, rfl, hr1, hm1, hw1, hc1⟩ := ReadsInt.ofRowC w1
 obtain ⟨k, h⟩ := P l0 l1 hm0 y0 hw0 hm1 y1 hw1
 refine (laws_FnNeedsTwo.calls k _ _ l0 _ _ l1 true w (Kd.C_of_reads (d := (0 : Int)) (h1 := fun _ => rfl) hr0) hc0 (Kd.C_of_reads (d := (0 : Int)) (h1 := fun _ => rfl) hr1) hc1 h).mono ?_
 rintro e w' ⟨rfl, hd⟩
 exact ⟨rfl, hd⟩

end Go.Proofs.Ytclldijjbmnkeaa.Q
