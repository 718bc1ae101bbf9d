-- Written by the kit's print.py for all laws of the seat at once (one namespace), by a program of this session.
import Derived.Test.YtglddjbcaknnaaaQx0
import Derived.Test.YtglddjbcaknnaaaQx4
import Derived.Test.YtglddjbcaknnaaaQx14
import Derived.Test.YtglddjbcaknnaaaQx26
namespace Go.Proofs.Ytglddjbcaknnaaa.Q
open Go.RowKit Go.Proofs.YtglddjbcaknnaaaW.PrintWords Go.Proofs.YtglddjbcaknnaaaW.PrintLast Go.Proofs.YtglddjbcaknnaaaW.PrintMore
attribute [local go_sem] max2_int min2_int max_two min_two max_three min_three max_four min_four   -- for this text's walks alone
set_option linter.unusedVariables false
set_option linter.unusedSimpArgs false

/-! ### spec_SwapNeeds: function 42 -/
mutual
def spec_SwapNeeds.j0 : Nat → List (S41) → List (S62) → List Int → List Int → Bool → Option (List Int × Bool)
 | 0, _, _, _, _, _ => none
 | k + 1, x0, x1, x2, x3, x23 => if x23 = true then (some ((([] : List Int)), false)) else ((some (([] : List Int) : List Int)).bind fun y587 => (if y587.length + x2.length < 17592186044416 then (spec_SwapNeeds.l0 k x0 x1 x2 x3 (y587 ++ x2) 0) else (none)))
def spec_SwapNeeds.l0 : Nat → List (S41) → List (S62) → List Int → List Int → List Int → Int → Option (List Int × Bool)
 | 0, _, _, _, _, _, _ => none
 | k + 1, x0, x1, x2, x3, x10, x11 => if x11 < (x1.length : Int) then (if 0 ≤ x11 then ((spec_l15Has.f k x3 ((rd_T62 x1 x11).f0)).bind fun t598 => (if t598 = true then (if x11 < (x2.length : Int) then (spec_SwapNeeds.j2 k x0 x1 x2 x3 x10 x11 (decide ((rd x2 x11) > 0))) else (none)) else (spec_SwapNeeds.j2 k x0 x1 x2 x3 x10 x11 false))) else (none)) else ((spec_l15Needs.f k x1 x10).bind fun t593 => (if t593 = true then (some (x10, true)) else (some ((([] : List Int)), false))))
def spec_SwapNeeds.j2 : Nat → List (S41) → List (S62) → List Int → List Int → List Int → Int → Bool → Option (List Int × Bool)
 | 0, _, _, _, _, _, _, _ => none
 | k + 1, x0, x1, x2, x3, x10, x11, x47 => if x47 = true then (spec_SwapNeeds.l1 k x0 x1 x2 x3 x10 x11 0) else (spec_SwapNeeds.l0 k x0 x1 x2 x3 x10 (wrap64 (x11 + 1)))
def spec_SwapNeeds.j4 : Nat → List (S41) → List (S62) → List Int → List Int → List Int → Int → Int → Option (List Int × Bool)
 | 0, _, _, _, _, _, _, _ => none
 | k + 1, x0, x1, x2, x3, x10, x11, x12 => if x12 = (x0.length : Int) then (some ((([] : List Int)), false)) else (if 0 ≤ x12 then (if x12 < (x0.length : Int) then ((spec_l5Find.f k x1 ((rd_T41 x0 x12).f1)).bind fun t608 => (if 0 ≤ x11 then (if x11 < (x10.length : Int) then ((some (x10.set (x11 : Int).toNat 0 : List Int)).bind fun y609 => (if 0 ≤ t608 then (if t608 < (x10.length : Int) then (if x11 < (x2.length : Int) then ((spec_l1Up.f (wrap64 ((rd x2 x11) * ((rd_T41 x0 x12).f2))) ((rd_T41 x0 x12).f3)).bind fun t614 => (spec_SwapNeeds.l0 k x0 x1 x2 x3 (y609.set (t608 : Int).toNat (wrap64 ((rd y609 t608) + t614))) (wrap64 (x11 + 1)))) else (none)) else (none)) else (none))) else (none)) else (none))) else (none)) else (none))
def spec_SwapNeeds.l1 : Nat → List (S41) → List (S62) → List Int → List Int → List Int → Int → Int → Option (List Int × Bool)
 | 0, _, _, _, _, _, _, _ => none
 | k + 1, x0, x1, x2, x3, x10, x11, x12 => if x12 < (x0.length : Int) then (if 0 ≤ x12 then (if 0 ≤ x11 then (if x11 < (x1.length : Int) then (if ((rd_T41 x0 x12).f0) = ((rd_T62 x1 x11).f0) then ((spec_l15Has.f k x3 ((rd_T41 x0 x12).f1)).bind fun t603 => (if t603 = true then (spec_SwapNeeds.l1 k x0 x1 x2 x3 x10 x11 (wrap64 (x12 + 1))) else (spec_SwapNeeds.j4 k x0 x1 x2 x3 x10 x11 x12))) else (spec_SwapNeeds.l1 k x0 x1 x2 x3 x10 x11 (wrap64 (x12 + 1)))) else (none)) else (none)) else (none)) else (spec_SwapNeeds.j4 k x0 x1 x2 x3 x10 x11 x12)
end
def spec_SwapNeeds.f (k : Nat) (l0 : List (S41)) (l1 : List (S62)) (l2 : List Int) (l3 : List Int) : Option (List Int × Bool) := (spec_SwapsValid.f k l0 l1).bind fun t582 => (if t582 = true then ((spec_l15Needs.f k l1 l2).bind fun t583 => (spec_SwapNeeds.j0 k l0 l1 l2 l3 (!t583))) else (spec_SwapNeeds.j0 k l0 l1 l2 l3 true))
theorem spec_SwapNeeds.mono_l : ∀ k, (∀ y0 y1 y2 y3 y4, LeO (spec_SwapNeeds.j0 k y0 y1 y2 y3 y4) (spec_SwapNeeds.j0 (k + 1) y0 y1 y2 y3 y4)) ∧ (∀ y0 y1 y2 y3 y4 y5, LeO (spec_SwapNeeds.l0 k y0 y1 y2 y3 y4 y5) (spec_SwapNeeds.l0 (k + 1) y0 y1 y2 y3 y4 y5)) ∧ (∀ y0 y1 y2 y3 y4 y5 y6, LeO (spec_SwapNeeds.j2 k y0 y1 y2 y3 y4 y5 y6) (spec_SwapNeeds.j2 (k + 1) y0 y1 y2 y3 y4 y5 y6)) ∧ (∀ y0 y1 y2 y3 y4 y5 y6, LeO (spec_SwapNeeds.j4 k y0 y1 y2 y3 y4 y5 y6) (spec_SwapNeeds.j4 (k + 1) y0 y1 y2 y3 y4 y5 y6)) ∧ (∀ y0 y1 y2 y3 y4 y5 y6, LeO (spec_SwapNeeds.l1 k y0 y1 y2 y3 y4 y5 y6) (spec_SwapNeeds.l1 (k + 1) y0 y1 y2 y3 y4 y5 y6))
 | 0 => ⟨fun _ _ _ _ _ r h => by simp [spec_SwapNeeds.j0] at h, fun _ _ _ _ _ _ r h => by simp [spec_SwapNeeds.l0] at h, fun _ _ _ _ _ _ _ r h => by simp [spec_SwapNeeds.j2] at h, fun _ _ _ _ _ _ _ r h => by simp [spec_SwapNeeds.j4] at h, fun _ _ _ _ _ _ _ r h => by simp [spec_SwapNeeds.l1] at h⟩
 | k + 1 => by
  obtain ⟨ih0, ih1, ih2, ih3, ih4⟩ := spec_SwapNeeds.mono_l k
  refine ⟨?_, ?_, ?_, ?_, ?_⟩
  ·intro y0 y1 y2 y3 y4
   unfold spec_SwapNeeds.j0
   repeat' first
   | (with_reducible exact ih0 _ _ _ _ _)
   | (with_reducible exact ih1 _ _ _ _ _ _)
   | (with_reducible exact ih2 _ _ _ _ _ _ _)
   | (with_reducible exact ih3 _ _ _ _ _ _ _)
   | (with_reducible exact ih4 _ _ _ _ _ _ _)
   | (with_reducible exact spec_SwapsValid.mono _ _ _)
   | (with_reducible exact spec_l15Has.mono _ _ _)
   | (with_reducible exact spec_l15Needs.mono _ _ _)
   | (with_reducible exact spec_l5Find.mono _ _ _)
   | (with_reducible exact LeO.refl _)
   | (with_reducible exact LeO.none _)
   | (with_reducible refine LeO.ite ?_ ?_)
   | (with_reducible refine LeO.bind ?_ (fun _ => ?_))
   | exact ih0 _ _ _ _ _
   | exact ih1 _ _ _ _ _ _
   | exact ih2 _ _ _ _ _ _ _
   | exact ih3 _ _ _ _ _ _ _
   | exact ih4 _ _ _ _ _ _ _
   | exact spec_SwapsValid.mono _ _ _
   | exact spec_l15Has.mono _ _ _
   | exact spec_l15Needs.mono _ _ _
   | exact spec_l5Find.mono _ _ _
   | exact LeO.none _
   | refine LeO.ite ?_ ?_
   | refine LeO.bind ?_ (fun _ => ?_)
  ·intro y0 y1 y2 y3 y4 y5
   unfold spec_SwapNeeds.l0
   repeat' first
   | (with_reducible exact ih0 _ _ _ _ _)
   | (with_reducible exact ih1 _ _ _ _ _ _)
   | (with_reducible exact ih2 _ _ _ _ _ _ _)
   | (with_reducible exact ih3 _ _ _ _ _ _ _)
   | (with_reducible exact ih4 _ _ _ _ _ _ _)
   | (with_reducible exact spec_SwapsValid.mono _ _ _)
   | (with_reducible exact spec_l15Has.mono _ _ _)
   | (with_reducible exact spec_l15Needs.mono _ _ _)
   | (with_reducible exact spec_l5Find.mono _ _ _)
   | (with_reducible exact LeO.refl _)
   | (with_reducible exact LeO.none _)
   | (with_reducible refine LeO.ite ?_ ?_)
   | (with_reducible refine LeO.bind ?_ (fun _ => ?_))
   | exact ih0 _ _ _ _ _
   | exact ih1 _ _ _ _ _ _
   | exact ih2 _ _ _ _ _ _ _
   | exact ih3 _ _ _ _ _ _ _
   | exact ih4 _ _ _ _ _ _ _
   | exact spec_SwapsValid.mono _ _ _
   | exact spec_l15Has.mono _ _ _
   | exact spec_l15Needs.mono _ _ _
   | exact spec_l5Find.mono _ _ _
   | exact LeO.none _
   | refine LeO.ite ?_ ?_
   | refine LeO.bind ?_ (fun _ => ?_)
  ·intro y0 y1 y2 y3 y4 y5 y6
   unfold spec_SwapNeeds.j2
   repeat' first
   | (with_reducible exact ih0 _ _ _ _ _)
   | (with_reducible exact ih1 _ _ _ _ _ _)
   | (with_reducible exact ih2 _ _ _ _ _ _ _)
   | (with_reducible exact ih3 _ _ _ _ _ _ _)
   | (with_reducible exact ih4 _ _ _ _ _ _ _)
   | (with_reducible exact spec_SwapsValid.mono _ _ _)
   | (with_reducible exact spec_l15Has.mono _ _ _)
   | (with_reducible exact spec_l15Needs.mono _ _ _)
   | (with_reducible exact spec_l5Find.mono _ _ _)
   | (with_reducible exact LeO.refl _)
   | (with_reducible exact LeO.none _)
   | (with_reducible refine LeO.ite ?_ ?_)
   | (with_reducible refine LeO.bind ?_ (fun _ => ?_))
   | exact ih0 _ _ _ _ _
   | exact ih1 _ _ _ _ _ _
   | exact ih2 _ _ _ _ _ _ _
   | exact ih3 _ _ _ _ _ _ _
   | exact ih4 _ _ _ _ _ _ _
   | exact spec_SwapsValid.mono _ _ _
   | exact spec_l15Has.mono _ _ _
   | exact spec_l15Needs.mono _ _ _
   | exact spec_l5Find.mono _ _ _
   | exact LeO.none _
   | refine LeO.ite ?_ ?_
   | refine LeO.bind ?_ (fun _ => ?_)
  ·intro y0 y1 y2 y3 y4 y5 y6
   unfold spec_SwapNeeds.j4
   repeat' first
   | (with_reducible exact ih0 _ _ _ _ _)
   | (with_reducible exact ih1 _ _ _ _ _ _)
   | (with_reducible exact ih2 _ _ _ _ _ _ _)
   | (with_reducible exact ih3 _ _ _ _ _ _ _)
   | (with_reducible exact ih4 _ _ _ _ _ _ _)
   | (with_reducible exact spec_SwapsValid.mono _ _ _)
   | (with_reducible exact spec_l15Has.mono _ _ _)
   | (with_reducible exact spec_l15Needs.mono _ _ _)
   | (with_reducible exact spec_l5Find.mono _ _ _)
   | (with_reducible exact LeO.refl _)
   | (with_reducible exact LeO.none _)
   | (with_reducible refine LeO.ite ?_ ?_)
   | (with_reducible refine LeO.bind ?_ (fun _ => ?_))
   | exact ih0 _ _ _ _ _
   | exact ih1 _ _ _ _ _ _
   | exact ih2 _ _ _ _ _ _ _
   | exact ih3 _ _ _ _ _ _ _
   | exact ih4 _ _ _ _ _ _ _
   | exact spec_SwapsValid.mono _ _ _
   | exact spec_l15Has.mono _ _ _
   | exact spec_l15Needs.mono _ _ _
   | exact spec_l5Find.mono _ _ _
   | exact LeO.none _
   | refine LeO.ite ?_ ?_
   | refine LeO.bind ?_ (fun _ => ?_)
  ·intro y0 y1 y2 y3 y4 y5 y6
   unfold spec_SwapNeeds.l1
   repeat' first
   | (with_reducible exact ih0 _ _ _ _ _)
   | (with_reducible exact ih1 _ _ _ _ _ _)
   | (with_reducible exact ih2 _ _ _ _ _ _ _)
   | (with_reducible exact ih3 _ _ _ _ _ _ _)
   | (with_reducible exact ih4 _ _ _ _ _ _ _)
   | (with_reducible exact spec_SwapsValid.mono _ _ _)
   | (with_reducible exact spec_l15Has.mono _ _ _)
   | (with_reducible exact spec_l15Needs.mono _ _ _)
   | (with_reducible exact spec_l5Find.mono _ _ _)
   | (with_reducible exact LeO.refl _)
   | (with_reducible exact LeO.none _)
   | (with_reducible refine LeO.ite ?_ ?_)
   | (with_reducible refine LeO.bind ?_ (fun _ => ?_))
   | exact ih0 _ _ _ _ _
   | exact ih1 _ _ _ _ _ _
   | exact ih2 _ _ _ _ _ _ _
   | exact ih3 _ _ _ _ _ _ _
   | exact ih4 _ _ _ _ _ _ _
   | exact spec_SwapsValid.mono _ _ _
   | exact spec_l15Has.mono _ _ _
   | exact spec_l15Needs.mono _ _ _
   | exact spec_l5Find.mono _ _ _
   | exact LeO.none _
   | refine LeO.ite ?_ ?_
   | refine LeO.bind ?_ (fun _ => ?_)
theorem spec_SwapNeeds.mono : ∀ a0 a1 a2 a3 k, LeO (spec_SwapNeeds.f k a0 a1 a2 a3) (spec_SwapNeeds.f (k + 1) a0 a1 a2 a3) := by
 intro a0 a1 a2 a3 k
 obtain ⟨ih0, ih1, ih2, ih3, ih4⟩ := spec_SwapNeeds.mono_l k
 unfold spec_SwapNeeds.f
 repeat' first
   | (with_reducible exact ih0 _ _ _ _ _)
   | (with_reducible exact ih1 _ _ _ _ _ _)
   | (with_reducible exact ih2 _ _ _ _ _ _ _)
   | (with_reducible exact ih3 _ _ _ _ _ _ _)
   | (with_reducible exact ih4 _ _ _ _ _ _ _)
   | (with_reducible exact spec_SwapsValid.mono _ _ _)
   | (with_reducible exact spec_l15Has.mono _ _ _)
   | (with_reducible exact spec_l15Needs.mono _ _ _)
   | (with_reducible exact spec_l5Find.mono _ _ _)
   | (with_reducible exact LeO.refl _)
   | (with_reducible exact LeO.none _)
   | (with_reducible refine LeO.ite ?_ ?_)
   | (with_reducible refine LeO.bind ?_ (fun _ => ?_))
   | exact ih0 _ _ _ _ _
   | exact ih1 _ _ _ _ _ _
   | exact ih2 _ _ _ _ _ _ _
   | exact ih3 _ _ _ _ _ _ _
   | exact ih4 _ _ _ _ _ _ _
   | exact spec_SwapsValid.mono _ _ _
   | exact spec_l15Has.mono _ _ _
   | exact spec_l15Needs.mono _ _ _
   | exact spec_l5Find.mono _ _ _
   | exact LeO.none _
   | refine LeO.ite ?_ ?_
   | refine LeO.bind ?_ (fun _ => ?_)
def spec_SwapNeeds.T9 : Bool × List (List Nat × List Nat) := (true, [([], []), ([], []), ([1], [1]), ([0, 2], [0, 2]), ([3], [3]), ([4], [4]), ([4], [4]), ([5, 6, 4], [4, 5, 6]), ([7, 4], [4, 7]), ([8, 4], [4, 8]), ([4], [4]), ([4], [4]), ([10, 11, 4], [4, 10, 11]), ([12, 4], [4, 12]), ([13, 4], [4, 13]), ([9, 14, 4], [4, 9, 14]), ([15, 4, 4], [4, 15]), ([16], [16]), ([16], [16]), ([16], [16]), ([18, 19, 16], [16, 18, 19]), ([20, 16], [16, 20]), ([21, 16], [16, 21]), ([17, 22, 16, 16], [16, 17, 22]), ([16, 23, 4], [4, 16, 23]), ([4, 24], [4, 24])])
def spec_SwapNeeds.B9 : List Nat := [0, 0, 2, 7, 15, 31, 31, 127, 255, 511, 31, 31, 3103, 7199, 15391, 32767, 65535, 131071, 131071, 131071, 917503, 1966079, 4063231, 8388607, 16777215, 33554431]
theorem spec_SwapNeeds.tab9 : rtab .any (opsOf Try.f42 9) = spec_SwapNeeds.T9 := by kernel_rfl
theorem spec_SwapNeeds.bits9 : waitsOk spec_SwapNeeds.T9.2 spec_SwapNeeds.B9 = true := by kernel_rfl
def spec_SwapNeeds.T15 : Bool × List (List Nat × List Nat) := (true, [([], []), ([], []), ([], []), ([], []), ([2, 3], [2, 3]), ([4], [4]), ([], []), ([], []), ([6, 7], [6, 7]), ([8], [8]), ([], []), ([], []), ([10, 11], [10, 11]), ([12], [12]), ([13], [13]), ([9, 14], [9, 14]), ([], []), ([], []), ([16, 17], [16, 17]), ([18], [18]), ([19], [19]), ([15, 20], [15, 20]), ([5, 21], [5, 21]), ([0, 1, 0, 1, 2, 3, 4, 5, 6, 7, 8, 9, 10, 11, 12, 13, 14, 15, 16, 17, 18, 19, 20, 21, 22], [0, 1]), ([23, 22, 21, 0, 1, 2, 3, 4, 5, 6, 7, 8, 9, 10, 11, 12, 13, 14, 15, 16, 17, 18, 19, 20, 21, 22], [22, 23])])
def spec_SwapNeeds.B15 : List Nat := [0, 0, 0, 0, 12, 28, 0, 0, 192, 448, 0, 0, 3072, 7168, 15360, 32704, 0, 0, 196608, 458752, 983040, 2097088, 4194300, 8388607, 16777215]
theorem spec_SwapNeeds.tab15 : rtab .any (opsOf Try.f42 15) = spec_SwapNeeds.T15 := by kernel_rfl
theorem spec_SwapNeeds.bits15 : waitsOk spec_SwapNeeds.T15.2 spec_SwapNeeds.B15 = true := by kernel_rfl
set_option maxHeartbeats 8000000 in
set_option maxRecDepth 100000 in
theorem spec_SwapNeeds.calls (k : Nat) (A0 : Option Addr) (c0 : Nat) (l0 : List (S41)) (A1 : Option Addr) (c1 : Nat) (l1 : List (S62)) (A2 : Option Addr) (c2 : Nat) (l2 : List Int) (A3 : Option Addr) (c3 : Nat) (l3 : List Int) (r1 : List Int) (r2 : Bool) (w : World) (hr0 : Kd.C k41 w A0 l0.length l0) (hc0 : l0.length ≤ c0) (hr1 : Kd.C k62 w A1 l1.length l1) (hc1 : l1.length ≤ c1) (hr2 : Kd.C (Kd.int .i64) w A2 l2.length l2) (hc2 : l2.length ≤ c2) (hr3 : Kd.C (Kd.int .i64) w A3 l3.length l3) (hc3 : l3.length ≤ c3) (h : spec_SwapNeeds.f k l0 l1 l2 l3 = some (r1, r2)) :
  Calls Try.prog 42 #[.slice A0 l0.length c0, .slice A1 l1.length c1, .slice A2 l2.length c2, .slice A3 l3.length c3] w fun e w' => ∃ v0_ : Value, e = .returned (.tuple #[v0_, .bool r2]) ∧ Kd.R (Kd.int .i64) 3 w' w.heap.size (fun _ => True) v0_ r1 ∧ Below w.heap.size w w' := by
 have HR0 := Aside0.mk hr0
 have HC0 := Aside0.mk hc0
 clear hr0 hc0
 have HR1 := Aside0.mk hr1
 have HC1 := Aside0.mk hc1
 clear hr1 hc1
 have HR2 := Aside0.mk hr2
 have HC2 := Aside0.mk hc2
 clear hr2 hc2
 have HR3 := Aside0.mk hr3
 have HC3 := Aside0.mk hc3
 clear hr3 hc3
 have HB := Aside0.mk (Below.refl w.heap.size w)
 have H : ((spec_SwapsValid.f k l0 l1).bind fun t582 => (if t582 = true then ((spec_l15Needs.f k l1 l2).bind fun t583 => (spec_SwapNeeds.j0 k l0 l1 l2 l3 (!t583))) else (spec_SwapNeeds.j0 k l0 l1 l2 l3 true))) = some (r1, r2) := h
 clear h
 have HC5 := Aside0.mk H
 clear H
 go_enter Try.func42, Try.ntmps42
 go_upto_region 1 with (fail)
 go_cut [23] (fun v23 wc => ∃ (kq : Nat) (x23_4 : Bool), v23 = .bool x23_4 ∧ Aside0 (spec_SwapNeeds.j0 kq l0 l1 l2 l3 x23_4 = some (r1, r2)) ∧ Aside0 (kq ≤ k) ∧ Aside0 (Below w.heap.size w wc))
 case first =>
  have H := HC5.out
  clear HC5
  replace H := Option.bind_eq_some_iff.mp H
  obtain ⟨t582, A60, H⟩ := H
  replace H : (if t582 = true then ((spec_l15Needs.f k l1 l2).bind fun t583 => (spec_SwapNeeds.j0 k l0 l1 l2 l3 (!t583))) else (spec_SwapNeeds.j0 k l0 l1 l2 l3 true)) = some (r1, r2) := H
  have A6 := Aside0.mk A60
  clear A60
  by_cases c7 : t582 = true
  ·subst c7
   have H1 : ((spec_l15Needs.f k l1 l2).bind fun t583 => (spec_SwapNeeds.j0 k l0 l1 l2 l3 (!t583))) = some (r1, r2) := by rw [if_pos rfl] at H; exact H
   clear H
   have H := H1
   clear H1
   replace H := Option.bind_eq_some_iff.mp H
   obtain ⟨t583, A80, H⟩ := H
   replace H : (spec_SwapNeeds.j0 k l0 l1 l2 l3 (!t583)) = some (r1, r2) := H
   have A8 := Aside0.mk A80
   clear A80
   have H' := Aside0.mk H
   clear H
   go_wp2_with (first | ((with_reducible refine gate_callee (f := 25) rfl ?_); refine goesL_ (some 16) rfl rfl Try.func25 pL rfl #[.slice A0 l0.length c0, .slice A1 l1.length c1] rfl pM ?_; (with_reducible refine (spec_SwapsValid.calls k _ _ l0 _ _ l1 true _ ?side1 ?side2 ?side3 ?side4 A6.out).mono ?_); (case side1 => exact pS ((Kd.C_below HR0.out HB.out))); (case side2 => exact HC0.out); (case side3 => exact pS ((Kd.C_below HR1.out HB.out))); (case side4 => exact HC1.out); rintro e w9 ⟨rfl, hb⟩; refine ⟨_, rfl, ?_⟩; have n0_ := Aside0.mk (below_step pB hb); clear HB; have HB := n0_; clear n0_; (try clear hb); (try clear hb2); (try clear hk); (try clear hi)) | (go_at_call 44; (with_reducible refine (spec_l15Needs.calls k _ _ l1 _ _ l2 t583 _ ?side1 ?side2 ?side3 ?side4 A8.out).mono ?_); (case side1 => exact pS ((Kd.C_below HR1.out HB.out))); (case side2 => exact HC1.out); (case side3 => exact pS ((Kd.C_below HR2.out HB.out))); (case side4 => exact HC2.out); rintro e w10 ⟨rfl, hb⟩; have n0_ := Aside0.mk (below_step pB hb); clear HB; have HB := n0_; clear n0_; (try clear hb); (try clear hb2); (try clear hk); (try clear hi)))
   go_meet
   case rel => exact ⟨_, (!t583), pF, H', ⟨by first | omega | exact Nat.le_refl _⟩, ⟨pB⟩⟩
  ·replace c7 := Bool.eq_false_iff.mpr c7
   subst c7
   have H1 : (spec_SwapNeeds.j0 k l0 l1 l2 l3 true) = some (r1, r2) := by rw [if_neg (show ¬ (false = true) by decide)] at H; exact H
   clear H
   have H := H1
   clear H1
   have H' := Aside0.mk H
   clear H
   go_wp2_with (first | ((with_reducible refine gate_callee (f := 25) rfl ?_); refine goesL_ (some 16) rfl rfl Try.func25 pL rfl #[.slice A0 l0.length c0, .slice A1 l1.length c1] rfl pM ?_; (with_reducible refine (spec_SwapsValid.calls k _ _ l0 _ _ l1 false _ ?side1 ?side2 ?side3 ?side4 A6.out).mono ?_); (case side1 => exact pS ((Kd.C_below HR0.out HB.out))); (case side2 => exact HC0.out); (case side3 => exact pS ((Kd.C_below HR1.out HB.out))); (case side4 => exact HC1.out); rintro e w11 ⟨rfl, hb⟩; refine ⟨_, rfl, ?_⟩; have n0_ := Aside0.mk (below_step pB hb); clear HB; have HB := n0_; clear n0_; (try clear hb); (try clear hb2); (try clear hk); (try clear hi)))
   go_meet
   case rel => exact ⟨_, (true), pF, H', ⟨by first | omega | exact Nat.le_refl _⟩, ⟨pB⟩⟩
 case rest =>
  clear HC5
  try clear c1
  try clear c2
  try clear p2
  try clear c3
  try clear c4
  try clear c7
  obtain ⟨kq, x23_4, rfl, HA, HJ4, HB⟩ := hcut
  cases kq with
  | zero => exact absurd HA.out (by simp [spec_SwapNeeds.j0])
  | succ kj4 =>
   have H := HA.out
   clear HA
   simp only [spec_SwapNeeds.j0] at H
   by_cases c12 : x23_4 = true
   ·subst c12
    have H1 : (some ((([] : List Int)), false)) = some (r1, r2) := by rw [if_pos rfl] at H; exact H
    clear H
    have H := H1
    clear H1
    obtain ⟨y584, hy584⟩ : ∃ y_ : List Int, y_ = (([] : List Int)) := ⟨_, rfl⟩
    replace H : (some (y584, false)) = some (r1, r2) := by first | (rw [hy584]; with_reducible exact H) | (have H2_ := (Option.bind_some _ _).symm.trans H; rw [hy584]; with_reducible exact H2_) | (have H2_ := (Option.bind_some _ _).symm.trans H; with_reducible exact H2_) | with_reducible exact H | (rw [hy584]; exact H) | exact H
    have Ny584 := Aside0.mk hy584
    clear hy584
    simp only [Option.some.injEq, Prod.mk.injEq] at H
    obtain ⟨rfl, rfl⟩ := H
    go_wp2_with (first | ((with_reducible refine gate_dst (N := 24) rfl ?_); refine Kd.R_lit (Kd.int .i64) _ 3 ?hg (N := 24) ?hd (xs := ([] : List Int)) (inner := []) (ok := fun _ => True) (okp := fun _ => True) ?hr ?hp (fun _ hk => hk) trivial (Below.refl _ _) (Nat.le_refl _) (by simp) ?_; (case hd => rfl); (case hg => rfl); (case hr => first | (go_simp; done) | (go_simp; rfl)); (case hp => exact (Reps.none _ _)); intro v585 w13 ho14 hb hg_ hnew_; clear hg_ hnew_; (first | rw [← Ny584.out] at ho14 | (simp only [Int.reduceToNat] at ho14; rw [← Ny584.out] at ho14)); have n0_ := Aside0.mk (Kd.R_lower ho14 (below_size pB)); have n1_ := Aside0.mk (below_step pB hb); clear HB; have HO586 := n0_; have HB := n1_; clear n0_ n1_; clear hb ho14))
    go_ret2
    exact ⟨_, pE, pR HO586, pB⟩
   ·replace c12 := Bool.eq_false_iff.mpr c12
    subst c12
    have H1 : ((some (([] : List Int) : List Int)).bind fun y587 => (if y587.length + l2.length < 17592186044416 then (spec_SwapNeeds.l0 kj4 l0 l1 l2 l3 (y587 ++ l2) 0) else (none))) = some (r1, r2) := by rw [if_neg (show ¬ (false = true) by decide)] at H; exact H
    clear H
    have H := H1
    clear H1
    obtain ⟨y587, hy587⟩ : ∃ y_ : List Int, y_ = (([] : List Int)) := ⟨_, rfl⟩
    replace H : (if y587.length + l2.length < 17592186044416 then (spec_SwapNeeds.l0 kj4 l0 l1 l2 l3 (y587 ++ l2) 0) else (none)) = some (r1, r2) := by first | (rw [hy587]; with_reducible exact H) | (have H2_ := (Option.bind_some _ _).symm.trans H; rw [hy587]; with_reducible exact H2_) | (have H2_ := (Option.bind_some _ _).symm.trans H; with_reducible exact H2_) | with_reducible exact H | (rw [hy587]; exact H) | exact H
    have Ny587 := Aside0.mk hy587
    clear hy587
    by_cases c15 : y587.length + l2.length < 17592186044416
    ·rw [if_pos c15] at H
     have LMc15 := Aside0.mk c15
     clear c15
     obtain ⟨y590, hy590⟩ : ∃ y_ : List Int, y_ = (y587 ++ l2) := ⟨_, rfl⟩
     replace H : (spec_SwapNeeds.l0 kj4 l0 l1 l2 l3 y590 0) = some (r1, r2) := by first | (rw [hy590]; with_reducible exact H) | (have H2_ := (Option.bind_some _ _).symm.trans H; rw [hy590]; with_reducible exact H2_) | (have H2_ := (Option.bind_some _ _).symm.trans H; with_reducible exact H2_) | with_reducible exact H | (rw [hy590]; exact H) | exact H
     have Ny590 := Aside0.mk hy590
     clear hy590
     have H' := Aside0.mk H
     clear H
     go_wp2_with (first | ((with_reducible refine gate_dst (N := 25) rfl ?_); refine Kd.R_lit (Kd.int .i64) _ 3 ?hg (N := 25) ?hd (xs := ([] : List Int)) (inner := []) (ok := fun _ => True) (okp := fun _ => True) ?hr ?hp (fun _ hk => hk) trivial (Below.refl _ _) (Nat.le_refl _) (by simp) ?_; (case hd => rfl); (case hg => rfl); (case hr => first | (go_simp; done) | (go_simp; rfl)); (case hp => exact (Reps.none _ _)); intro v588 w16 ho17 hb hg_ hnew_; clear hg_ hnew_; (first | rw [← Ny587.out] at ho17 | (simp only [Int.reduceToNat] at ho17; rw [← Ny587.out] at ho17)); have n0_ := Aside0.mk (Kd.R_lower ho17 (below_size pB)); have n1_ := Aside0.mk (below_step pB hb); clear HB; have HO589 := n0_; have HB := n1_; clear n0_ n1_; clear hb ho17) | ((with_reducible refine gate_builtin (b := .append) (xs := #[.tmp 25, .tmp 26]) rfl ?_); at_builtin; refine Kd.R_append_rows (Kd.int .i64) (w0 := w) w.heap.size rfl (.tmp 25) (.tmp 26) 23 3 (.int .i64 0) 8 rfl Try.underlying23 info3 rfl (by decide) (by omega) v588 y587 l2 _ _ _ (fun _ => True) (fun _ => False) rfl rfl ?aO ?aR (fun _ _ h => h) (fun _ h => h.elim) ?aF ?aB ?aS ?aL ?_; (case aR => exact pS ((Kd.C_below HR2.out HB.out))); (case aB => exact pB); (case aF => exact (fun _ _ => trivial)); (case aO => exact (pR HO589)); (case aS => exact (below_size pB)); (case aL => have := LMc15.out; omega); intro v591 w18 ho hb hg hat; rw [← Ny590.out] at ho; have n0_ := Aside0.mk (hb); have n1_ := Aside0.mk (ho); clear HB; clear HO589; have HB := n0_; have HO592 := n1_; clear n0_ n1_; clear ho hb hg hat))
     go_loopg [11] kj4 (fun kq v11 w' => ∃ (x10_2 : List Int) (x11_2 : Int), v11 = .int .i64 x11_2 ∧ Aside0 (spec_SwapNeeds.l0 kq l0 l1 l2 l3 x10_2 x11_2 = some (r1, r2)) ∧ Aside0 (kq ≤ kj4) ∧ Aside0 (Kd.R (Kd.int .i64) 3 w' w.heap.size (fun _ => True) v591 x10_2) ∧ Aside0 (Below w.heap.size w w'))
     case atStart => exact ⟨(y590), (0), pF, H', ⟨Nat.le_refl _⟩, ⟨pR HO592⟩, ⟨pB⟩⟩
     case round =>
      clear H'
      try clear c1
      try clear c2
      try clear p2
      try clear c3
      try clear c4
      try clear c7
      try clear c12
      try clear c15
      try clear p2
      obtain ⟨x10_2, x11_2, rfl, HA, HK2, HO_10, HB⟩ := hrel
      cases gk with
      | zero => exact absurd HA.out (by simp [spec_SwapNeeds.l0])
      | succ k2 =>
       have H := HA.out
       clear HA
       simp only [spec_SwapNeeds.l0] at H
       by_cases c19 : x11_2 < (l1.length : Int)
       ·rw [if_pos c19] at H
        have c19b0 : decide (x11_2 < (l1.length : Int)) = true := decide_eq_true c19
        clear c19
        have HC20 := Aside0.mk H
        clear H
        go_upto_region 7 with (fail)
        go_cut [47] (fun v47 wc => ∃ (kq : Nat) (x47_19 : Bool), v47 = .bool x47_19 ∧ Aside0 (spec_SwapNeeds.j2 kq l0 l1 l2 l3 x10_2 x11_2 x47_19 = some (r1, r2)) ∧ Aside0 (kq ≤ k2) ∧ Aside0 (Kd.R (Kd.int .i64) 3 wc w.heap.size (fun _ => True) v591 x10_2) ∧ Aside0 (Below w.heap.size w wc))
        case first =>
         have H := HC20.out
         clear HC20
         by_cases c21 : 0 ≤ x11_2
         ·rw [if_pos c21] at H
          have c21b0 : decide (0 ≤ x11_2) = true := decide_eq_true c21
          clear c21
          (first | rw [c21b0] | (simp only [i64_w, i32_w]; rw [c21b0]) | skip)
          replace H := Option.bind_eq_some_iff.mp H
          obtain ⟨t598, A220, H⟩ := H
          replace H : (if t598 = true then (if x11_2 < (l2.length : Int) then (spec_SwapNeeds.j2 k2 l0 l1 l2 l3 x10_2 x11_2 (decide ((rd l2 x11_2) > 0))) else (none)) else (spec_SwapNeeds.j2 k2 l0 l1 l2 l3 x10_2 x11_2 false)) = some (r1, r2) := H
          have A22 := Aside0.mk A220
          clear A220
          by_cases c23 : t598 = true
          ·subst c23
           have H1 : (if x11_2 < (l2.length : Int) then (spec_SwapNeeds.j2 k2 l0 l1 l2 l3 x10_2 x11_2 (decide ((rd l2 x11_2) > 0))) else (none)) = some (r1, r2) := by rw [if_pos rfl] at H; exact H
           clear H
           have H := H1
           clear H1
           by_cases c24 : x11_2 < (l2.length : Int)
           ·rw [if_pos c24] at H
            have c24b0 : decide (x11_2 < (l2.length : Int)) = true := decide_eq_true c24
            clear c24
            have H' := Aside0.mk H
            clear H
            have p597 : 0 ≤ (x11_2 : Int) := of_decide_eq_true pA
            have q597 : x11_2 < (l1.length : Int) := of_decide_eq_true pA
            obtain ⟨ad597, e597, hx597_0, hx597_1, hx597_2, hx597_3, hx597_4, hx597_5⟩ := at_T62 HR1.out x11_2 p597 q597
            cases e597
            replace hx597_0 := (HB.out.cell (World.block_lt_of_cell? w _ hx597_0)).trans hx597_0
            replace hx597_1 := (HB.out.cell (World.block_lt_of_cell? w _ hx597_1)).trans hx597_1
            replace hx597_2 := (HB.out.cell (World.block_lt_of_cell? w _ hx597_2)).trans hx597_2
            replace hx597_3 := (HB.out.cell (World.block_lt_of_cell? w _ hx597_3)).trans hx597_3
            replace hx597_4 := (HB.out.cell (World.block_lt_of_cell? w _ hx597_4)).trans hx597_4
            replace hx597_5 := (HB.out.cell (World.block_lt_of_cell? w _ hx597_5)).trans hx597_5
            replace p597 := eq_true p597
            replace q597 := eq_true q597
            go_wp2_with (first | ((with_reducible refine gate_callee (f := 68) rfl ?_); refine goesL_ (some 40) rfl rfl Try.func68 pL rfl #[.slice A3 l3.length c3, .int .i64 ((rd_T62 l1 x11_2).f0)] rfl pM ?_; (with_reducible refine (spec_l15Has.calls k2 _ _ l3 ((rd_T62 l1 x11_2).f0) true _ ?side1 ?side2 A22.out).mono ?_); (case side1 => exact pS ((Kd.C_below HR3.out HB.out))); (case side2 => exact HC3.out); rintro e w' ⟨rfl, ⟨nd, rfl⟩⟩; refine ⟨_, rfl, ?_⟩; have p599 : 0 ≤ (x11_2 : Int) := of_decide_eq_true pA; have q599 : x11_2 < (l2.length : Int) := of_decide_eq_true pA; obtain ⟨ad599, e599, hx599_0⟩ := Kd.at_int HR2.out x11_2 p599 q599; cases e599; replace hx599_0 := (HB.out.cell (World.block_lt_of_cell? w _ hx599_0)).trans hx599_0; replace p599 := eq_true p599; replace q599 := eq_true q599))
            go_meet
            case rel => exact ⟨_, (decide ((rd l2 x11_2) > 0)), pF, H', ⟨by have := HJ4.out; have := HK2.out; first | omega | exact Nat.le_refl _⟩, ⟨pR HO_10⟩, ⟨pB⟩⟩
           ·rw [if_neg c24] at H
            exact absurd H (by simp)
          ·replace c23 := Bool.eq_false_iff.mpr c23
           subst c23
           have H1 : (spec_SwapNeeds.j2 k2 l0 l1 l2 l3 x10_2 x11_2 false) = some (r1, r2) := by rw [if_neg (show ¬ (false = true) by decide)] at H; exact H
           clear H
           have H := H1
           clear H1
           have H' := Aside0.mk H
           clear H
           have p597 : 0 ≤ (x11_2 : Int) := of_decide_eq_true pA
           have q597 : x11_2 < (l1.length : Int) := of_decide_eq_true pA
           obtain ⟨ad597, e597, hx597_0, hx597_1, hx597_2, hx597_3, hx597_4, hx597_5⟩ := at_T62 HR1.out x11_2 p597 q597
           cases e597
           replace hx597_0 := (HB.out.cell (World.block_lt_of_cell? w _ hx597_0)).trans hx597_0
           replace hx597_1 := (HB.out.cell (World.block_lt_of_cell? w _ hx597_1)).trans hx597_1
           replace hx597_2 := (HB.out.cell (World.block_lt_of_cell? w _ hx597_2)).trans hx597_2
           replace hx597_3 := (HB.out.cell (World.block_lt_of_cell? w _ hx597_3)).trans hx597_3
           replace hx597_4 := (HB.out.cell (World.block_lt_of_cell? w _ hx597_4)).trans hx597_4
           replace hx597_5 := (HB.out.cell (World.block_lt_of_cell? w _ hx597_5)).trans hx597_5
           replace p597 := eq_true p597
           replace q597 := eq_true q597
           go_wp2_with (first | ((with_reducible refine gate_callee (f := 68) rfl ?_); refine goesL_ (some 40) rfl rfl Try.func68 pL rfl #[.slice A3 l3.length c3, .int .i64 ((rd_T62 l1 x11_2).f0)] rfl pM ?_; (with_reducible refine (spec_l15Has.calls k2 _ _ l3 ((rd_T62 l1 x11_2).f0) false _ ?side1 ?side2 A22.out).mono ?_); (case side1 => exact pS ((Kd.C_below HR3.out HB.out))); (case side2 => exact HC3.out); rintro e w' ⟨rfl, ⟨nd, rfl⟩⟩; refine ⟨_, rfl, ?_⟩))
           go_meet
           case rel => exact ⟨_, (false), pF, H', ⟨by have := HJ4.out; have := HK2.out; first | omega | exact Nat.le_refl _⟩, ⟨pR HO_10⟩, ⟨pB⟩⟩
         ·rw [if_neg c21] at H
          exact absurd H (by simp)
        case rest =>
         clear HC20
         try clear c1
         try clear c2
         try clear p2
         try clear c3
         try clear c4
         try clear p5
         try clear q5
         try clear hx5
         try clear c6
         try clear c7
         try clear c12
         try clear c15
         try clear c19
         try clear c19b0
         try clear c21
         try clear c21b0
         try clear c23
         try clear c24
         try clear c24b0
         try clear hx597_0
         try clear hx597_1
         try clear hx597_2
         try clear hx597_3
         try clear hx597_4
         try clear hx597_5
         try clear hx599_0
         try clear p2
         try clear p597
         try clear p599
         try clear q597
         try clear q599
         obtain ⟨kq, x47_19, rfl, HA, HJ19, HO_10, HB⟩ := hcut
         cases kq with
         | zero => exact absurd HA.out (by simp [spec_SwapNeeds.j2])
         | succ kj19 =>
          have H := HA.out
          clear HA
          simp only [spec_SwapNeeds.j2] at H
          by_cases c25 : x47_19 = true
          ·subst c25
           have H1 : (spec_SwapNeeds.l1 kj19 l0 l1 l2 l3 x10_2 x11_2 0) = some (r1, r2) := by rw [if_pos rfl] at H; exact H
           clear H
           have H := H1
           clear H1
           have HC26 := Aside0.mk H
           clear H
           go_upto_block 2 with (fail)
           go_cut [12] (fun v12 wc => ∃ (kq : Nat) (x12_25 : Int), v12 = .int .i64 x12_25 ∧ Aside0 (spec_SwapNeeds.j4 kq l0 l1 l2 l3 x10_2 x11_2 x12_25 = some (r1, r2)) ∧ Aside0 (kq ≤ kj19) ∧ Aside0 (Kd.R (Kd.int .i64) 3 wc w.heap.size (fun _ => True) v591 x10_2) ∧ Aside0 (Below w.heap.size w wc))
           case first =>
            have H := HC26.out
            clear HC26
            have H' := Aside0.mk H
            clear H
            go_wp2
            go_loopg [12] kj19 (fun kq v12 w' => ∃ (x12_4 : Int), v12 = .int .i64 x12_4 ∧ Aside0 (spec_SwapNeeds.l1 kq l0 l1 l2 l3 x10_2 x11_2 x12_4 = some (r1, r2)) ∧ Aside0 (kq ≤ kj19) ∧ Aside0 (Kd.R (Kd.int .i64) 3 w' w.heap.size (fun _ => True) v591 x10_2) ∧ Aside0 (Below w.heap.size w w'))
            case atStart => exact ⟨(0), pF, H', ⟨Nat.le_refl _⟩, ⟨pR HO_10⟩, ⟨pB⟩⟩
            case round =>
             clear H'
             try clear c1
             try clear c2
             try clear p2
             try clear c3
             try clear c4
             try clear p5
             try clear q5
             try clear hx5
             try clear c6
             try clear c7
             try clear c12
             try clear c15
             try clear c19
             try clear c19b0
             try clear c21
             try clear c21b0
             try clear c23
             try clear c24
             try clear c24b0
             try clear c25
             try clear hx597_0
             try clear hx597_1
             try clear hx597_2
             try clear hx597_3
             try clear hx597_4
             try clear hx597_5
             try clear hx599_0
             try clear p2
             try clear p5
             try clear p597
             try clear p599
             try clear q5
             try clear q597
             try clear q599
             obtain ⟨x12_4, rfl, HA, HK4, HO_10, HB⟩ := hrel
             cases gk with
             | zero => exact absurd HA.out (by simp [spec_SwapNeeds.l1])
             | succ k4 =>
              have H := HA.out
              clear HA
              simp only [spec_SwapNeeds.l1] at H
              by_cases c27 : x12_4 < (l0.length : Int)
              ·rw [if_pos c27] at H
               have c27b0 : decide (x12_4 < (l0.length : Int)) = true := decide_eq_true c27
               clear c27
               (first | rw [c27b0] | (simp only [i64_w, i32_w]; rw [c27b0]) | skip)
               by_cases c28 : 0 ≤ x12_4
               ·rw [if_pos c28] at H
                have c28b0 : decide (0 ≤ x12_4) = true := decide_eq_true c28
                clear c28
                by_cases c29 : 0 ≤ x11_2
                ·rw [if_pos c29] at H
                 have c29b0 : decide (0 ≤ x11_2) = true := decide_eq_true c29
                 clear c29
                 by_cases c30 : x11_2 < (l1.length : Int)
                 ·rw [if_pos c30] at H
                  have c30b0 : decide (x11_2 < (l1.length : Int)) = true := decide_eq_true c30
                  clear c30
                  by_cases c31 : ((rd_T41 l0 x12_4).f0) = ((rd_T62 l1 x11_2).f0)
                  ·rw [if_pos c31] at H
                   have c31b0 : (((rd_T41 l0 x12_4).f0) == ((rd_T62 l1 x11_2).f0)) = true := beq_iff_eq.mpr c31
                   have c31b1 : (((rd_T41 l0 x12_4).f0) != ((rd_T62 l1 x11_2).f0)) = false := bne_eq_false_iff_eq.mpr c31
                   clear c31
                   replace H := Option.bind_eq_some_iff.mp H
                   obtain ⟨t603, A320, H⟩ := H
                   replace H : (if t603 = true then (spec_SwapNeeds.l1 k4 l0 l1 l2 l3 x10_2 x11_2 (wrap64 (x12_4 + 1))) else (spec_SwapNeeds.j4 k4 l0 l1 l2 l3 x10_2 x11_2 x12_4)) = some (r1, r2) := H
                   have A32 := Aside0.mk A320
                   clear A320
                   by_cases c33 : t603 = true
                   ·subst c33
                    have H1 : (spec_SwapNeeds.l1 k4 l0 l1 l2 l3 x10_2 x11_2 (wrap64 (x12_4 + 1))) = some (r1, r2) := by rw [if_pos rfl] at H; exact H
                    clear H
                    have H := H1
                    clear H1
                    have H' := Aside0.mk H
                    clear H
                    try go_wp2
                    have n0_ := Aside0.mk (Kd.R_drew HO_10.out)
                    have n1_ := Aside0.mk (below_drew1 HB.out)
                    clear HO_10
                    clear HB
                    have HO_10 := n0_
                    have HB := n1_
                    clear n0_ n1_
                    have p600 : 0 ≤ (x12_4 : Int) := of_decide_eq_true pA
                    have q600 : x12_4 < (l0.length : Int) := of_decide_eq_true pA
                    obtain ⟨ad600, e600, hx600_0, hx600_1, hx600_2, hx600_3⟩ := at_T41 HR0.out x12_4 p600 q600
                    have hw600_3 := hx600_3
                    have hw600_2 := hx600_2
                    have hw600_1 := hx600_1
                    have hw600_0 := hx600_0
                    cases e600
                    replace hx600_0 := (HB.out.cell (World.block_lt_of_cell? w _ hx600_0)).trans hx600_0
                    replace hx600_1 := (HB.out.cell (World.block_lt_of_cell? w _ hx600_1)).trans hx600_1
                    replace hx600_2 := (HB.out.cell (World.block_lt_of_cell? w _ hx600_2)).trans hx600_2
                    replace hx600_3 := (HB.out.cell (World.block_lt_of_cell? w _ hx600_3)).trans hx600_3
                    replace p600 := eq_true p600
                    replace q600 := eq_true q600
                    have p601 : 0 ≤ (x11_2 : Int) := of_decide_eq_true pA
                    have q601 : x11_2 < (l1.length : Int) := of_decide_eq_true pA
                    obtain ⟨ad601, e601, hx601_0, hx601_1, hx601_2, hx601_3, hx601_4, hx601_5⟩ := at_T62 HR1.out x11_2 p601 q601
                    have hw601_5 := hx601_5
                    have hw601_4 := hx601_4
                    have hw601_3 := hx601_3
                    have hw601_2 := hx601_2
                    have hw601_1 := hx601_1
                    have hw601_0 := hx601_0
                    cases e601
                    replace hx601_0 := (HB.out.cell (World.block_lt_of_cell? w _ hx601_0)).trans hx601_0
                    replace hx601_1 := (HB.out.cell (World.block_lt_of_cell? w _ hx601_1)).trans hx601_1
                    replace hx601_2 := (HB.out.cell (World.block_lt_of_cell? w _ hx601_2)).trans hx601_2
                    replace hx601_3 := (HB.out.cell (World.block_lt_of_cell? w _ hx601_3)).trans hx601_3
                    replace hx601_4 := (HB.out.cell (World.block_lt_of_cell? w _ hx601_4)).trans hx601_4
                    replace hx601_5 := (HB.out.cell (World.block_lt_of_cell? w _ hx601_5)).trans hx601_5
                    replace p601 := eq_true p601
                    replace q601 := eq_true q601
                    have p602 : 0 ≤ (x12_4 : Int) := of_decide_eq_true pA
                    have q602 : x12_4 < (l0.length : Int) := of_decide_eq_true pA
                    obtain ⟨ad602, e602, hx602_0, hx602_1, hx602_2, hx602_3⟩ := at_T41 HR0.out x12_4 p602 q602
                    have hw602_3 := hx602_3
                    have hw602_2 := hx602_2
                    have hw602_1 := hx602_1
                    have hw602_0 := hx602_0
                    obtain rfl : ad600 = ad602 := (by injection e602)
                    replace hx602_0 := (HB.out.cell (World.block_lt_of_cell? w _ hx602_0)).trans hx602_0
                    replace hx602_1 := (HB.out.cell (World.block_lt_of_cell? w _ hx602_1)).trans hx602_1
                    replace hx602_2 := (HB.out.cell (World.block_lt_of_cell? w _ hx602_2)).trans hx602_2
                    replace hx602_3 := (HB.out.cell (World.block_lt_of_cell? w _ hx602_3)).trans hx602_3
                    replace p602 := eq_true p602
                    replace q602 := eq_true q602
                    refine start_ (n := 26) (S := fun w' => w'.cell? (ad600.add ((x12_4).toNat * 4)) = some (.int .i64 ((rd_T41 l0 x12_4).f0)) ∧ w'.cell? ⟨(ad600.add ((x12_4).toNat * 4)).block, (ad600.add ((x12_4).toNat * 4)).off + 1, none⟩ = some (.int .i64 ((rd_T41 l0 x12_4).f1)) ∧ w'.cell? ⟨(ad600.add ((x12_4).toNat * 4)).block, (ad600.add ((x12_4).toNat * 4)).off + 2, none⟩ = some (.int .i64 ((rd_T41 l0 x12_4).f2)) ∧ w'.cell? ⟨(ad600.add ((x12_4).toNat * 4)).block, (ad600.add ((x12_4).toNat * 4)).off + 3, none⟩ = some (.int .i64 ((rd_T41 l0 x12_4).f3)) ∧ w'.cell? (ad601.add ((x11_2).toNat * 6)) = some (.int .i64 ((rd_T62 l1 x11_2).f0)) ∧ w'.cell? ⟨(ad601.add ((x11_2).toNat * 6)).block, (ad601.add ((x11_2).toNat * 6)).off + 1, none⟩ = some (.int .i64 ((rd_T62 l1 x11_2).f1)) ∧ w'.cell? ⟨(ad601.add ((x11_2).toNat * 6)).block, (ad601.add ((x11_2).toNat * 6)).off + 2, none⟩ = some (.int .i64 ((rd_T62 l1 x11_2).f2)) ∧ w'.cell? ⟨(ad601.add ((x11_2).toNat * 6)).block, (ad601.add ((x11_2).toNat * 6)).off + 3, none⟩ = some (.int .i64 ((rd_T62 l1 x11_2).f3)) ∧ w'.cell? ⟨(ad601.add ((x11_2).toNat * 6)).block, (ad601.add ((x11_2).toNat * 6)).off + 4, none⟩ = some (.int .i64 ((rd_T62 l1 x11_2).f4)) ∧ w'.cell? ⟨(ad601.add ((x11_2).toNat * 6)).block, (ad601.add ((x11_2).toNat * 6)).off + 5, none⟩ = some (.int .i64 ((rd_T62 l1 x11_2).f5)) ∧ w'.cell? (ad600.add ((x12_4).toNat * 4)) = some (.int .i64 ((rd_T41 l0 x12_4).f0)) ∧ w'.cell? ⟨(ad600.add ((x12_4).toNat * 4)).block, (ad600.add ((x12_4).toNat * 4)).off + 1, none⟩ = some (.int .i64 ((rd_T41 l0 x12_4).f1)) ∧ w'.cell? ⟨(ad600.add ((x12_4).toNat * 4)).block, (ad600.add ((x12_4).toNat * 4)).off + 2, none⟩ = some (.int .i64 ((rd_T41 l0 x12_4).f2)) ∧ w'.cell? ⟨(ad600.add ((x12_4).toNat * 4)).block, (ad600.add ((x12_4).toNat * 4)).off + 3, none⟩ = some (.int .i64 ((rd_T41 l0 x12_4).f3))) (ds := []) #[false, false, false, false, false, false, false, false, false, false, false, false, false, false, false, false, false, false, false, false, false, false, false, false, false, false] pL rfl rfl ⟨((HB.out.cell (World.block_lt_of_cell? w _ hw600_0)).trans hw600_0), ((HB.out.cell (World.block_lt_of_cell? w _ hw600_1)).trans hw600_1), ((HB.out.cell (World.block_lt_of_cell? w _ hw600_2)).trans hw600_2), ((HB.out.cell (World.block_lt_of_cell? w _ hw600_3)).trans hw600_3), ((HB.out.cell (World.block_lt_of_cell? w _ hw601_0)).trans hw601_0), ((HB.out.cell (World.block_lt_of_cell? w _ hw601_1)).trans hw601_1), ((HB.out.cell (World.block_lt_of_cell? w _ hw601_2)).trans hw601_2), ((HB.out.cell (World.block_lt_of_cell? w _ hw601_3)).trans hw601_3), ((HB.out.cell (World.block_lt_of_cell? w _ hw601_4)).trans hw601_4), ((HB.out.cell (World.block_lt_of_cell? w _ hw601_5)).trans hw601_5), ((HB.out.cell (World.block_lt_of_cell? w _ hw602_0)).trans hw602_0), ((HB.out.cell (World.block_lt_of_cell? w _ hw602_1)).trans hw602_1), ((HB.out.cell (World.block_lt_of_cell? w _ hw602_2)).trans hw602_2), ((HB.out.cell (World.block_lt_of_cell? w _ hw602_3)).trans hw602_3)⟩ (fun hHeld => ?_); refine with_tabW spec_SwapNeeds.tab9 spec_SwapNeeds.bits9 (fun HT_ HW_ => ?_)
                    generalize wr.drew = w34 at HO_10 HB hx600_0 hx600_1 hx600_2 hx600_3 hx601_0 hx601_1 hx601_2 hx601_3 hx601_4 hx601_5 hx602_0 hx602_1 hx602_2 hx602_3 hHeld ⊢
                    refine pure_ (i := 0) (N := some 48) (v := ?_) (a' := ?_) #[true, false, false, false, false, false, false, false, false, false, false, false, false, false, false, false, false, false, false, false, false, false, false, false, false, false] rfl rfl (any_of HT_.out pL) (fun _ _ _ h => h) (Or.inl ⟨by rfl, ?_⟩) ?_ ?_
                    rotate_left
                    ·intro w'
                     go_simp
                     with_reducible rfl
                    rotate_left
                    ·exact pP
                    refine pure_ (i := 1) (N := some 49) (v := ?_) (a' := ?_) #[true, true, false, false, false, false, false, false, false, false, false, false, false, false, false, false, false, false, false, false, false, false, false, false, false, false] rfl rfl (any_of HT_.out pL) (fun _ _ _ h => h) (Or.inl ⟨by rfl, ?_⟩) ?_ ?_
                    rotate_left
                    ·intro w'
                     go_simp
                     with_reducible rfl
                    rotate_left
                    ·exact pP
                    refine pure_ (i := 2) (N := some 50) (v := ?_) (a' := ?_) #[true, true, true, false, false, false, false, false, false, false, false, false, false, false, false, false, false, false, false, false, false, false, false, false, false, false] rfl rfl (any_of HT_.out pL) (fun _ _ _ h => h) (Or.inl ⟨by rfl, ?_⟩) ?_ ?_
                    rotate_left
                    ·intro w'
                     go_simp
                     with_reducible rfl
                    rotate_left
                    ·exact pP
                    refine pure_ (i := 3) (N := some 51) (v := ?_) (a' := ?_) #[true, true, true, true, false, false, false, false, false, false, false, false, false, false, false, false, false, false, false, false, false, false, false, false, false, false] rfl rfl (any_of HT_.out pL) (fun _ _ _ h => h) (Or.inl ⟨by rfl, ?_⟩) ?_ ?_
                    rotate_left
                    ·intro w'
                     go_simp
                     with_reducible rfl
                    rotate_left
                    ·exact pP
                    refine pure_ (i := 4) (N := some 52) (v := ?_) (a' := ?_) #[true, true, true, true, true, false, false, false, false, false, false, false, false, false, false, false, false, false, false, false, false, false, false, false, false, false] rfl rfl (any_of HT_.out pL) (fun _ _ _ h => h) (Or.inl ⟨by rfl, ?_⟩) ?_ ?_
                    rotate_left
                    ·intro w'
                     go_simp
                     with_reducible rfl
                    rotate_left
                    ·exact pP
                    refine pure_ (i := 5) (N := some 53) (v := ?_) (a' := ?_) #[true, true, true, true, true, true, false, false, false, false, false, false, false, false, false, false, false, false, false, false, false, false, false, false, false, false] rfl rfl (any_of HT_.out pL) (fun _ _ _ h => h) (Or.inl ⟨by rfl, ?_⟩) ?_ ?_
                    rotate_left
                    ·intro w'
                     go_simp
                     with_reducible rfl
                    rotate_left
                    ·exact pP
                    refine pure_ (i := 6) (N := some 54) (v := ?_) (a' := ?_) #[true, true, true, true, true, true, true, false, false, false, false, false, false, false, false, false, false, false, false, false, false, false, false, false, false, false] rfl rfl (any_of HT_.out pL) (fun _ _ _ h => h) (Or.inl ⟨by rfl, ?_⟩) ?_ ?_
                    rotate_left
                    ·intro w'
                     go_simp
                     with_reducible rfl
                    rotate_left
                    ·exact pP
                    refine pure_ (i := 7) (N := some 55) (v := ?_) (a' := ?_) #[true, true, true, true, true, true, true, true, false, false, false, false, false, false, false, false, false, false, false, false, false, false, false, false, false, false] rfl rfl (any_of HT_.out pL) (fun _ _ _ h => h) (Or.inl ⟨by rfl, ?_⟩) ?_ ?_
                    rotate_left
                    ·intro w'
                     go_simp
                     with_reducible rfl
                    rotate_left
                    ·exact pP
                    refine pure_ (i := 8) (N := some 56) (v := ?_) (a' := ?_) #[true, true, true, true, true, true, true, true, true, false, false, false, false, false, false, false, false, false, false, false, false, false, false, false, false, false] rfl rfl (any_of HT_.out pL) (fun _ _ _ h => h) (Or.inl ⟨by rfl, ?_⟩) ?_ ?_
                    rotate_left
                    ·intro w'
                     go_simp
                     with_reducible rfl
                    rotate_left
                    ·exact pP
                    refine pure_ (i := 10) (N := some 58) (v := ?_) (a' := ?_) #[true, true, true, true, true, true, true, true, true, false, true, false, false, false, false, false, false, false, false, false, false, false, false, false, false, false] rfl rfl (any_of HT_.out pL) (fun _ _ _ h => h) (Or.inl ⟨by rfl, ?_⟩) ?_ ?_
                    rotate_left
                    ·intro w'
                     go_simp
                     with_reducible rfl
                    rotate_left
                    ·exact pP
                    refine pure_ (i := 11) (N := some 59) (v := ?_) (a' := ?_) #[true, true, true, true, true, true, true, true, true, false, true, true, false, false, false, false, false, false, false, false, false, false, false, false, false, false] rfl rfl (any_of HT_.out pL) (fun _ _ _ h => h) (Or.inl ⟨by rfl, ?_⟩) ?_ ?_
                    rotate_left
                    ·intro w'
                     go_simp
                     with_reducible rfl
                    rotate_left
                    ·exact pP
                    refine pure_ (i := 12) (N := some 60) (v := ?_) (a' := ?_) #[true, true, true, true, true, true, true, true, true, false, true, true, true, false, false, false, false, false, false, false, false, false, false, false, false, false] rfl rfl (any_of HT_.out pL) (fun _ _ _ h => h) (Or.inl ⟨by rfl, ?_⟩) ?_ ?_
                    rotate_left
                    ·intro w'
                     go_simp
                     with_reducible rfl
                    rotate_left
                    ·exact pP
                    refine pure_ (i := 13) (N := some 61) (v := ?_) (a' := ?_) #[true, true, true, true, true, true, true, true, true, false, true, true, true, true, false, false, false, false, false, false, false, false, false, false, false, false] rfl rfl (any_of HT_.out pL) (fun _ _ _ h => h) (Or.inl ⟨by rfl, ?_⟩) ?_ ?_
                    rotate_left
                    ·intro w'
                     go_simp
                     with_reducible rfl
                    rotate_left
                    ·exact pP
                    refine take_ (i := 9) (N := some 57) (v := ?_) (a' := ?_) #[true, true, true, true, true, true, true, true, true, true, true, true, true, true, false, false, false, false, false, false, false, false, false, false, false, false] rfl rfl (take_ofW HT_.out HW_.out pL) (fun _ _ _ h => h) (Or.inl ⟨by rfl, ?_⟩) hHeld ?_ ?_
                    rotate_left
                    ·rintro w' ⟨s0, s1, s2, s3, s4, s5, s6, s7, s8, s9, s10, s11, s12, s13⟩
                     go_simp
                     with_reducible rfl
                    rotate_left
                    ·exact pP
                    refine take_ (i := 14) (N := some 62) (v := ?_) (a' := ?_) #[true, true, true, true, true, true, true, true, true, true, true, true, true, true, true, false, false, false, false, false, false, false, false, false, false, false] rfl rfl (take_ofW HT_.out HW_.out pL) (fun _ _ _ h => h) (Or.inl ⟨by rfl, ?_⟩) hHeld ?_ ?_
                    rotate_left
                    ·rintro w' ⟨s0, s1, s2, s3, s4, s5, s6, s7, s8, s9, s10, s11, s12, s13⟩
                     go_simp
                     with_reducible rfl
                    rotate_left
                    ·exact pP
                    refine pure_ (i := 15) (N := some 63) (v := ?_) (a' := ?_) #[true, true, true, true, true, true, true, true, true, true, true, true, true, true, true, true, false, false, false, false, false, false, false, false, false, false] rfl rfl (any_of HT_.out pL) (fun _ _ _ h => h) (Or.inl ⟨by rfl, ?_⟩) ?_ ?_
                    rotate_left
                    ·intro w'
                     go_simp
                     with_reducible rfl
                    rotate_left
                    ·exact pP
                    refine pure_ (i := 16) (N := some 64) (v := ?_) (a' := ?_) #[true, true, true, true, true, true, true, true, true, true, true, true, true, true, true, true, true, false, false, false, false, false, false, false, false, false] rfl rfl (any_of HT_.out pL) (fun _ _ _ h => h) (Or.inl ⟨by rfl, ?_⟩) ?_ ?_
                    rotate_left
                    ·intro w'
                     go_simp
                     with_reducible rfl
                    rotate_left
                    ·exact pP
                    refine pure_ (i := 17) (N := some 65) (v := ?_) (a' := ?_) #[true, true, true, true, true, true, true, true, true, true, true, true, true, true, true, true, true, true, false, false, false, false, false, false, false, false] rfl rfl (any_of HT_.out pL) (fun _ _ _ h => h) (Or.inl ⟨by rfl, ?_⟩) ?_ ?_
                    rotate_left
                    ·intro w'
                     go_simp
                     with_reducible rfl
                    rotate_left
                    ·exact pP
                    refine pure_ (i := 18) (N := some 66) (v := ?_) (a' := ?_) #[true, true, true, true, true, true, true, true, true, true, true, true, true, true, true, true, true, true, true, false, false, false, false, false, false, false] rfl rfl (any_of HT_.out pL) (fun _ _ _ h => h) (Or.inl ⟨by rfl, ?_⟩) ?_ ?_
                    rotate_left
                    ·intro w'
                     go_simp
                     with_reducible rfl
                    rotate_left
                    ·exact pP
                    refine pure_ (i := 19) (N := some 67) (v := ?_) (a' := ?_) #[true, true, true, true, true, true, true, true, true, true, true, true, true, true, true, true, true, true, true, true, false, false, false, false, false, false] rfl rfl (any_of HT_.out pL) (fun _ _ _ h => h) (Or.inl ⟨by rfl, ?_⟩) ?_ ?_
                    rotate_left
                    ·intro w'
                     go_simp
                     with_reducible rfl
                    rotate_left
                    ·exact pP
                    refine pure_ (i := 20) (N := some 68) (v := ?_) (a' := ?_) #[true, true, true, true, true, true, true, true, true, true, true, true, true, true, true, true, true, true, true, true, true, false, false, false, false, false] rfl rfl (any_of HT_.out pL) (fun _ _ _ h => h) (Or.inl ⟨by rfl, ?_⟩) ?_ ?_
                    rotate_left
                    ·intro w'
                     go_simp
                     with_reducible rfl
                    rotate_left
                    ·exact pP
                    refine pure_ (i := 21) (N := some 69) (v := ?_) (a' := ?_) #[true, true, true, true, true, true, true, true, true, true, true, true, true, true, true, true, true, true, true, true, true, true, false, false, false, false] rfl rfl (any_of HT_.out pL) (fun _ _ _ h => h) (Or.inl ⟨by rfl, ?_⟩) ?_ ?_
                    rotate_left
                    ·intro w'
                     go_simp
                     with_reducible rfl
                    rotate_left
                    ·exact pP
                    refine take_ (i := 22) (N := some 70) (v := ?_) (a' := ?_) #[true, true, true, true, true, true, true, true, true, true, true, true, true, true, true, true, true, true, true, true, true, true, true, false, false, false] rfl rfl (take_ofW HT_.out HW_.out pL) (fun _ _ _ h => h) (Or.inl ⟨by rfl, ?_⟩) hHeld ?_ ?_
                    rotate_left
                    ·rintro w' ⟨s0, s1, s2, s3, s4, s5, s6, s7, s8, s9, s10, s11, s12, s13⟩
                     go_simp
                     with_reducible rfl
                    rotate_left
                    ·exact pP
                    refine one_ (i := 23) (N := some 71) #[true, true, true, true, true, true, true, true, true, true, true, true, true, true, true, true, true, true, true, true, true, true, true, true, false, false] rfl rfl (one_of HT_.out pL) (by decide) (fun K hK => ?_)
                    refine goes_ Try.func68 pL rfl #[.slice A3 l3.length c3, .int .i64 ((rd_T41 l0 x12_4).f1)] (by rfl) rfl rfl pM ?_
                    with_reducible refine (spec_l15Has.calls k4 _ _ l3 ((rd_T41 l0 x12_4).f1) true _ ?side1 ?side2 A32.out).mono ?_
                    (case side1 => exact pS ((Kd.C_below HR3.out HB.out)))
                    (case side2 => exact HC3.out)
                    rintro e w' ⟨rfl, ⟨nd, rfl⟩⟩
                    refine ⟨_, rfl, ?_⟩
                    refine hK.out _ _ ⟨((HB.out.cell (World.block_lt_of_cell? w _ hw600_0)).trans hw600_0), ((HB.out.cell (World.block_lt_of_cell? w _ hw600_1)).trans hw600_1), ((HB.out.cell (World.block_lt_of_cell? w _ hw600_2)).trans hw600_2), ((HB.out.cell (World.block_lt_of_cell? w _ hw600_3)).trans hw600_3), ((HB.out.cell (World.block_lt_of_cell? w _ hw601_0)).trans hw601_0), ((HB.out.cell (World.block_lt_of_cell? w _ hw601_1)).trans hw601_1), ((HB.out.cell (World.block_lt_of_cell? w _ hw601_2)).trans hw601_2), ((HB.out.cell (World.block_lt_of_cell? w _ hw601_3)).trans hw601_3), ((HB.out.cell (World.block_lt_of_cell? w _ hw601_4)).trans hw601_4), ((HB.out.cell (World.block_lt_of_cell? w _ hw601_5)).trans hw601_5), ((HB.out.cell (World.block_lt_of_cell? w _ hw602_0)).trans hw602_0), ((HB.out.cell (World.block_lt_of_cell? w _ hw602_1)).trans hw602_1), ((HB.out.cell (World.block_lt_of_cell? w _ hw602_2)).trans hw602_2), ((HB.out.cell (World.block_lt_of_cell? w _ hw602_3)).trans hw602_3)⟩ (fun hHeld => ?_)
                    clear hK K
                    refine norm_ (a' := ?_) ?_ ?_
                    rotate_left
                    ·show Act.put _ (some 71) _ = _
                     exact pP
                    refine pure_ (i := 24) (N := some 72) (v := ?_) (a' := ?_) #[true, true, true, true, true, true, true, true, true, true, true, true, true, true, true, true, true, true, true, true, true, true, true, true, true, false] rfl rfl (any_of HT_.out pL) (fun _ _ _ h => h) (Or.inl ⟨by rfl, ?_⟩) ?_ ?_
                    rotate_left
                    ·intro w'
                     go_simp
                     with_reducible rfl
                    rotate_left
                    ·exact pP
                    refine pure_ (i := 25) (N := some 73) (v := ?_) (a' := ?_) #[true, true, true, true, true, true, true, true, true, true, true, true, true, true, true, true, true, true, true, true, true, true, true, true, true, true] rfl rfl (any_of HT_.out pL) (fun _ _ _ h => h) (Or.inl ⟨by rfl, ?_⟩) ?_ ?_
                    rotate_left
                    ·intro w'
                     go_simp
                     with_reducible rfl
                    rotate_left
                    ·exact pP
                    refine done_ (done_of HT_.out pL) ?_
                    try go_wp2
                    go_roundg k4
                    case measure => have := HJ4.out; have := HK2.out; have := HJ19.out; have := HK4.out; omega
                    case rel => exact ⟨(wrap64 (x12_4 + 1)), pF, H', ⟨by have := HJ4.out; have := HK2.out; have := HJ19.out; have := HK4.out; omega⟩, ⟨pR HO_10⟩, ⟨pB⟩⟩
                   ·replace c33 := Bool.eq_false_iff.mpr c33
                    subst c33
                    have H1 : (spec_SwapNeeds.j4 k4 l0 l1 l2 l3 x10_2 x11_2 x12_4) = some (r1, r2) := by rw [if_neg (show ¬ (false = true) by decide)] at H; exact H
                    clear H
                    have H := H1
                    clear H1
                    have H' := Aside0.mk H
                    clear H
                    try go_wp2
                    have n0_ := Aside0.mk (Kd.R_drew HO_10.out)
                    have n1_ := Aside0.mk (below_drew1 HB.out)
                    clear HO_10
                    clear HB
                    have HO_10 := n0_
                    have HB := n1_
                    clear n0_ n1_
                    have p600 : 0 ≤ (x12_4 : Int) := of_decide_eq_true pA
                    have q600 : x12_4 < (l0.length : Int) := of_decide_eq_true pA
                    obtain ⟨ad600, e600, hx600_0, hx600_1, hx600_2, hx600_3⟩ := at_T41 HR0.out x12_4 p600 q600
                    have hw600_3 := hx600_3
                    have hw600_2 := hx600_2
                    have hw600_1 := hx600_1
                    have hw600_0 := hx600_0
                    cases e600
                    replace hx600_0 := (HB.out.cell (World.block_lt_of_cell? w _ hx600_0)).trans hx600_0
                    replace hx600_1 := (HB.out.cell (World.block_lt_of_cell? w _ hx600_1)).trans hx600_1
                    replace hx600_2 := (HB.out.cell (World.block_lt_of_cell? w _ hx600_2)).trans hx600_2
                    replace hx600_3 := (HB.out.cell (World.block_lt_of_cell? w _ hx600_3)).trans hx600_3
                    replace p600 := eq_true p600
                    replace q600 := eq_true q600
                    have p601 : 0 ≤ (x11_2 : Int) := of_decide_eq_true pA
                    have q601 : x11_2 < (l1.length : Int) := of_decide_eq_true pA
                    obtain ⟨ad601, e601, hx601_0, hx601_1, hx601_2, hx601_3, hx601_4, hx601_5⟩ := at_T62 HR1.out x11_2 p601 q601
                    have hw601_5 := hx601_5
                    have hw601_4 := hx601_4
                    have hw601_3 := hx601_3
                    have hw601_2 := hx601_2
                    have hw601_1 := hx601_1
                    have hw601_0 := hx601_0
                    cases e601
                    replace hx601_0 := (HB.out.cell (World.block_lt_of_cell? w _ hx601_0)).trans hx601_0
                    replace hx601_1 := (HB.out.cell (World.block_lt_of_cell? w _ hx601_1)).trans hx601_1
                    replace hx601_2 := (HB.out.cell (World.block_lt_of_cell? w _ hx601_2)).trans hx601_2
                    replace hx601_3 := (HB.out.cell (World.block_lt_of_cell? w _ hx601_3)).trans hx601_3
                    replace hx601_4 := (HB.out.cell (World.block_lt_of_cell? w _ hx601_4)).trans hx601_4
                    replace hx601_5 := (HB.out.cell (World.block_lt_of_cell? w _ hx601_5)).trans hx601_5
                    replace p601 := eq_true p601
                    replace q601 := eq_true q601
                    have p602 : 0 ≤ (x12_4 : Int) := of_decide_eq_true pA
                    have q602 : x12_4 < (l0.length : Int) := of_decide_eq_true pA
                    obtain ⟨ad602, e602, hx602_0, hx602_1, hx602_2, hx602_3⟩ := at_T41 HR0.out x12_4 p602 q602
                    have hw602_3 := hx602_3
                    have hw602_2 := hx602_2
                    have hw602_1 := hx602_1
                    have hw602_0 := hx602_0
                    obtain rfl : ad600 = ad602 := (by injection e602)
                    replace hx602_0 := (HB.out.cell (World.block_lt_of_cell? w _ hx602_0)).trans hx602_0
                    replace hx602_1 := (HB.out.cell (World.block_lt_of_cell? w _ hx602_1)).trans hx602_1
                    replace hx602_2 := (HB.out.cell (World.block_lt_of_cell? w _ hx602_2)).trans hx602_2
                    replace hx602_3 := (HB.out.cell (World.block_lt_of_cell? w _ hx602_3)).trans hx602_3
                    replace p602 := eq_true p602
                    replace q602 := eq_true q602
                    refine start_ (n := 26) (S := fun w' => w'.cell? (ad600.add ((x12_4).toNat * 4)) = some (.int .i64 ((rd_T41 l0 x12_4).f0)) ∧ w'.cell? ⟨(ad600.add ((x12_4).toNat * 4)).block, (ad600.add ((x12_4).toNat * 4)).off + 1, none⟩ = some (.int .i64 ((rd_T41 l0 x12_4).f1)) ∧ w'.cell? ⟨(ad600.add ((x12_4).toNat * 4)).block, (ad600.add ((x12_4).toNat * 4)).off + 2, none⟩ = some (.int .i64 ((rd_T41 l0 x12_4).f2)) ∧ w'.cell? ⟨(ad600.add ((x12_4).toNat * 4)).block, (ad600.add ((x12_4).toNat * 4)).off + 3, none⟩ = some (.int .i64 ((rd_T41 l0 x12_4).f3)) ∧ w'.cell? (ad601.add ((x11_2).toNat * 6)) = some (.int .i64 ((rd_T62 l1 x11_2).f0)) ∧ w'.cell? ⟨(ad601.add ((x11_2).toNat * 6)).block, (ad601.add ((x11_2).toNat * 6)).off + 1, none⟩ = some (.int .i64 ((rd_T62 l1 x11_2).f1)) ∧ w'.cell? ⟨(ad601.add ((x11_2).toNat * 6)).block, (ad601.add ((x11_2).toNat * 6)).off + 2, none⟩ = some (.int .i64 ((rd_T62 l1 x11_2).f2)) ∧ w'.cell? ⟨(ad601.add ((x11_2).toNat * 6)).block, (ad601.add ((x11_2).toNat * 6)).off + 3, none⟩ = some (.int .i64 ((rd_T62 l1 x11_2).f3)) ∧ w'.cell? ⟨(ad601.add ((x11_2).toNat * 6)).block, (ad601.add ((x11_2).toNat * 6)).off + 4, none⟩ = some (.int .i64 ((rd_T62 l1 x11_2).f4)) ∧ w'.cell? ⟨(ad601.add ((x11_2).toNat * 6)).block, (ad601.add ((x11_2).toNat * 6)).off + 5, none⟩ = some (.int .i64 ((rd_T62 l1 x11_2).f5)) ∧ w'.cell? (ad600.add ((x12_4).toNat * 4)) = some (.int .i64 ((rd_T41 l0 x12_4).f0)) ∧ w'.cell? ⟨(ad600.add ((x12_4).toNat * 4)).block, (ad600.add ((x12_4).toNat * 4)).off + 1, none⟩ = some (.int .i64 ((rd_T41 l0 x12_4).f1)) ∧ w'.cell? ⟨(ad600.add ((x12_4).toNat * 4)).block, (ad600.add ((x12_4).toNat * 4)).off + 2, none⟩ = some (.int .i64 ((rd_T41 l0 x12_4).f2)) ∧ w'.cell? ⟨(ad600.add ((x12_4).toNat * 4)).block, (ad600.add ((x12_4).toNat * 4)).off + 3, none⟩ = some (.int .i64 ((rd_T41 l0 x12_4).f3))) (ds := []) #[false, false, false, false, false, false, false, false, false, false, false, false, false, false, false, false, false, false, false, false, false, false, false, false, false, false] pL rfl rfl ⟨((HB.out.cell (World.block_lt_of_cell? w _ hw600_0)).trans hw600_0), ((HB.out.cell (World.block_lt_of_cell? w _ hw600_1)).trans hw600_1), ((HB.out.cell (World.block_lt_of_cell? w _ hw600_2)).trans hw600_2), ((HB.out.cell (World.block_lt_of_cell? w _ hw600_3)).trans hw600_3), ((HB.out.cell (World.block_lt_of_cell? w _ hw601_0)).trans hw601_0), ((HB.out.cell (World.block_lt_of_cell? w _ hw601_1)).trans hw601_1), ((HB.out.cell (World.block_lt_of_cell? w _ hw601_2)).trans hw601_2), ((HB.out.cell (World.block_lt_of_cell? w _ hw601_3)).trans hw601_3), ((HB.out.cell (World.block_lt_of_cell? w _ hw601_4)).trans hw601_4), ((HB.out.cell (World.block_lt_of_cell? w _ hw601_5)).trans hw601_5), ((HB.out.cell (World.block_lt_of_cell? w _ hw602_0)).trans hw602_0), ((HB.out.cell (World.block_lt_of_cell? w _ hw602_1)).trans hw602_1), ((HB.out.cell (World.block_lt_of_cell? w _ hw602_2)).trans hw602_2), ((HB.out.cell (World.block_lt_of_cell? w _ hw602_3)).trans hw602_3)⟩ (fun hHeld => ?_); refine with_tabW spec_SwapNeeds.tab9 spec_SwapNeeds.bits9 (fun HT_ HW_ => ?_)
                    generalize wr.drew = w35 at HO_10 HB hx600_0 hx600_1 hx600_2 hx600_3 hx601_0 hx601_1 hx601_2 hx601_3 hx601_4 hx601_5 hx602_0 hx602_1 hx602_2 hx602_3 hHeld ⊢
                    refine pure_ (i := 0) (N := some 48) (v := ?_) (a' := ?_) #[true, false, false, false, false, false, false, false, false, false, false, false, false, false, false, false, false, false, false, false, false, false, false, false, false, false] rfl rfl (any_of HT_.out pL) (fun _ _ _ h => h) (Or.inl ⟨by rfl, ?_⟩) ?_ ?_
                    rotate_left
                    ·intro w'
                     go_simp
                     with_reducible rfl
                    rotate_left
                    ·exact pP
                    refine pure_ (i := 1) (N := some 49) (v := ?_) (a' := ?_) #[true, true, false, false, false, false, false, false, false, false, false, false, false, false, false, false, false, false, false, false, false, false, false, false, false, false] rfl rfl (any_of HT_.out pL) (fun _ _ _ h => h) (Or.inl ⟨by rfl, ?_⟩) ?_ ?_
                    rotate_left
                    ·intro w'
                     go_simp
                     with_reducible rfl
                    rotate_left
                    ·exact pP
                    refine pure_ (i := 2) (N := some 50) (v := ?_) (a' := ?_) #[true, true, true, false, false, false, false, false, false, false, false, false, false, false, false, false, false, false, false, false, false, false, false, false, false, false] rfl rfl (any_of HT_.out pL) (fun _ _ _ h => h) (Or.inl ⟨by rfl, ?_⟩) ?_ ?_
                    rotate_left
                    ·intro w'
                     go_simp
                     with_reducible rfl
                    rotate_left
                    ·exact pP
                    refine pure_ (i := 3) (N := some 51) (v := ?_) (a' := ?_) #[true, true, true, true, false, false, false, false, false, false, false, false, false, false, false, false, false, false, false, false, false, false, false, false, false, false] rfl rfl (any_of HT_.out pL) (fun _ _ _ h => h) (Or.inl ⟨by rfl, ?_⟩) ?_ ?_
                    rotate_left
                    ·intro w'
                     go_simp
                     with_reducible rfl
                    rotate_left
                    ·exact pP
                    refine pure_ (i := 4) (N := some 52) (v := ?_) (a' := ?_) #[true, true, true, true, true, false, false, false, false, false, false, false, false, false, false, false, false, false, false, false, false, false, false, false, false, false] rfl rfl (any_of HT_.out pL) (fun _ _ _ h => h) (Or.inl ⟨by rfl, ?_⟩) ?_ ?_
                    rotate_left
                    ·intro w'
                     go_simp
                     with_reducible rfl
                    rotate_left
                    ·exact pP
                    refine pure_ (i := 5) (N := some 53) (v := ?_) (a' := ?_) #[true, true, true, true, true, true, false, false, false, false, false, false, false, false, false, false, false, false, false, false, false, false, false, false, false, false] rfl rfl (any_of HT_.out pL) (fun _ _ _ h => h) (Or.inl ⟨by rfl, ?_⟩) ?_ ?_
                    rotate_left
                    ·intro w'
                     go_simp
                     with_reducible rfl
                    rotate_left
                    ·exact pP
                    refine pure_ (i := 6) (N := some 54) (v := ?_) (a' := ?_) #[true, true, true, true, true, true, true, false, false, false, false, false, false, false, false, false, false, false, false, false, false, false, false, false, false, false] rfl rfl (any_of HT_.out pL) (fun _ _ _ h => h) (Or.inl ⟨by rfl, ?_⟩) ?_ ?_
                    rotate_left
                    ·intro w'
                     go_simp
                     with_reducible rfl
                    rotate_left
                    ·exact pP
                    refine pure_ (i := 7) (N := some 55) (v := ?_) (a' := ?_) #[true, true, true, true, true, true, true, true, false, false, false, false, false, false, false, false, false, false, false, false, false, false, false, false, false, false] rfl rfl (any_of HT_.out pL) (fun _ _ _ h => h) (Or.inl ⟨by rfl, ?_⟩) ?_ ?_
                    rotate_left
                    ·intro w'
                     go_simp
                     with_reducible rfl
                    rotate_left
                    ·exact pP
                    refine pure_ (i := 8) (N := some 56) (v := ?_) (a' := ?_) #[true, true, true, true, true, true, true, true, true, false, false, false, false, false, false, false, false, false, false, false, false, false, false, false, false, false] rfl rfl (any_of HT_.out pL) (fun _ _ _ h => h) (Or.inl ⟨by rfl, ?_⟩) ?_ ?_
                    rotate_left
                    ·intro w'
                     go_simp
                     with_reducible rfl
                    rotate_left
                    ·exact pP
                    refine pure_ (i := 10) (N := some 58) (v := ?_) (a' := ?_) #[true, true, true, true, true, true, true, true, true, false, true, false, false, false, false, false, false, false, false, false, false, false, false, false, false, false] rfl rfl (any_of HT_.out pL) (fun _ _ _ h => h) (Or.inl ⟨by rfl, ?_⟩) ?_ ?_
                    rotate_left
                    ·intro w'
                     go_simp
                     with_reducible rfl
                    rotate_left
                    ·exact pP
                    refine pure_ (i := 11) (N := some 59) (v := ?_) (a' := ?_) #[true, true, true, true, true, true, true, true, true, false, true, true, false, false, false, false, false, false, false, false, false, false, false, false, false, false] rfl rfl (any_of HT_.out pL) (fun _ _ _ h => h) (Or.inl ⟨by rfl, ?_⟩) ?_ ?_
                    rotate_left
                    ·intro w'
                     go_simp
                     with_reducible rfl
                    rotate_left
                    ·exact pP
                    refine pure_ (i := 12) (N := some 60) (v := ?_) (a' := ?_) #[true, true, true, true, true, true, true, true, true, false, true, true, true, false, false, false, false, false, false, false, false, false, false, false, false, false] rfl rfl (any_of HT_.out pL) (fun _ _ _ h => h) (Or.inl ⟨by rfl, ?_⟩) ?_ ?_
                    rotate_left
                    ·intro w'
                     go_simp
                     with_reducible rfl
                    rotate_left
                    ·exact pP
                    refine pure_ (i := 13) (N := some 61) (v := ?_) (a' := ?_) #[true, true, true, true, true, true, true, true, true, false, true, true, true, true, false, false, false, false, false, false, false, false, false, false, false, false] rfl rfl (any_of HT_.out pL) (fun _ _ _ h => h) (Or.inl ⟨by rfl, ?_⟩) ?_ ?_
                    rotate_left
                    ·intro w'
                     go_simp
                     with_reducible rfl
                    rotate_left
                    ·exact pP
                    refine take_ (i := 9) (N := some 57) (v := ?_) (a' := ?_) #[true, true, true, true, true, true, true, true, true, true, true, true, true, true, false, false, false, false, false, false, false, false, false, false, false, false] rfl rfl (take_ofW HT_.out HW_.out pL) (fun _ _ _ h => h) (Or.inl ⟨by rfl, ?_⟩) hHeld ?_ ?_
                    rotate_left
                    ·rintro w' ⟨s0, s1, s2, s3, s4, s5, s6, s7, s8, s9, s10, s11, s12, s13⟩
                     go_simp
                     with_reducible rfl
                    rotate_left
                    ·exact pP
                    refine take_ (i := 14) (N := some 62) (v := ?_) (a' := ?_) #[true, true, true, true, true, true, true, true, true, true, true, true, true, true, true, false, false, false, false, false, false, false, false, false, false, false] rfl rfl (take_ofW HT_.out HW_.out pL) (fun _ _ _ h => h) (Or.inl ⟨by rfl, ?_⟩) hHeld ?_ ?_
                    rotate_left
                    ·rintro w' ⟨s0, s1, s2, s3, s4, s5, s6, s7, s8, s9, s10, s11, s12, s13⟩
                     go_simp
                     with_reducible rfl
                    rotate_left
                    ·exact pP
                    refine pure_ (i := 15) (N := some 63) (v := ?_) (a' := ?_) #[true, true, true, true, true, true, true, true, true, true, true, true, true, true, true, true, false, false, false, false, false, false, false, false, false, false] rfl rfl (any_of HT_.out pL) (fun _ _ _ h => h) (Or.inl ⟨by rfl, ?_⟩) ?_ ?_
                    rotate_left
                    ·intro w'
                     go_simp
                     with_reducible rfl
                    rotate_left
                    ·exact pP
                    refine pure_ (i := 16) (N := some 64) (v := ?_) (a' := ?_) #[true, true, true, true, true, true, true, true, true, true, true, true, true, true, true, true, true, false, false, false, false, false, false, false, false, false] rfl rfl (any_of HT_.out pL) (fun _ _ _ h => h) (Or.inl ⟨by rfl, ?_⟩) ?_ ?_
                    rotate_left
                    ·intro w'
                     go_simp
                     with_reducible rfl
                    rotate_left
                    ·exact pP
                    refine pure_ (i := 17) (N := some 65) (v := ?_) (a' := ?_) #[true, true, true, true, true, true, true, true, true, true, true, true, true, true, true, true, true, true, false, false, false, false, false, false, false, false] rfl rfl (any_of HT_.out pL) (fun _ _ _ h => h) (Or.inl ⟨by rfl, ?_⟩) ?_ ?_
                    rotate_left
                    ·intro w'
                     go_simp
                     with_reducible rfl
                    rotate_left
                    ·exact pP
                    refine pure_ (i := 18) (N := some 66) (v := ?_) (a' := ?_) #[true, true, true, true, true, true, true, true, true, true, true, true, true, true, true, true, true, true, true, false, false, false, false, false, false, false] rfl rfl (any_of HT_.out pL) (fun _ _ _ h => h) (Or.inl ⟨by rfl, ?_⟩) ?_ ?_
                    rotate_left
                    ·intro w'
                     go_simp
                     with_reducible rfl
                    rotate_left
                    ·exact pP
                    refine pure_ (i := 19) (N := some 67) (v := ?_) (a' := ?_) #[true, true, true, true, true, true, true, true, true, true, true, true, true, true, true, true, true, true, true, true, false, false, false, false, false, false] rfl rfl (any_of HT_.out pL) (fun _ _ _ h => h) (Or.inl ⟨by rfl, ?_⟩) ?_ ?_
                    rotate_left
                    ·intro w'
                     go_simp
                     with_reducible rfl
                    rotate_left
                    ·exact pP
                    refine pure_ (i := 20) (N := some 68) (v := ?_) (a' := ?_) #[true, true, true, true, true, true, true, true, true, true, true, true, true, true, true, true, true, true, true, true, true, false, false, false, false, false] rfl rfl (any_of HT_.out pL) (fun _ _ _ h => h) (Or.inl ⟨by rfl, ?_⟩) ?_ ?_
                    rotate_left
                    ·intro w'
                     go_simp
                     with_reducible rfl
                    rotate_left
                    ·exact pP
                    refine pure_ (i := 21) (N := some 69) (v := ?_) (a' := ?_) #[true, true, true, true, true, true, true, true, true, true, true, true, true, true, true, true, true, true, true, true, true, true, false, false, false, false] rfl rfl (any_of HT_.out pL) (fun _ _ _ h => h) (Or.inl ⟨by rfl, ?_⟩) ?_ ?_
                    rotate_left
                    ·intro w'
                     go_simp
                     with_reducible rfl
                    rotate_left
                    ·exact pP
                    refine take_ (i := 22) (N := some 70) (v := ?_) (a' := ?_) #[true, true, true, true, true, true, true, true, true, true, true, true, true, true, true, true, true, true, true, true, true, true, true, false, false, false] rfl rfl (take_ofW HT_.out HW_.out pL) (fun _ _ _ h => h) (Or.inl ⟨by rfl, ?_⟩) hHeld ?_ ?_
                    rotate_left
                    ·rintro w' ⟨s0, s1, s2, s3, s4, s5, s6, s7, s8, s9, s10, s11, s12, s13⟩
                     go_simp
                     with_reducible rfl
                    rotate_left
                    ·exact pP
                    refine one_ (i := 23) (N := some 71) #[true, true, true, true, true, true, true, true, true, true, true, true, true, true, true, true, true, true, true, true, true, true, true, true, false, false] rfl rfl (one_of HT_.out pL) (by decide) (fun K hK => ?_)
                    refine goes_ Try.func68 pL rfl #[.slice A3 l3.length c3, .int .i64 ((rd_T41 l0 x12_4).f1)] (by rfl) rfl rfl pM ?_
                    with_reducible refine (spec_l15Has.calls k4 _ _ l3 ((rd_T41 l0 x12_4).f1) false _ ?side1 ?side2 A32.out).mono ?_
                    (case side1 => exact pS ((Kd.C_below HR3.out HB.out)))
                    (case side2 => exact HC3.out)
                    rintro e w' ⟨rfl, ⟨nd, rfl⟩⟩
                    refine ⟨_, rfl, ?_⟩
                    refine hK.out _ _ ⟨((HB.out.cell (World.block_lt_of_cell? w _ hw600_0)).trans hw600_0), ((HB.out.cell (World.block_lt_of_cell? w _ hw600_1)).trans hw600_1), ((HB.out.cell (World.block_lt_of_cell? w _ hw600_2)).trans hw600_2), ((HB.out.cell (World.block_lt_of_cell? w _ hw600_3)).trans hw600_3), ((HB.out.cell (World.block_lt_of_cell? w _ hw601_0)).trans hw601_0), ((HB.out.cell (World.block_lt_of_cell? w _ hw601_1)).trans hw601_1), ((HB.out.cell (World.block_lt_of_cell? w _ hw601_2)).trans hw601_2), ((HB.out.cell (World.block_lt_of_cell? w _ hw601_3)).trans hw601_3), ((HB.out.cell (World.block_lt_of_cell? w _ hw601_4)).trans hw601_4), ((HB.out.cell (World.block_lt_of_cell? w _ hw601_5)).trans hw601_5), ((HB.out.cell (World.block_lt_of_cell? w _ hw602_0)).trans hw602_0), ((HB.out.cell (World.block_lt_of_cell? w _ hw602_1)).trans hw602_1), ((HB.out.cell (World.block_lt_of_cell? w _ hw602_2)).trans hw602_2), ((HB.out.cell (World.block_lt_of_cell? w _ hw602_3)).trans hw602_3)⟩ (fun hHeld => ?_)
                    clear hK K
                    refine norm_ (a' := ?_) ?_ ?_
                    rotate_left
                    ·show Act.put _ (some 71) _ = _
                     exact pP
                    refine pure_ (i := 24) (N := some 72) (v := ?_) (a' := ?_) #[true, true, true, true, true, true, true, true, true, true, true, true, true, true, true, true, true, true, true, true, true, true, true, true, true, false] rfl rfl (any_of HT_.out pL) (fun _ _ _ h => h) (Or.inl ⟨by rfl, ?_⟩) ?_ ?_
                    rotate_left
                    ·intro w'
                     go_simp
                     with_reducible rfl
                    rotate_left
                    ·exact pP
                    refine pure_ (i := 25) (N := some 73) (v := ?_) (a' := ?_) #[true, true, true, true, true, true, true, true, true, true, true, true, true, true, true, true, true, true, true, true, true, true, true, true, true, true] rfl rfl (any_of HT_.out pL) (fun _ _ _ h => h) (Or.inl ⟨by rfl, ?_⟩) ?_ ?_
                    rotate_left
                    ·intro w'
                     go_simp
                     with_reducible rfl
                    rotate_left
                    ·exact pP
                    refine done_ (done_of HT_.out pL) ?_
                    try go_wp2
                    go_meet
                    case rel => exact ⟨_, (x12_4), pF, H', ⟨by have := HJ4.out; have := HK2.out; have := HJ19.out; have := HK4.out; first | omega | exact Nat.le_refl _⟩, ⟨pR HO_10⟩, ⟨pB⟩⟩
                  ·rw [if_neg c31] at H
                   have c31b0 : (((rd_T41 l0 x12_4).f0) == ((rd_T62 l1 x11_2).f0)) = false := beq_eq_false_iff_ne.mpr c31
                   have c31b1 : (((rd_T41 l0 x12_4).f0) != ((rd_T62 l1 x11_2).f0)) = true := bne_iff_ne.mpr c31
                   have H' := Aside0.mk H
                   clear H
                   try go_wp2
                   have n0_ := Aside0.mk (Kd.R_drew HO_10.out)
                   have n1_ := Aside0.mk (below_drew1 HB.out)
                   clear HO_10
                   clear HB
                   have HO_10 := n0_
                   have HB := n1_
                   clear n0_ n1_
                   have p600 : 0 ≤ (x12_4 : Int) := of_decide_eq_true pA
                   have q600 : x12_4 < (l0.length : Int) := of_decide_eq_true pA
                   obtain ⟨ad600, e600, hx600_0, hx600_1, hx600_2, hx600_3⟩ := at_T41 HR0.out x12_4 p600 q600
                   have hw600_3 := hx600_3
                   have hw600_2 := hx600_2
                   have hw600_1 := hx600_1
                   have hw600_0 := hx600_0
                   cases e600
                   replace hx600_0 := (HB.out.cell (World.block_lt_of_cell? w _ hx600_0)).trans hx600_0
                   replace hx600_1 := (HB.out.cell (World.block_lt_of_cell? w _ hx600_1)).trans hx600_1
                   replace hx600_2 := (HB.out.cell (World.block_lt_of_cell? w _ hx600_2)).trans hx600_2
                   replace hx600_3 := (HB.out.cell (World.block_lt_of_cell? w _ hx600_3)).trans hx600_3
                   replace p600 := eq_true p600
                   replace q600 := eq_true q600
                   have p601 : 0 ≤ (x11_2 : Int) := of_decide_eq_true pA
                   have q601 : x11_2 < (l1.length : Int) := of_decide_eq_true pA
                   obtain ⟨ad601, e601, hx601_0, hx601_1, hx601_2, hx601_3, hx601_4, hx601_5⟩ := at_T62 HR1.out x11_2 p601 q601
                   have hw601_5 := hx601_5
                   have hw601_4 := hx601_4
                   have hw601_3 := hx601_3
                   have hw601_2 := hx601_2
                   have hw601_1 := hx601_1
                   have hw601_0 := hx601_0
                   cases e601
                   replace hx601_0 := (HB.out.cell (World.block_lt_of_cell? w _ hx601_0)).trans hx601_0
                   replace hx601_1 := (HB.out.cell (World.block_lt_of_cell? w _ hx601_1)).trans hx601_1
                   replace hx601_2 := (HB.out.cell (World.block_lt_of_cell? w _ hx601_2)).trans hx601_2
                   replace hx601_3 := (HB.out.cell (World.block_lt_of_cell? w _ hx601_3)).trans hx601_3
                   replace hx601_4 := (HB.out.cell (World.block_lt_of_cell? w _ hx601_4)).trans hx601_4
                   replace hx601_5 := (HB.out.cell (World.block_lt_of_cell? w _ hx601_5)).trans hx601_5
                   replace p601 := eq_true p601
                   replace q601 := eq_true q601
                   refine start_ (n := 26) (S := fun w' => w'.cell? (ad600.add ((x12_4).toNat * 4)) = some (.int .i64 ((rd_T41 l0 x12_4).f0)) ∧ w'.cell? ⟨(ad600.add ((x12_4).toNat * 4)).block, (ad600.add ((x12_4).toNat * 4)).off + 1, none⟩ = some (.int .i64 ((rd_T41 l0 x12_4).f1)) ∧ w'.cell? ⟨(ad600.add ((x12_4).toNat * 4)).block, (ad600.add ((x12_4).toNat * 4)).off + 2, none⟩ = some (.int .i64 ((rd_T41 l0 x12_4).f2)) ∧ w'.cell? ⟨(ad600.add ((x12_4).toNat * 4)).block, (ad600.add ((x12_4).toNat * 4)).off + 3, none⟩ = some (.int .i64 ((rd_T41 l0 x12_4).f3)) ∧ w'.cell? (ad601.add ((x11_2).toNat * 6)) = some (.int .i64 ((rd_T62 l1 x11_2).f0)) ∧ w'.cell? ⟨(ad601.add ((x11_2).toNat * 6)).block, (ad601.add ((x11_2).toNat * 6)).off + 1, none⟩ = some (.int .i64 ((rd_T62 l1 x11_2).f1)) ∧ w'.cell? ⟨(ad601.add ((x11_2).toNat * 6)).block, (ad601.add ((x11_2).toNat * 6)).off + 2, none⟩ = some (.int .i64 ((rd_T62 l1 x11_2).f2)) ∧ w'.cell? ⟨(ad601.add ((x11_2).toNat * 6)).block, (ad601.add ((x11_2).toNat * 6)).off + 3, none⟩ = some (.int .i64 ((rd_T62 l1 x11_2).f3)) ∧ w'.cell? ⟨(ad601.add ((x11_2).toNat * 6)).block, (ad601.add ((x11_2).toNat * 6)).off + 4, none⟩ = some (.int .i64 ((rd_T62 l1 x11_2).f4)) ∧ w'.cell? ⟨(ad601.add ((x11_2).toNat * 6)).block, (ad601.add ((x11_2).toNat * 6)).off + 5, none⟩ = some (.int .i64 ((rd_T62 l1 x11_2).f5))) (ds := []) #[false, false, false, false, false, false, false, false, false, false, false, false, false, false, false, false, false, false, false, false, false, false, false, false, false, false] pL rfl rfl ⟨((HB.out.cell (World.block_lt_of_cell? w _ hw600_0)).trans hw600_0), ((HB.out.cell (World.block_lt_of_cell? w _ hw600_1)).trans hw600_1), ((HB.out.cell (World.block_lt_of_cell? w _ hw600_2)).trans hw600_2), ((HB.out.cell (World.block_lt_of_cell? w _ hw600_3)).trans hw600_3), ((HB.out.cell (World.block_lt_of_cell? w _ hw601_0)).trans hw601_0), ((HB.out.cell (World.block_lt_of_cell? w _ hw601_1)).trans hw601_1), ((HB.out.cell (World.block_lt_of_cell? w _ hw601_2)).trans hw601_2), ((HB.out.cell (World.block_lt_of_cell? w _ hw601_3)).trans hw601_3), ((HB.out.cell (World.block_lt_of_cell? w _ hw601_4)).trans hw601_4), ((HB.out.cell (World.block_lt_of_cell? w _ hw601_5)).trans hw601_5)⟩ (fun hHeld => ?_); refine with_tabW spec_SwapNeeds.tab9 spec_SwapNeeds.bits9 (fun HT_ HW_ => ?_)
                   generalize wr.drew = w36 at HO_10 HB hx600_0 hx600_1 hx600_2 hx600_3 hx601_0 hx601_1 hx601_2 hx601_3 hx601_4 hx601_5 hHeld ⊢
                   refine pure_ (i := 0) (N := some 48) (v := ?_) (a' := ?_) #[true, false, false, false, false, false, false, false, false, false, false, false, false, false, false, false, false, false, false, false, false, false, false, false, false, false] rfl rfl (any_of HT_.out pL) (fun _ _ _ h => h) (Or.inl ⟨by rfl, ?_⟩) ?_ ?_
                   rotate_left
                   ·intro w'
                    go_simp
                    with_reducible rfl
                   rotate_left
                   ·exact pP
                   refine pure_ (i := 1) (N := some 49) (v := ?_) (a' := ?_) #[true, true, false, false, false, false, false, false, false, false, false, false, false, false, false, false, false, false, false, false, false, false, false, false, false, false] rfl rfl (any_of HT_.out pL) (fun _ _ _ h => h) (Or.inl ⟨by rfl, ?_⟩) ?_ ?_
                   rotate_left
                   ·intro w'
                    go_simp
                    with_reducible rfl
                   rotate_left
                   ·exact pP
                   refine pure_ (i := 2) (N := some 50) (v := ?_) (a' := ?_) #[true, true, true, false, false, false, false, false, false, false, false, false, false, false, false, false, false, false, false, false, false, false, false, false, false, false] rfl rfl (any_of HT_.out pL) (fun _ _ _ h => h) (Or.inl ⟨by rfl, ?_⟩) ?_ ?_
                   rotate_left
                   ·intro w'
                    go_simp
                    with_reducible rfl
                   rotate_left
                   ·exact pP
                   refine pure_ (i := 3) (N := some 51) (v := ?_) (a' := ?_) #[true, true, true, true, false, false, false, false, false, false, false, false, false, false, false, false, false, false, false, false, false, false, false, false, false, false] rfl rfl (any_of HT_.out pL) (fun _ _ _ h => h) (Or.inl ⟨by rfl, ?_⟩) ?_ ?_
                   rotate_left
                   ·intro w'
                    go_simp
                    with_reducible rfl
                   rotate_left
                   ·exact pP
                   refine pure_ (i := 4) (N := some 52) (v := ?_) (a' := ?_) #[true, true, true, true, true, false, false, false, false, false, false, false, false, false, false, false, false, false, false, false, false, false, false, false, false, false] rfl rfl (any_of HT_.out pL) (fun _ _ _ h => h) (Or.inl ⟨by rfl, ?_⟩) ?_ ?_
                   rotate_left
                   ·intro w'
                    go_simp
                    with_reducible rfl
                   rotate_left
                   ·exact pP
                   refine pure_ (i := 5) (N := some 53) (v := ?_) (a' := ?_) #[true, true, true, true, true, true, false, false, false, false, false, false, false, false, false, false, false, false, false, false, false, false, false, false, false, false] rfl rfl (any_of HT_.out pL) (fun _ _ _ h => h) (Or.inl ⟨by rfl, ?_⟩) ?_ ?_
                   rotate_left
                   ·intro w'
                    go_simp
                    with_reducible rfl
                   rotate_left
                   ·exact pP
                   refine pure_ (i := 6) (N := some 54) (v := ?_) (a' := ?_) #[true, true, true, true, true, true, true, false, false, false, false, false, false, false, false, false, false, false, false, false, false, false, false, false, false, false] rfl rfl (any_of HT_.out pL) (fun _ _ _ h => h) (Or.inl ⟨by rfl, ?_⟩) ?_ ?_
                   rotate_left
                   ·intro w'
                    go_simp
                    with_reducible rfl
                   rotate_left
                   ·exact pP
                   refine pure_ (i := 7) (N := some 55) (v := ?_) (a' := ?_) #[true, true, true, true, true, true, true, true, false, false, false, false, false, false, false, false, false, false, false, false, false, false, false, false, false, false] rfl rfl (any_of HT_.out pL) (fun _ _ _ h => h) (Or.inl ⟨by rfl, ?_⟩) ?_ ?_
                   rotate_left
                   ·intro w'
                    go_simp
                    with_reducible rfl
                   rotate_left
                   ·exact pP
                   refine pure_ (i := 8) (N := some 56) (v := ?_) (a' := ?_) #[true, true, true, true, true, true, true, true, true, false, false, false, false, false, false, false, false, false, false, false, false, false, false, false, false, false] rfl rfl (any_of HT_.out pL) (fun _ _ _ h => h) (Or.inl ⟨by rfl, ?_⟩) ?_ ?_
                   rotate_left
                   ·intro w'
                    go_simp
                    with_reducible rfl
                   rotate_left
                   ·exact pP
                   refine pure_ (i := 10) (N := some 58) (v := ?_) (a' := ?_) #[true, true, true, true, true, true, true, true, true, false, true, false, false, false, false, false, false, false, false, false, false, false, false, false, false, false] rfl rfl (any_of HT_.out pL) (fun _ _ _ h => h) (Or.inl ⟨by rfl, ?_⟩) ?_ ?_
                   rotate_left
                   ·intro w'
                    go_simp
                    with_reducible rfl
                   rotate_left
                   ·exact pP
                   refine pure_ (i := 11) (N := some 59) (v := ?_) (a' := ?_) #[true, true, true, true, true, true, true, true, true, false, true, true, false, false, false, false, false, false, false, false, false, false, false, false, false, false] rfl rfl (any_of HT_.out pL) (fun _ _ _ h => h) (Or.inl ⟨by rfl, ?_⟩) ?_ ?_
                   rotate_left
                   ·intro w'
                    go_simp
                    with_reducible rfl
                   rotate_left
                   ·exact pP
                   refine pure_ (i := 12) (N := some 60) (v := ?_) (a' := ?_) #[true, true, true, true, true, true, true, true, true, false, true, true, true, false, false, false, false, false, false, false, false, false, false, false, false, false] rfl rfl (any_of HT_.out pL) (fun _ _ _ h => h) (Or.inl ⟨by rfl, ?_⟩) ?_ ?_
                   rotate_left
                   ·intro w'
                    go_simp
                    with_reducible rfl
                   rotate_left
                   ·exact pP
                   refine pure_ (i := 13) (N := some 61) (v := ?_) (a' := ?_) #[true, true, true, true, true, true, true, true, true, false, true, true, true, true, false, false, false, false, false, false, false, false, false, false, false, false] rfl rfl (any_of HT_.out pL) (fun _ _ _ h => h) (Or.inl ⟨by rfl, ?_⟩) ?_ ?_
                   rotate_left
                   ·intro w'
                    go_simp
                    with_reducible rfl
                   rotate_left
                   ·exact pP
                   refine take_ (i := 9) (N := some 57) (v := ?_) (a' := ?_) #[true, true, true, true, true, true, true, true, true, true, true, true, true, true, false, false, false, false, false, false, false, false, false, false, false, false] rfl rfl (take_ofW HT_.out HW_.out pL) (fun _ _ _ h => h) (Or.inl ⟨by rfl, ?_⟩) hHeld ?_ ?_
                   rotate_left
                   ·rintro w' ⟨s0, s1, s2, s3, s4, s5, s6, s7, s8, s9⟩
                    go_simp
                    with_reducible rfl
                   rotate_left
                   ·exact pP
                   refine take_ (i := 14) (N := some 62) (v := ?_) (a' := ?_) #[true, true, true, true, true, true, true, true, true, true, true, true, true, true, true, false, false, false, false, false, false, false, false, false, false, false] rfl rfl (take_ofW HT_.out HW_.out pL) (fun _ _ _ h => h) (Or.inl ⟨by rfl, ?_⟩) hHeld ?_ ?_
                   rotate_left
                   ·rintro w' ⟨s0, s1, s2, s3, s4, s5, s6, s7, s8, s9⟩
                    go_simp
                    with_reducible rfl
                   rotate_left
                   ·exact pP
                   refine pure_ (i := 15) (N := some 63) (v := ?_) (a' := ?_) #[true, true, true, true, true, true, true, true, true, true, true, true, true, true, true, true, false, false, false, false, false, false, false, false, false, false] rfl rfl (any_of HT_.out pL) (fun _ _ _ h => h) (Or.inl ⟨by rfl, ?_⟩) ?_ ?_
                   rotate_left
                   ·intro w'
                    go_simp
                    with_reducible rfl
                   rotate_left
                   ·exact pP
                   refine pure_ (i := 16) (N := some 64) (v := ?_) (a' := ?_) #[true, true, true, true, true, true, true, true, true, true, true, true, true, true, true, true, true, false, false, false, false, false, false, false, false, false] rfl rfl (any_of HT_.out pL) (fun _ _ _ h => h) (Or.inl ⟨by rfl, ?_⟩) ?_ ?_
                   rotate_left
                   ·intro w'
                    go_simp
                    with_reducible rfl
                   rotate_left
                   ·exact pP
                   refine pure_ (i := 17) (N := some 65) (v := undef) (a' := ?_) #[true, true, true, true, true, true, true, true, true, true, true, true, true, true, true, true, true, true, false, false, false, false, false, false, false, false] rfl rfl (any_of HT_.out pL) (fun _ _ _ h => h) (Or.inr ⟨by rfl, rfl⟩) ?_ ?_
                   rotate_left
                   ·exact pP
                   refine pure_ (i := 18) (N := some 66) (v := undef) (a' := ?_) #[true, true, true, true, true, true, true, true, true, true, true, true, true, true, true, true, true, true, true, false, false, false, false, false, false, false] rfl rfl (any_of HT_.out pL) (fun _ _ _ h => h) (Or.inr ⟨by rfl, rfl⟩) ?_ ?_
                   rotate_left
                   ·exact pP
                   refine pure_ (i := 19) (N := some 67) (v := undef) (a' := ?_) #[true, true, true, true, true, true, true, true, true, true, true, true, true, true, true, true, true, true, true, true, false, false, false, false, false, false] rfl rfl (any_of HT_.out pL) (fun _ _ _ h => h) (Or.inr ⟨by rfl, rfl⟩) ?_ ?_
                   rotate_left
                   ·exact pP
                   refine pure_ (i := 20) (N := some 68) (v := undef) (a' := ?_) #[true, true, true, true, true, true, true, true, true, true, true, true, true, true, true, true, true, true, true, true, true, false, false, false, false, false] rfl rfl (any_of HT_.out pL) (fun _ _ _ h => h) (Or.inr ⟨by rfl, rfl⟩) ?_ ?_
                   rotate_left
                   ·exact pP
                   refine pure_ (i := 21) (N := some 69) (v := undef) (a' := ?_) #[true, true, true, true, true, true, true, true, true, true, true, true, true, true, true, true, true, true, true, true, true, true, false, false, false, false] rfl rfl (any_of HT_.out pL) (fun _ _ _ h => h) (Or.inr ⟨by rfl, rfl⟩) ?_ ?_
                   rotate_left
                   ·exact pP
                   refine pure_ (i := 22) (N := some 70) (v := undef) (a' := ?_) #[true, true, true, true, true, true, true, true, true, true, true, true, true, true, true, true, true, true, true, true, true, true, true, false, false, false] rfl rfl (any_of HT_.out pL) (fun _ _ _ h => h) (Or.inr ⟨by rfl, rfl⟩) ?_ ?_
                   rotate_left
                   ·exact pP
                   refine pure_ (i := 23) (N := some 71) (v := undef) (a' := ?_) #[true, true, true, true, true, true, true, true, true, true, true, true, true, true, true, true, true, true, true, true, true, true, true, true, false, false] rfl rfl (any_of HT_.out pL) (fun _ _ _ h => h) (Or.inr ⟨by rfl, rfl⟩) ?_ ?_
                   rotate_left
                   ·exact pP
                   refine pure_ (i := 24) (N := some 72) (v := ?_) (a' := ?_) #[true, true, true, true, true, true, true, true, true, true, true, true, true, true, true, true, true, true, true, true, true, true, true, true, true, false] rfl rfl (any_of HT_.out pL) (fun _ _ _ h => h) (Or.inl ⟨by rfl, ?_⟩) ?_ ?_
                   rotate_left
                   ·intro w'
                    go_simp
                    with_reducible rfl
                   rotate_left
                   ·exact pP
                   refine pure_ (i := 25) (N := some 73) (v := ?_) (a' := ?_) #[true, true, true, true, true, true, true, true, true, true, true, true, true, true, true, true, true, true, true, true, true, true, true, true, true, true] rfl rfl (any_of HT_.out pL) (fun _ _ _ h => h) (Or.inl ⟨by rfl, ?_⟩) ?_ ?_
                   rotate_left
                   ·intro w'
                    go_simp
                    with_reducible rfl
                   rotate_left
                   ·exact pP
                   refine done_ (done_of HT_.out pL) ?_
                   try go_wp2
                   go_roundg k4
                   case measure => have := HJ4.out; have := HK2.out; have := HJ19.out; have := HK4.out; omega
                   case rel => exact ⟨(wrap64 (x12_4 + 1)), pF, H', ⟨by have := HJ4.out; have := HK2.out; have := HJ19.out; have := HK4.out; omega⟩, ⟨pR HO_10⟩, ⟨pB⟩⟩
                 ·rw [if_neg c30] at H
                  exact absurd H (by simp)
                ·rw [if_neg c29] at H
                 exact absurd H (by simp)
               ·rw [if_neg c28] at H
                exact absurd H (by simp)
              ·rw [if_neg c27] at H
               have c27b0 : decide (x12_4 < (l0.length : Int)) = false := decide_eq_false c27
               clear c27
               (first | rw [c27b0] | (simp only [i64_w, i32_w]; rw [c27b0]) | skip)
               have H' := Aside0.mk H
               clear H
               try go_wp2
               have n0_ := Aside0.mk (Kd.R_drew HO_10.out)
               have n1_ := Aside0.mk (below_drew1 HB.out)
               clear HO_10
               clear HB
               have HO_10 := n0_
               have HB := n1_
               clear n0_ n1_
               refine start_ (n := 26) (S := fun w' => True) (ds := []) #[false, false, false, false, false, false, false, false, false, false, false, false, false, false, false, false, false, false, false, false, false, false, false, false, false, false] pL rfl rfl trivial (fun hHeld => ?_); refine with_tabW spec_SwapNeeds.tab9 spec_SwapNeeds.bits9 (fun HT_ HW_ => ?_)
               generalize wr.drew = w37 at HO_10 HB hHeld ⊢
               refine pure_ (i := 0) (N := some 48) (v := ?_) (a' := ?_) #[true, false, false, false, false, false, false, false, false, false, false, false, false, false, false, false, false, false, false, false, false, false, false, false, false, false] rfl rfl (any_of HT_.out pL) (fun _ _ _ h => h) (Or.inl ⟨by rfl, ?_⟩) ?_ ?_
               rotate_left
               ·intro w'
                go_simp
                with_reducible rfl
               rotate_left
               ·exact pP
               refine pure_ (i := 1) (N := some 49) (v := ?_) (a' := ?_) #[true, true, false, false, false, false, false, false, false, false, false, false, false, false, false, false, false, false, false, false, false, false, false, false, false, false] rfl rfl (any_of HT_.out pL) (fun _ _ _ h => h) (Or.inl ⟨by rfl, ?_⟩) ?_ ?_
               rotate_left
               ·intro w'
                go_simp
                with_reducible rfl
               rotate_left
               ·exact pP
               refine pure_ (i := 2) (N := some 50) (v := ?_) (a' := ?_) #[true, true, true, false, false, false, false, false, false, false, false, false, false, false, false, false, false, false, false, false, false, false, false, false, false, false] rfl rfl (any_of HT_.out pL) (fun _ _ _ h => h) (Or.inl ⟨by rfl, ?_⟩) ?_ ?_
               rotate_left
               ·intro w'
                go_simp
                with_reducible rfl
               rotate_left
               ·exact pP
               refine pure_ (i := 3) (N := some 51) (v := ?_) (a' := ?_) #[true, true, true, true, false, false, false, false, false, false, false, false, false, false, false, false, false, false, false, false, false, false, false, false, false, false] rfl rfl (any_of HT_.out pL) (fun _ _ _ h => h) (Or.inl ⟨by rfl, ?_⟩) ?_ ?_
               rotate_left
               ·intro w'
                go_simp
                with_reducible rfl
               rotate_left
               ·exact pP
               refine pure_ (i := 4) (N := some 52) (v := ?_) (a' := ?_) #[true, true, true, true, true, false, false, false, false, false, false, false, false, false, false, false, false, false, false, false, false, false, false, false, false, false] rfl rfl (any_of HT_.out pL) (fun _ _ _ h => h) (Or.inl ⟨by rfl, ?_⟩) ?_ ?_
               rotate_left
               ·intro w'
                go_simp
                with_reducible rfl
               rotate_left
               ·exact pP
               refine pure_ (i := 5) (N := some 53) (v := undef) (a' := ?_) #[true, true, true, true, true, true, false, false, false, false, false, false, false, false, false, false, false, false, false, false, false, false, false, false, false, false] rfl rfl (any_of HT_.out pL) (fun _ _ _ h => h) (Or.inr ⟨by rfl, rfl⟩) ?_ ?_
               rotate_left
               ·exact pP
               refine pure_ (i := 6) (N := some 54) (v := undef) (a' := ?_) #[true, true, true, true, true, true, true, false, false, false, false, false, false, false, false, false, false, false, false, false, false, false, false, false, false, false] rfl rfl (any_of HT_.out pL) (fun _ _ _ h => h) (Or.inr ⟨by rfl, rfl⟩) ?_ ?_
               rotate_left
               ·exact pP
               refine pure_ (i := 7) (N := some 55) (v := undef) (a' := ?_) #[true, true, true, true, true, true, true, true, false, false, false, false, false, false, false, false, false, false, false, false, false, false, false, false, false, false] rfl rfl (any_of HT_.out pL) (fun _ _ _ h => h) (Or.inr ⟨by rfl, rfl⟩) ?_ ?_
               rotate_left
               ·exact pP
               refine pure_ (i := 8) (N := some 56) (v := undef) (a' := ?_) #[true, true, true, true, true, true, true, true, true, false, false, false, false, false, false, false, false, false, false, false, false, false, false, false, false, false] rfl rfl (any_of HT_.out pL) (fun _ _ _ h => h) (Or.inr ⟨by rfl, rfl⟩) ?_ ?_
               rotate_left
               ·exact pP
               refine pure_ (i := 9) (N := some 57) (v := undef) (a' := ?_) #[true, true, true, true, true, true, true, true, true, true, false, false, false, false, false, false, false, false, false, false, false, false, false, false, false, false] rfl rfl (any_of HT_.out pL) (fun _ _ _ h => h) (Or.inr ⟨by rfl, rfl⟩) ?_ ?_
               rotate_left
               ·exact pP
               refine pure_ (i := 10) (N := some 58) (v := undef) (a' := ?_) #[true, true, true, true, true, true, true, true, true, true, true, false, false, false, false, false, false, false, false, false, false, false, false, false, false, false] rfl rfl (any_of HT_.out pL) (fun _ _ _ h => h) (Or.inr ⟨by rfl, rfl⟩) ?_ ?_
               rotate_left
               ·exact pP
               refine pure_ (i := 11) (N := some 59) (v := undef) (a' := ?_) #[true, true, true, true, true, true, true, true, true, true, true, true, false, false, false, false, false, false, false, false, false, false, false, false, false, false] rfl rfl (any_of HT_.out pL) (fun _ _ _ h => h) (Or.inr ⟨by rfl, rfl⟩) ?_ ?_
               rotate_left
               ·exact pP
               refine pure_ (i := 12) (N := some 60) (v := undef) (a' := ?_) #[true, true, true, true, true, true, true, true, true, true, true, true, true, false, false, false, false, false, false, false, false, false, false, false, false, false] rfl rfl (any_of HT_.out pL) (fun _ _ _ h => h) (Or.inr ⟨by rfl, rfl⟩) ?_ ?_
               rotate_left
               ·exact pP
               refine pure_ (i := 13) (N := some 61) (v := undef) (a' := ?_) #[true, true, true, true, true, true, true, true, true, true, true, true, true, true, false, false, false, false, false, false, false, false, false, false, false, false] rfl rfl (any_of HT_.out pL) (fun _ _ _ h => h) (Or.inr ⟨by rfl, rfl⟩) ?_ ?_
               rotate_left
               ·exact pP
               refine pure_ (i := 14) (N := some 62) (v := undef) (a' := ?_) #[true, true, true, true, true, true, true, true, true, true, true, true, true, true, true, false, false, false, false, false, false, false, false, false, false, false] rfl rfl (any_of HT_.out pL) (fun _ _ _ h => h) (Or.inr ⟨by rfl, rfl⟩) ?_ ?_
               rotate_left
               ·exact pP
               refine pure_ (i := 15) (N := some 63) (v := undef) (a' := ?_) #[true, true, true, true, true, true, true, true, true, true, true, true, true, true, true, true, false, false, false, false, false, false, false, false, false, false] rfl rfl (any_of HT_.out pL) (fun _ _ _ h => h) (Or.inr ⟨by rfl, rfl⟩) ?_ ?_
               rotate_left
               ·exact pP
               refine pure_ (i := 16) (N := some 64) (v := undef) (a' := ?_) #[true, true, true, true, true, true, true, true, true, true, true, true, true, true, true, true, true, false, false, false, false, false, false, false, false, false] rfl rfl (any_of HT_.out pL) (fun _ _ _ h => h) (Or.inr ⟨by rfl, rfl⟩) ?_ ?_
               rotate_left
               ·exact pP
               refine pure_ (i := 17) (N := some 65) (v := undef) (a' := ?_) #[true, true, true, true, true, true, true, true, true, true, true, true, true, true, true, true, true, true, false, false, false, false, false, false, false, false] rfl rfl (any_of HT_.out pL) (fun _ _ _ h => h) (Or.inr ⟨by rfl, rfl⟩) ?_ ?_
               rotate_left
               ·exact pP
               refine pure_ (i := 18) (N := some 66) (v := undef) (a' := ?_) #[true, true, true, true, true, true, true, true, true, true, true, true, true, true, true, true, true, true, true, false, false, false, false, false, false, false] rfl rfl (any_of HT_.out pL) (fun _ _ _ h => h) (Or.inr ⟨by rfl, rfl⟩) ?_ ?_
               rotate_left
               ·exact pP
               refine pure_ (i := 19) (N := some 67) (v := undef) (a' := ?_) #[true, true, true, true, true, true, true, true, true, true, true, true, true, true, true, true, true, true, true, true, false, false, false, false, false, false] rfl rfl (any_of HT_.out pL) (fun _ _ _ h => h) (Or.inr ⟨by rfl, rfl⟩) ?_ ?_
               rotate_left
               ·exact pP
               refine pure_ (i := 20) (N := some 68) (v := undef) (a' := ?_) #[true, true, true, true, true, true, true, true, true, true, true, true, true, true, true, true, true, true, true, true, true, false, false, false, false, false] rfl rfl (any_of HT_.out pL) (fun _ _ _ h => h) (Or.inr ⟨by rfl, rfl⟩) ?_ ?_
               rotate_left
               ·exact pP
               refine pure_ (i := 21) (N := some 69) (v := undef) (a' := ?_) #[true, true, true, true, true, true, true, true, true, true, true, true, true, true, true, true, true, true, true, true, true, true, false, false, false, false] rfl rfl (any_of HT_.out pL) (fun _ _ _ h => h) (Or.inr ⟨by rfl, rfl⟩) ?_ ?_
               rotate_left
               ·exact pP
               refine pure_ (i := 22) (N := some 70) (v := undef) (a' := ?_) #[true, true, true, true, true, true, true, true, true, true, true, true, true, true, true, true, true, true, true, true, true, true, true, false, false, false] rfl rfl (any_of HT_.out pL) (fun _ _ _ h => h) (Or.inr ⟨by rfl, rfl⟩) ?_ ?_
               rotate_left
               ·exact pP
               refine pure_ (i := 23) (N := some 71) (v := undef) (a' := ?_) #[true, true, true, true, true, true, true, true, true, true, true, true, true, true, true, true, true, true, true, true, true, true, true, true, false, false] rfl rfl (any_of HT_.out pL) (fun _ _ _ h => h) (Or.inr ⟨by rfl, rfl⟩) ?_ ?_
               rotate_left
               ·exact pP
               refine pure_ (i := 24) (N := some 72) (v := undef) (a' := ?_) #[true, true, true, true, true, true, true, true, true, true, true, true, true, true, true, true, true, true, true, true, true, true, true, true, true, false] rfl rfl (any_of HT_.out pL) (fun _ _ _ h => h) (Or.inr ⟨by rfl, rfl⟩) ?_ ?_
               rotate_left
               ·exact pP
               refine pure_ (i := 25) (N := some 73) (v := ?_) (a' := ?_) #[true, true, true, true, true, true, true, true, true, true, true, true, true, true, true, true, true, true, true, true, true, true, true, true, true, true] rfl rfl (any_of HT_.out pL) (fun _ _ _ h => h) (Or.inl ⟨by rfl, ?_⟩) ?_ ?_
               rotate_left
               ·intro w'
                go_simp
                with_reducible rfl
               rotate_left
               ·exact pP
               refine done_ (done_of HT_.out pL) ?_
               try go_wp2
               go_meet
               case rel => exact ⟨_, (x12_4), pF, H', ⟨by have := HJ4.out; have := HK2.out; have := HJ19.out; have := HK4.out; first | omega | exact Nat.le_refl _⟩, ⟨pR HO_10⟩, ⟨pB⟩⟩
           case rest =>
            clear HC26
            try clear c2
            try clear p2
            try clear c3
            try clear c6
            try clear p6
            try clear q6
            try clear hx6
            try clear c27
            try clear c27b0
            try clear c28
            try clear c29
            try clear c30
            try clear c31
            try clear c31b0
            try clear c31b1
            try clear hx600_0
            try clear hx600_1
            try clear hx600_2
            try clear hx600_3
            try clear hx601_0
            try clear hx601_1
            try clear hx601_2
            try clear hx601_3
            try clear hx601_4
            try clear hx601_5
            try clear p600
            try clear p601
            try clear q600
            try clear q601
            obtain ⟨kq, x12_25, rfl, HA, HJ25, HO_10, HB⟩ := hcut
            cases kq with
            | zero => exact absurd HA.out (by simp [spec_SwapNeeds.j4])
            | succ kj25 =>
             have H := HA.out
             clear HA
             simp only [spec_SwapNeeds.j4] at H
             by_cases c38 : x12_25 = (l0.length : Int)
             ·rw [if_pos c38] at H
              have c38b0 : (x12_25 == (l0.length : Int)) = true := beq_iff_eq.mpr c38
              have c38b1 : (x12_25 != (l0.length : Int)) = false := bne_eq_false_iff_eq.mpr c38
              clear c38
              obtain ⟨y604, hy604⟩ : ∃ y_ : List Int, y_ = (([] : List Int)) := ⟨_, rfl⟩
              replace H : (some (y604, false)) = some (r1, r2) := by first | (rw [hy604]; with_reducible exact H) | (have H2_ := (Option.bind_some _ _).symm.trans H; rw [hy604]; with_reducible exact H2_) | (have H2_ := (Option.bind_some _ _).symm.trans H; with_reducible exact H2_) | with_reducible exact H | (rw [hy604]; exact H) | exact H
              have Ny604 := Aside0.mk hy604
              clear hy604
              simp only [Option.some.injEq, Prod.mk.injEq] at H
              obtain ⟨rfl, rfl⟩ := H
              go_wp2_with (first | ((with_reducible refine gate_dst (N := 80) rfl ?_); refine Kd.R_lit (Kd.int .i64) _ 3 ?hg (N := 80) ?hd (xs := ([] : List Int)) (inner := []) (ok := fun _ => True) (okp := fun _ => True) ?hr ?hp (fun _ hk => hk) trivial (Below.refl _ _) (Nat.le_refl _) (by simp) ?_; (case hd => rfl); (case hg => rfl); (case hr => first | (go_simp; done) | (go_simp; rfl)); (case hp => exact (Reps.none _ _)); intro v605 w39 ho40 hb hg_ hnew_; clear hg_ hnew_; (first | rw [← Ny604.out] at ho40 | (simp only [Int.reduceToNat] at ho40; rw [← Ny604.out] at ho40)); have n0_ := Aside0.mk (Kd.R_elder' (pR HO_10) (Kd.R_base ho40) hb); have n1_ := Aside0.mk (Kd.R_lower (Kd.R_new' ho40 (Kd.R_lt (pR HO_10))) (below_size pB)); have n2_ := Aside0.mk (below_step pB hb); clear HO_10; clear HB; have HO_10 := n0_; have HO606 := n1_; have HB := n2_; clear n0_ n1_ n2_; clear hb ho40))
              go_ret2
              exact ⟨_, pE, by (with_reducible repeat (first | apply Kd.R_alloc | apply Kd.R_drewN | apply Kd.R_drew)); exact Kd.R_mono HO606.out (fun _ hk => trivial), pB⟩
             ·rw [if_neg c38] at H
              have c38b0 : (x12_25 == (l0.length : Int)) = false := beq_eq_false_iff_ne.mpr c38
              have c38b1 : (x12_25 != (l0.length : Int)) = true := bne_iff_ne.mpr c38
              by_cases c41 : 0 ≤ x12_25
              ·rw [if_pos c41] at H
               have c41b0 : decide (0 ≤ x12_25) = true := decide_eq_true c41
               clear c41
               by_cases c42 : x12_25 < (l0.length : Int)
               ·rw [if_pos c42] at H
                have c42b0 : decide (x12_25 < (l0.length : Int)) = true := decide_eq_true c42
                clear c42
                replace H := Option.bind_eq_some_iff.mp H
                obtain ⟨t608, A430, H⟩ := H
                replace H : (if 0 ≤ x11_2 then (if x11_2 < (x10_2.length : Int) then ((some (x10_2.set (x11_2 : Int).toNat 0 : List Int)).bind fun y609 => (if 0 ≤ t608 then (if t608 < (x10_2.length : Int) then (if x11_2 < (l2.length : Int) then ((spec_l1Up.f (wrap64 ((rd l2 x11_2) * ((rd_T41 l0 x12_25).f2))) ((rd_T41 l0 x12_25).f3)).bind fun t614 => (spec_SwapNeeds.l0 kj25 l0 l1 l2 l3 (y609.set (t608 : Int).toNat (wrap64 ((rd y609 t608) + t614))) (wrap64 (x11_2 + 1)))) else (none)) else (none)) else (none))) else (none)) else (none)) = some (r1, r2) := H
                have A43 := Aside0.mk A430
                clear A430
                by_cases c44 : 0 ≤ x11_2
                ·rw [if_pos c44] at H
                 have c44b0 : decide (0 ≤ x11_2) = true := decide_eq_true c44
                 clear c44
                 by_cases c45 : x11_2 < (x10_2.length : Int)
                 ·rw [if_pos c45] at H
                  have c45b0 : decide (x11_2 < (x10_2.length : Int)) = true := decide_eq_true c45
                  clear c45
                  obtain ⟨y609, hy609⟩ : ∃ y_ : List Int, y_ = (x10_2.set (x11_2 : Int).toNat 0) := ⟨_, rfl⟩
                  replace H : (if 0 ≤ t608 then (if t608 < (x10_2.length : Int) then (if x11_2 < (l2.length : Int) then ((spec_l1Up.f (wrap64 ((rd l2 x11_2) * ((rd_T41 l0 x12_25).f2))) ((rd_T41 l0 x12_25).f3)).bind fun t614 => (spec_SwapNeeds.l0 kj25 l0 l1 l2 l3 (y609.set (t608 : Int).toNat (wrap64 ((rd y609 t608) + t614))) (wrap64 (x11_2 + 1)))) else (none)) else (none)) else (none)) = some (r1, r2) := by first | (rw [hy609]; with_reducible exact H) | (have H2_ := (Option.bind_some _ _).symm.trans H; rw [hy609]; with_reducible exact H2_) | (have H2_ := (Option.bind_some _ _).symm.trans H; with_reducible exact H2_) | with_reducible exact H | (rw [hy609]; exact H) | exact H
                  have Ny609 := Aside0.mk hy609
                  clear hy609
                  by_cases c47 : 0 ≤ t608
                  ·rw [if_pos c47] at H
                   have c47b0 : decide (0 ≤ t608) = true := decide_eq_true c47
                   clear c47
                   by_cases c48 : t608 < (x10_2.length : Int)
                   ·rw [if_pos c48] at H
                    have c48b0 : decide (t608 < (x10_2.length : Int)) = true := decide_eq_true c48
                    clear c48
                    by_cases c49 : x11_2 < (l2.length : Int)
                    ·rw [if_pos c49] at H
                     have c49b0 : decide (x11_2 < (l2.length : Int)) = true := decide_eq_true c49
                     clear c49
                     replace H := Option.bind_eq_some_iff.mp H
                     obtain ⟨t614, A500, H⟩ := H
                     replace H : (spec_SwapNeeds.l0 kj25 l0 l1 l2 l3 (y609.set (t608 : Int).toNat (wrap64 ((rd y609 t608) + t614))) (wrap64 (x11_2 + 1))) = some (r1, r2) := H
                     have A50 := Aside0.mk A500
                     clear A500
                     obtain ⟨y615, hy615⟩ : ∃ y_ : List Int, y_ = (y609.set (t608 : Int).toNat (wrap64 ((rd y609 t608) + t614))) := ⟨_, rfl⟩
                     replace H : (spec_SwapNeeds.l0 kj25 l0 l1 l2 l3 y615 (wrap64 (x11_2 + 1))) = some (r1, r2) := by first | (rw [hy615]; with_reducible exact H) | (have H2_ := (Option.bind_some _ _).symm.trans H; rw [hy615]; with_reducible exact H2_) | (have H2_ := (Option.bind_some _ _).symm.trans H; with_reducible exact H2_) | with_reducible exact H | (rw [hy615]; exact H) | exact H
                     have Ny615 := Aside0.mk hy615
                     clear hy615
                     have H' := Aside0.mk H
                     clear H
                     have p607 : 0 ≤ (x12_25 : Int) := of_decide_eq_true pA
                     have q607 : x12_25 < (l0.length : Int) := of_decide_eq_true pA
                     obtain ⟨ad607, e607, hx607_0, hx607_1, hx607_2, hx607_3⟩ := at_T41 HR0.out x12_25 p607 q607
                     cases e607
                     replace hx607_0 := (HB.out.cell (World.block_lt_of_cell? w _ hx607_0)).trans hx607_0
                     replace hx607_1 := (HB.out.cell (World.block_lt_of_cell? w _ hx607_1)).trans hx607_1
                     replace hx607_2 := (HB.out.cell (World.block_lt_of_cell? w _ hx607_2)).trans hx607_2
                     replace hx607_3 := (HB.out.cell (World.block_lt_of_cell? w _ hx607_3)).trans hx607_3
                     replace p607 := eq_true p607
                     replace q607 := eq_true q607
                     try go_wp2_with (first | ((with_reducible refine gate_callee (f := 57) rfl ?_); refine goesL_ (some 87) rfl rfl Try.func57 pL rfl #[.slice A1 l1.length c1, .int .i64 ((rd_T41 l0 x12_25).f1)] rfl pM ?_; (with_reducible refine (spec_l5Find.calls kj25 _ _ l1 ((rd_T41 l0 x12_25).f1) t608 _ ?side1 ?side2 A43.out).mono ?_); (case side1 => exact pS ((Kd.C_below HR1.out HB.out))); (case side2 => exact HC1.out); rintro e w' ⟨rfl, ⟨nd, rfl⟩⟩; refine ⟨_, rfl, ?_⟩; (try (rw [drewN_self wc]; generalize hq_ : World.drewN wc _ = wc; have n0_ : Aside0 (Kd.R (Kd.int .i64) 3 wc w.heap.size (fun _ => True) v591 x10_2) := ⟨by rw [← hq_]; exact (pR HO_10)⟩; have n1_ : Aside0 (Below w.heap.size w wc) := ⟨by rw [← hq_]; exact pB⟩; clear HO_10 HB hq_; have HO_10 := n0_; have HB := n1_; clear n0_ n1_)); have p46 : 0 ≤ (x11_2 : Int) := of_decide_eq_true pA; have q46 : (x11_2 : Int) < ((x10_2.length : Int) : Int) := of_decide_eq_true pA; obtain ⟨go46, co46, eo46, gb46, gl46, cl46, HG46⟩ := Kd.R_form HO_10.out (by omega); (first | cases eo46 | (injection eo46 with ea_ en_ ec_; (first | subst ea_ | (injection ea_ with ea_; subst ea_)); subst ec_; clear en_)); have GB46 := Aside0.mk gb46; have GG46 := Aside0.mk HG46; clear gb46 gl46 HG46; obtain ⟨hx46_0, hf46_0⟩ := Kd.R_celln 0 HO_10.out (x11_2 : Int) p46 q46; replace p46 := eq_true p46; replace q46 := eq_true q46; obtain ⟨hy52_, hz52_⟩ := Kd.R_celln 0 HO_10.out (x11_2 : Int) (of_decide_eq_true pA) (of_decide_eq_true pA); have HP52 := Kd.R_putg HO_10.out (x11_2 : Int) 0) | ((with_reducible refine gate_store (t := 3) (p := 90) rfl ?_); refine store_event (t := 3) (p := 90) (v := ?vo_w53) (w1 := (wc.setCell ⟨go46, (x11_2 : Int).toNat, none⟩ (.int .i64 0))) ?hg ?ho ?hn ?hr ?_; (case ho => rfl); (case hg => rfl); (case hn => rfl); (case hr => first | (go_simp; done) | (go_simp; rfl)); intro w53 hw; have hg : wc.grownBy w53 (some go46) := (by rw [hw]; exact HP52.2); have hp_ : Kd.R (Kd.int .i64) 3 w53 w.heap.size (fun _ => True) (.slice (some ⟨go46, 0, none⟩) x10_2.length co46) y609 := (by rw [hw, Ny609.out]; exact HP52.1); clear HP52; have n0_ := Aside0.mk (hp_); have n1_ := Aside0.mk ((by rw [hw]; exact below_set (HB.out) GB46.out : Below w.heap.size w w53)); clear HO_10; clear HB; have HO_10 := n0_; have HB := n1_; clear n0_ n1_; clear hg hw hp_))
                     have n0_ := Aside0.mk (Kd.R_drew HO_10.out)
                     have n1_ := Aside0.mk (below_drew1 HB.out)
                     clear HO_10
                     clear HB
                     have HO_10 := n0_
                     have HB := n1_
                     clear n0_ n1_
                     have p610 : 0 ≤ (t608 : Int) := of_decide_eq_true pA
                     have q610 : t608 < (y609.length : Int) := (by have h_ : (t608 : Int) < ((x10_2.length : Int) : Int) := of_decide_eq_true pA; first | (have e_ := (Kd.R_reads' HO_10.out).1; omega) | simpa only [Ny609.out, List.length_set] using h_)
                     have ql610 : ((t608 : Int) < ((x10_2.length : Int) : Int)) = True := eq_true (of_decide_eq_true pA)
                     obtain ⟨ad610, e610, hx610_0⟩ := Kd.at_int (Kd.R_reads' HO_10.out).2.2 t608 p610 q610
                     obtain rfl : (⟨go46, 0, none⟩ : Addr) = ad610 := (by injection e610)
                     (first | simp only [add_plain] at hx610_0 | simp only [add_at] at hx610_0 | simp only [Addr.add, Nat.zero_add] at hx610_0 | skip)
                     replace p610 := eq_true p610
                     replace q610 := eq_true q610
                     have p611 : 0 ≤ (x11_2 : Int) := of_decide_eq_true pA
                     have q611 : x11_2 < (l2.length : Int) := of_decide_eq_true pA
                     obtain ⟨ad611, e611, hx611_0⟩ := Kd.at_int HR2.out x11_2 p611 q611
                     have hw611_0 := hx611_0
                     cases e611
                     replace hx611_0 := (HB.out.cell (World.block_lt_of_cell? w _ hx611_0)).trans hx611_0
                     replace p611 := eq_true p611
                     replace q611 := eq_true q611
                     have p612 : 0 ≤ (x12_25 : Int) := of_decide_eq_true pA
                     have q612 : x12_25 < (l0.length : Int) := of_decide_eq_true pA
                     obtain ⟨ad612, e612, hx612_0, hx612_1, hx612_2, hx612_3⟩ := at_T41 HR0.out x12_25 p612 q612
                     have hw612_3 := hx612_3
                     have hw612_2 := hx612_2
                     have hw612_1 := hx612_1
                     have hw612_0 := hx612_0
                     obtain rfl : ad607 = ad612 := (by injection e612)
                     replace hx612_0 := (HB.out.cell (World.block_lt_of_cell? w _ hx612_0)).trans hx612_0
                     replace hx612_1 := (HB.out.cell (World.block_lt_of_cell? w _ hx612_1)).trans hx612_1
                     replace hx612_2 := (HB.out.cell (World.block_lt_of_cell? w _ hx612_2)).trans hx612_2
                     replace hx612_3 := (HB.out.cell (World.block_lt_of_cell? w _ hx612_3)).trans hx612_3
                     replace p612 := eq_true p612
                     replace q612 := eq_true q612
                     have p613 : 0 ≤ (x12_25 : Int) := of_decide_eq_true pA
                     have q613 : x12_25 < (l0.length : Int) := of_decide_eq_true pA
                     obtain ⟨ad613, e613, hx613_0, hx613_1, hx613_2, hx613_3⟩ := at_T41 HR0.out x12_25 p613 q613
                     have hw613_3 := hx613_3
                     have hw613_2 := hx613_2
                     have hw613_1 := hx613_1
                     have hw613_0 := hx613_0
                     obtain rfl : ad607 = ad613 := (by injection e613)
                     replace hx613_0 := (HB.out.cell (World.block_lt_of_cell? w _ hx613_0)).trans hx613_0
                     replace hx613_1 := (HB.out.cell (World.block_lt_of_cell? w _ hx613_1)).trans hx613_1
                     replace hx613_2 := (HB.out.cell (World.block_lt_of_cell? w _ hx613_2)).trans hx613_2
                     replace hx613_3 := (HB.out.cell (World.block_lt_of_cell? w _ hx613_3)).trans hx613_3
                     replace p613 := eq_true p613
                     replace q613 := eq_true q613
                     refine start_ (n := 25) (S := fun w' => w'.cell? ⟨go46, (t608).toNat, none⟩ = some (.int .i64 (rd y609 t608)) ∧ w'.cell? (ad611.add (x11_2).toNat) = some (.int .i64 (rd l2 x11_2)) ∧ w'.cell? (ad607.add ((x12_25).toNat * 4)) = some (.int .i64 ((rd_T41 l0 x12_25).f0)) ∧ w'.cell? ⟨(ad607.add ((x12_25).toNat * 4)).block, (ad607.add ((x12_25).toNat * 4)).off + 1, none⟩ = some (.int .i64 ((rd_T41 l0 x12_25).f1)) ∧ w'.cell? ⟨(ad607.add ((x12_25).toNat * 4)).block, (ad607.add ((x12_25).toNat * 4)).off + 2, none⟩ = some (.int .i64 ((rd_T41 l0 x12_25).f2)) ∧ w'.cell? ⟨(ad607.add ((x12_25).toNat * 4)).block, (ad607.add ((x12_25).toNat * 4)).off + 3, none⟩ = some (.int .i64 ((rd_T41 l0 x12_25).f3)) ∧ w'.cell? (ad607.add ((x12_25).toNat * 4)) = some (.int .i64 ((rd_T41 l0 x12_25).f0)) ∧ w'.cell? ⟨(ad607.add ((x12_25).toNat * 4)).block, (ad607.add ((x12_25).toNat * 4)).off + 1, none⟩ = some (.int .i64 ((rd_T41 l0 x12_25).f1)) ∧ w'.cell? ⟨(ad607.add ((x12_25).toNat * 4)).block, (ad607.add ((x12_25).toNat * 4)).off + 2, none⟩ = some (.int .i64 ((rd_T41 l0 x12_25).f2)) ∧ w'.cell? ⟨(ad607.add ((x12_25).toNat * 4)).block, (ad607.add ((x12_25).toNat * 4)).off + 3, none⟩ = some (.int .i64 ((rd_T41 l0 x12_25).f3))) (ds := [24]) #[false, false, false, false, false, false, false, false, false, false, false, false, false, false, false, false, false, false, false, false, false, false, false, false, false] pL rfl rfl ⟨hx610_0, ((HB.out.cell (World.block_lt_of_cell? w _ hw611_0)).trans hw611_0), ((HB.out.cell (World.block_lt_of_cell? w _ hw612_0)).trans hw612_0), ((HB.out.cell (World.block_lt_of_cell? w _ hw612_1)).trans hw612_1), ((HB.out.cell (World.block_lt_of_cell? w _ hw612_2)).trans hw612_2), ((HB.out.cell (World.block_lt_of_cell? w _ hw612_3)).trans hw612_3), ((HB.out.cell (World.block_lt_of_cell? w _ hw613_0)).trans hw613_0), ((HB.out.cell (World.block_lt_of_cell? w _ hw613_1)).trans hw613_1), ((HB.out.cell (World.block_lt_of_cell? w _ hw613_2)).trans hw613_2), ((HB.out.cell (World.block_lt_of_cell? w _ hw613_3)).trans hw613_3)⟩ (fun hHeld => ?_); refine with_tabW spec_SwapNeeds.tab15 spec_SwapNeeds.bits15 (fun HT_ HW_ => ?_)
                     generalize w53.drew = w54 at HO_10 HB hx610_0 hx611_0 hx612_0 hx612_1 hx612_2 hx612_3 hx613_0 hx613_1 hx613_2 hx613_3 hHeld ⊢
                     refine pure_ (i := 0) (N := some 91) (v := ?_) (a' := ?_) #[true, false, false, false, false, false, false, false, false, false, false, false, false, false, false, false, false, false, false, false, false, false, false, false, false] rfl rfl (any_of HT_.out pL) (fun _ _ _ h => h) (Or.inl ⟨by rfl, ?_⟩) ?_ ?_
                     rotate_left
                     ·intro w'
                      go_simp
                      with_reducible rfl
                     rotate_left
                     ·exact pP
                     refine pure_ (i := 1) (N := some 92) (v := ?_) (a' := ?_) #[true, true, false, false, false, false, false, false, false, false, false, false, false, false, false, false, false, false, false, false, false, false, false, false, false] rfl rfl (any_of HT_.out pL) (fun _ _ _ h => h) (Or.inl ⟨by rfl, ?_⟩) ?_ ?_
                     rotate_left
                     ·intro w'
                      go_simp
                      with_reducible rfl
                     rotate_left
                     ·exact pP
                     refine pure_ (i := 2) (N := some 93) (v := ?_) (a' := ?_) #[true, true, true, false, false, false, false, false, false, false, false, false, false, false, false, false, false, false, false, false, false, false, false, false, false] rfl rfl (any_of HT_.out pL) (fun _ _ _ h => h) (Or.inl ⟨by rfl, ?_⟩) ?_ ?_
                     rotate_left
                     ·intro w'
                      go_simp
                      with_reducible rfl
                     rotate_left
                     ·exact pP
                     refine pure_ (i := 3) (N := some 94) (v := ?_) (a' := ?_) #[true, true, true, true, false, false, false, false, false, false, false, false, false, false, false, false, false, false, false, false, false, false, false, false, false] rfl rfl (any_of HT_.out pL) (fun _ _ _ h => h) (Or.inl ⟨by rfl, ?_⟩) ?_ ?_
                     rotate_left
                     ·intro w'
                      go_simp
                      with_reducible rfl
                     rotate_left
                     ·exact pP
                     refine pure_ (i := 4) (N := some 95) (v := ?_) (a' := ?_) #[true, true, true, true, true, false, false, false, false, false, false, false, false, false, false, false, false, false, false, false, false, false, false, false, false] rfl rfl (any_of HT_.out pL) (fun _ _ _ h => h) (Or.inl ⟨by rfl, ?_⟩) ?_ ?_
                     rotate_left
                     ·intro w'
                      go_simp
                      with_reducible rfl
                     rotate_left
                     ·exact pP
                     refine pure_ (i := 6) (N := some 97) (v := ?_) (a' := ?_) #[true, true, true, true, true, false, true, false, false, false, false, false, false, false, false, false, false, false, false, false, false, false, false, false, false] rfl rfl (any_of HT_.out pL) (fun _ _ _ h => h) (Or.inl ⟨by rfl, ?_⟩) ?_ ?_
                     rotate_left
                     ·intro w'
                      go_simp
                      with_reducible rfl
                     rotate_left
                     ·exact pP
                     refine pure_ (i := 7) (N := some 98) (v := ?_) (a' := ?_) #[true, true, true, true, true, false, true, true, false, false, false, false, false, false, false, false, false, false, false, false, false, false, false, false, false] rfl rfl (any_of HT_.out pL) (fun _ _ _ h => h) (Or.inl ⟨by rfl, ?_⟩) ?_ ?_
                     rotate_left
                     ·intro w'
                      go_simp
                      with_reducible rfl
                     rotate_left
                     ·exact pP
                     refine pure_ (i := 8) (N := some 99) (v := ?_) (a' := ?_) #[true, true, true, true, true, false, true, true, true, false, false, false, false, false, false, false, false, false, false, false, false, false, false, false, false] rfl rfl (any_of HT_.out pL) (fun _ _ _ h => h) (Or.inl ⟨by rfl, ?_⟩) ?_ ?_
                     rotate_left
                     ·intro w'
                      go_simp
                      with_reducible rfl
                     rotate_left
                     ·exact pP
                     refine pure_ (i := 10) (N := some 101) (v := ?_) (a' := ?_) #[true, true, true, true, true, false, true, true, true, false, true, false, false, false, false, false, false, false, false, false, false, false, false, false, false] rfl rfl (any_of HT_.out pL) (fun _ _ _ h => h) (Or.inl ⟨by rfl, ?_⟩) ?_ ?_
                     rotate_left
                     ·intro w'
                      go_simp
                      with_reducible rfl
                     rotate_left
                     ·exact pP
                     refine pure_ (i := 11) (N := some 102) (v := ?_) (a' := ?_) #[true, true, true, true, true, false, true, true, true, false, true, true, false, false, false, false, false, false, false, false, false, false, false, false, false] rfl rfl (any_of HT_.out pL) (fun _ _ _ h => h) (Or.inl ⟨by rfl, ?_⟩) ?_ ?_
                     rotate_left
                     ·intro w'
                      go_simp
                      with_reducible rfl
                     rotate_left
                     ·exact pP
                     refine pure_ (i := 12) (N := some 103) (v := ?_) (a' := ?_) #[true, true, true, true, true, false, true, true, true, false, true, true, true, false, false, false, false, false, false, false, false, false, false, false, false] rfl rfl (any_of HT_.out pL) (fun _ _ _ h => h) (Or.inl ⟨by rfl, ?_⟩) ?_ ?_
                     rotate_left
                     ·intro w'
                      go_simp
                      with_reducible rfl
                     rotate_left
                     ·exact pP
                     refine pure_ (i := 13) (N := some 104) (v := ?_) (a' := ?_) #[true, true, true, true, true, false, true, true, true, false, true, true, true, true, false, false, false, false, false, false, false, false, false, false, false] rfl rfl (any_of HT_.out pL) (fun _ _ _ h => h) (Or.inl ⟨by rfl, ?_⟩) ?_ ?_
                     rotate_left
                     ·intro w'
                      go_simp
                      with_reducible rfl
                     rotate_left
                     ·exact pP
                     refine pure_ (i := 16) (N := some 107) (v := ?_) (a' := ?_) #[true, true, true, true, true, false, true, true, true, false, true, true, true, true, false, false, true, false, false, false, false, false, false, false, false] rfl rfl (any_of HT_.out pL) (fun _ _ _ h => h) (Or.inl ⟨by rfl, ?_⟩) ?_ ?_
                     rotate_left
                     ·intro w'
                      go_simp
                      with_reducible rfl
                     rotate_left
                     ·exact pP
                     refine pure_ (i := 17) (N := some 108) (v := ?_) (a' := ?_) #[true, true, true, true, true, false, true, true, true, false, true, true, true, true, false, false, true, true, false, false, false, false, false, false, false] rfl rfl (any_of HT_.out pL) (fun _ _ _ h => h) (Or.inl ⟨by rfl, ?_⟩) ?_ ?_
                     rotate_left
                     ·intro w'
                      go_simp
                      with_reducible rfl
                     rotate_left
                     ·exact pP
                     refine pure_ (i := 18) (N := some 109) (v := ?_) (a' := ?_) #[true, true, true, true, true, false, true, true, true, false, true, true, true, true, false, false, true, true, true, false, false, false, false, false, false] rfl rfl (any_of HT_.out pL) (fun _ _ _ h => h) (Or.inl ⟨by rfl, ?_⟩) ?_ ?_
                     rotate_left
                     ·intro w'
                      go_simp
                      with_reducible rfl
                     rotate_left
                     ·exact pP
                     refine pure_ (i := 19) (N := some 110) (v := ?_) (a' := ?_) #[true, true, true, true, true, false, true, true, true, false, true, true, true, true, false, false, true, true, true, true, false, false, false, false, false] rfl rfl (any_of HT_.out pL) (fun _ _ _ h => h) (Or.inl ⟨by rfl, ?_⟩) ?_ ?_
                     rotate_left
                     ·intro w'
                      go_simp
                      with_reducible rfl
                     rotate_left
                     ·exact pP
                     refine take_ (i := 5) (N := some 96) (v := ?_) (a' := ?_) #[true, true, true, true, true, true, true, true, true, false, true, true, true, true, false, false, true, true, true, true, false, false, false, false, false] rfl rfl (take_ofW HT_.out HW_.out pL) (fun _ _ _ h => h) (Or.inl ⟨by rfl, ?_⟩) hHeld ?_ ?_
                     rotate_left
                     ·rintro w' ⟨s0, s1, s2, s3, s4, s5, s6, s7, s8, s9⟩
                      go_simp
                      with_reducible rfl
                     rotate_left
                     ·exact pP
                     refine take_ (i := 9) (N := some 100) (v := ?_) (a' := ?_) #[true, true, true, true, true, true, true, true, true, true, true, true, true, true, false, false, true, true, true, true, false, false, false, false, false] rfl rfl (take_ofW HT_.out HW_.out pL) (fun _ _ _ h => h) (Or.inl ⟨by rfl, ?_⟩) hHeld ?_ ?_
                     rotate_left
                     ·rintro w' ⟨s0, s1, s2, s3, s4, s5, s6, s7, s8, s9⟩
                      go_simp
                      with_reducible rfl
                     rotate_left
                     ·exact pP
                     refine take_ (i := 14) (N := some 105) (v := ?_) (a' := ?_) #[true, true, true, true, true, true, true, true, true, true, true, true, true, true, true, false, true, true, true, true, false, false, false, false, false] rfl rfl (take_ofW HT_.out HW_.out pL) (fun _ _ _ h => h) (Or.inl ⟨by rfl, ?_⟩) hHeld ?_ ?_
                     rotate_left
                     ·rintro w' ⟨s0, s1, s2, s3, s4, s5, s6, s7, s8, s9⟩
                      go_simp
                      with_reducible rfl
                     rotate_left
                     ·exact pP
                     refine pure_ (i := 15) (N := some 106) (v := ?_) (a' := ?_) #[true, true, true, true, true, true, true, true, true, true, true, true, true, true, true, true, true, true, true, true, false, false, false, false, false] rfl rfl (any_of HT_.out pL) (fun _ _ _ h => h) (Or.inl ⟨by rfl, ?_⟩) ?_ ?_
                     rotate_left
                     ·intro w'
                      go_simp
                      with_reducible rfl
                     rotate_left
                     ·exact pP
                     refine take_ (i := 20) (N := some 111) (v := ?_) (a' := ?_) #[true, true, true, true, true, true, true, true, true, true, true, true, true, true, true, true, true, true, true, true, true, false, false, false, false] rfl rfl (take_ofW HT_.out HW_.out pL) (fun _ _ _ h => h) (Or.inl ⟨by rfl, ?_⟩) hHeld ?_ ?_
                     rotate_left
                     ·rintro w' ⟨s0, s1, s2, s3, s4, s5, s6, s7, s8, s9⟩
                      go_simp
                      with_reducible rfl
                     rotate_left
                     ·exact pP
                     refine one_ (i := 21) (N := some 112) #[true, true, true, true, true, true, true, true, true, true, true, true, true, true, true, true, true, true, true, true, true, true, false, false, false] rfl rfl (one_of HT_.out pL) (by decide) (fun K hK => ?_)
                     refine goes_ Try.func69 pL rfl #[.int .i64 (wrap64 ((rd l2 x11_2) * ((rd_T41 l0 x12_25).f2))), .int .i64 ((rd_T41 l0 x12_25).f3)] (by rfl) rfl rfl pM ?_
                     with_reducible refine (spec_l1Up.calls (wrap64 ((rd l2 x11_2) * ((rd_T41 l0 x12_25).f2))) ((rd_T41 l0 x12_25).f3) t614 _ A50.out).mono ?_
                     rintro e w' ⟨rfl, ⟨nd, rfl⟩⟩
                     refine ⟨_, rfl, ?_⟩
                     have p51 : 0 ≤ (t608 : Int) := of_decide_eq_true pA
                     have q51 : (t608 : Int) < ((x10_2.length : Int) : Int) := of_decide_eq_true pA
                     obtain ⟨hx51_0, hf51_0⟩ := Kd.R_celln 0 HO_10.out (t608 : Int) p51 q51
                     replace p51 := eq_true p51
                     replace q51 := eq_true q51
                     have HP55 := Kd.R_putn HO_10.out (t608 : Int) (wrap64 ((rd y609 t608) + t614))
                     rw [← Ny615.out] at HP55
                     have HQ55 := Aside0.mk HP55
                     clear HP55
                     refine hK.out _ _ ⟨hHeld.1, ((HB.out.cell (World.block_lt_of_cell? w _ hw611_0)).trans hw611_0), ((HB.out.cell (World.block_lt_of_cell? w _ hw612_0)).trans hw612_0), ((HB.out.cell (World.block_lt_of_cell? w _ hw612_1)).trans hw612_1), ((HB.out.cell (World.block_lt_of_cell? w _ hw612_2)).trans hw612_2), ((HB.out.cell (World.block_lt_of_cell? w _ hw612_3)).trans hw612_3), ((HB.out.cell (World.block_lt_of_cell? w _ hw613_0)).trans hw613_0), ((HB.out.cell (World.block_lt_of_cell? w _ hw613_1)).trans hw613_1), ((HB.out.cell (World.block_lt_of_cell? w _ hw613_2)).trans hw613_2), ((HB.out.cell (World.block_lt_of_cell? w _ hw613_3)).trans hw613_3)⟩ (fun hHeld => ?_)
                     clear hK K
                     refine norm_ (a' := ?_) ?_ ?_
                     rotate_left
                     ·show Act.put _ (some 112) _ = _
                      exact pP
                     refine pure_ (i := 22) (N := some 113) (v := ?_) (a' := ?_) #[true, true, true, true, true, true, true, true, true, true, true, true, true, true, true, true, true, true, true, true, true, true, true, false, false] rfl rfl (any_of HT_.out pL) (fun _ _ _ h => h) (Or.inl ⟨by rfl, ?_⟩) ?_ ?_
                     rotate_left
                     ·intro w'
                      go_simp
                      with_reducible rfl
                     rotate_left
                     ·exact pP
                     refine pure_ (i := 23) (N := some 114) (v := ?_) (a' := ?_) #[true, true, true, true, true, true, true, true, true, true, true, true, true, true, true, true, true, true, true, true, true, true, true, true, false] rfl rfl (any_of HT_.out pL) (fun _ _ _ h => h) (Or.inl ⟨by rfl, ?_⟩) ?_ ?_
                     rotate_left
                     ·intro w'
                      go_simp
                      with_reducible rfl
                     rotate_left
                     ·exact pP
                     refine last_ (i := 24) (N := none) #[true, true, true, true, true, true, true, true, true, true, true, true, true, true, true, true, true, true, true, true, true, true, true, true, true] rfl rfl (one_of HT_.out pL) (by decide) (fun K hK => ?_)
                     refine skip_ (w1 := ?_) (by rfl) rfl ?_ ?_
                     rotate_left
                     ·go_simp
                      rfl
                     refine hK.out _ _ ?_
                     clear hK K
                     refine done_ (done_of HT_.out pL) ?_
                     try go_wp2
                     go_roundg kj25
                     case measure => have := HJ4.out; have := HK2.out; have := HJ19.out; have := HJ25.out; omega
                     case rel => exact ⟨(y615), (wrap64 (x11_2 + 1)), pF, H', ⟨by have := HJ4.out; have := HK2.out; have := HJ19.out; have := HJ25.out; omega⟩, ⟨pR HQ55⟩, ⟨pG GB46⟩⟩
                    ·rw [if_neg c49] at H
                     exact absurd H (by simp)
                   ·rw [if_neg c48] at H
                    exact absurd H (by simp)
                  ·rw [if_neg c47] at H
                   exact absurd H (by simp)
                 ·rw [if_neg c45] at H
                  exact absurd H (by simp)
                ·rw [if_neg c44] at H
                 exact absurd H (by simp)
               ·rw [if_neg c42] at H
                exact absurd H (by simp)
              ·rw [if_neg c41] at H
               exact absurd H (by simp)
          ·replace c25 := Bool.eq_false_iff.mpr c25
           subst c25
           have H1 : (spec_SwapNeeds.l0 kj19 l0 l1 l2 l3 x10_2 (wrap64 (x11_2 + 1))) = some (r1, r2) := by rw [if_neg (show ¬ (false = true) by decide)] at H; exact H
           clear H
           have H := H1
           clear H1
           have H' := Aside0.mk H
           clear H
           go_wp2
           go_roundg kj19
           case measure => have := HJ4.out; have := HK2.out; have := HJ19.out; omega
           case rel => exact ⟨(x10_2), (wrap64 (x11_2 + 1)), pF, H', ⟨by have := HJ4.out; have := HK2.out; have := HJ19.out; omega⟩, ⟨pR HO_10⟩, ⟨pB⟩⟩
       ·rw [if_neg c19] at H
        have c19b0 : decide (x11_2 < (l1.length : Int)) = false := decide_eq_false c19
        clear c19
        replace H := Option.bind_eq_some_iff.mp H
        obtain ⟨t593, A560, H⟩ := H
        replace H : (if t593 = true then (some (x10_2, true)) else (some ((([] : List Int)), false))) = some (r1, r2) := H
        have A56 := Aside0.mk A560
        clear A560
        by_cases c57 : t593 = true
        ·subst c57
         have H1 : (some (x10_2, true)) = some (r1, r2) := by rw [if_pos rfl] at H; exact H
         clear H
         have H := H1
         clear H1
         simp only [Option.some.injEq, Prod.mk.injEq] at H
         obtain ⟨rfl, rfl⟩ := H
         obtain ⟨Ao58, co58, eo58⟩ := Kd.R_slice HO_10.out
         subst eo58
         go_wp2_with (first | ((with_reducible refine gate_callee (f := 44) rfl ?_); refine goesL_ (some 117) rfl rfl Try.func44 pL rfl #[.slice A1 l1.length c1, .slice Ao58 x10_2.length co58] rfl pM ?_; (with_reducible refine (spec_l15Needs.calls k2 _ _ l1 _ _ x10_2 true _ ?side1 ?side2 ?side3 ?side4 A56.out).mono ?_); (case side1 => exact pS ((Kd.C_below HR1.out HB.out))); (case side2 => exact HC1.out); (case side3 => exact pS ((Kd.R_reads' HO_10.out).2.2)); (case side4 => exact (Kd.R_reads' HO_10.out).2.1); rintro e w59 ⟨rfl, hb⟩; refine ⟨_, rfl, ?_⟩; have n0_ := Aside0.mk (Kd.R_below (pR HO_10) hb); have n1_ := Aside0.mk (below_step pB hb); clear HO_10; clear HB; have HO_10 := n0_; have HB := n1_; clear n0_ n1_; (try clear hb); (try clear hb2); (try clear hk); (try clear hi)))
         go_ret2
         exact ⟨_, pE, pR HO_10, pB⟩
        ·replace c57 := Bool.eq_false_iff.mpr c57
         subst c57
         have H1 : (some ((([] : List Int)), false)) = some (r1, r2) := by rw [if_neg (show ¬ (false = true) by decide)] at H; exact H
         clear H
         have H := H1
         clear H1
         obtain ⟨y594, hy594⟩ : ∃ y_ : List Int, y_ = (([] : List Int)) := ⟨_, rfl⟩
         replace H : (some (y594, false)) = some (r1, r2) := by first | (rw [hy594]; with_reducible exact H) | (have H2_ := (Option.bind_some _ _).symm.trans H; rw [hy594]; with_reducible exact H2_) | (have H2_ := (Option.bind_some _ _).symm.trans H; with_reducible exact H2_) | with_reducible exact H | (rw [hy594]; exact H) | exact H
         have Ny594 := Aside0.mk hy594
         clear hy594
         simp only [Option.some.injEq, Prod.mk.injEq] at H
         obtain ⟨rfl, rfl⟩ := H
         obtain ⟨Ao60, co60, eo60⟩ := Kd.R_slice HO_10.out
         subst eo60
         go_wp2_with (first | ((with_reducible refine gate_callee (f := 44) rfl ?_); refine goesL_ (some 117) rfl rfl Try.func44 pL rfl #[.slice A1 l1.length c1, .slice Ao60 x10_2.length co60] rfl pM ?_; (with_reducible refine (spec_l15Needs.calls k2 _ _ l1 _ _ x10_2 false _ ?side1 ?side2 ?side3 ?side4 A56.out).mono ?_); (case side1 => exact pS ((Kd.C_below HR1.out HB.out))); (case side2 => exact HC1.out); (case side3 => exact pS ((Kd.R_reads' HO_10.out).2.2)); (case side4 => exact (Kd.R_reads' HO_10.out).2.1); rintro e w61 ⟨rfl, hb⟩; refine ⟨_, rfl, ?_⟩; have n0_ := Aside0.mk (Kd.R_below (pR HO_10) hb); have n1_ := Aside0.mk (below_step pB hb); clear HO_10; clear HB; have HO_10 := n0_; have HB := n1_; clear n0_ n1_; (try clear hb); (try clear hb2); (try clear hk); (try clear hi)) | ((with_reducible refine gate_dst (N := 119) rfl ?_); refine Kd.R_lit (Kd.int .i64) _ 3 ?hg (N := 119) ?hd (xs := ([] : List Int)) (inner := []) (ok := fun _ => True) (okp := fun _ => True) ?hr ?hp (fun _ hk => hk) trivial (Below.refl _ _) (Nat.le_refl _) (by simp) ?_; (case hd => rfl); (case hg => rfl); (case hr => first | (go_simp; done) | (go_simp; rfl)); (case hp => exact (Reps.none _ _)); intro v595 w62 ho63 hb hg_ hnew_; clear hg_ hnew_; (first | rw [← Ny594.out] at ho63 | (simp only [Int.reduceToNat] at ho63; rw [← Ny594.out] at ho63)); have n0_ := Aside0.mk (Kd.R_elder' (pR HO_10) (Kd.R_base ho63) hb); have n1_ := Aside0.mk (Kd.R_lower (Kd.R_new' ho63 (Kd.R_lt (pR HO_10))) (below_size pB)); have n2_ := Aside0.mk (below_step pB hb); clear HO_10; clear HB; have HO_10 := n0_; have HO596 := n1_; have HB := n2_; clear n0_ n1_ n2_; clear hb ho63))
         go_ret2
         exact ⟨_, pE, by (with_reducible repeat (first | apply Kd.R_alloc | apply Kd.R_drewN | apply Kd.R_drew)); exact Kd.R_mono HO596.out (fun _ hk => trivial), pB⟩
    ·rw [if_neg c15] at H
     exact absurd H (by simp)

end Go.Proofs.Ytglddjbcaknnaaa.Q
