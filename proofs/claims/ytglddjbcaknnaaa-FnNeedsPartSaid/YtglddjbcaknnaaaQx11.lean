-- Written by the kit's print.py for all laws of the seat at once (one namespace), by a program of this session.
import Derived.Test.YtglddjbcaknnaaaQx0
import Derived.Test.YtglddjbcaknnaaaQx5
import Derived.Test.YtglddjbcaknnaaaQx9
import Derived.Test.YtglddjbcaknnaaaQx10
namespace Go.Proofs.Ytglddjbcaknnaaa.Q
open Go.RowKit Go.Proofs.YtglddjbcaknnaaaW.PrintWords Go.Proofs.YtglddjbcaknnaaaW.PrintLast Go.Proofs.YtglddjbcaknnaaaW.PrintMore
attribute [local go_sem] max2_int min2_int max_two min_two max_three min_three max_four min_four   -- for this text's walks alone
set_option linter.unusedVariables false
set_option linter.unusedSimpArgs false

/-! ### spec_DrawNeedsValid: function 22 -/
def spec_DrawNeedsValid.f (k : Nat) (l0 : List Int) : Option ((List (S62)) × List Int) := (spec_l6Open.f l0).bind fun bt253 => ((spec_l91Foods.f k bt253.1 bt253.2).bind fun bt256 => ((spec_l91Needs.f k bt253.1 bt256.2 bt256.1).bind fun bt260 => (some (bt256.1, bt260.1))))
theorem spec_DrawNeedsValid.mono : ∀ a0 k, LeO (spec_DrawNeedsValid.f k a0) (spec_DrawNeedsValid.f (k + 1) a0) := by
 intro a0 k
 unfold spec_DrawNeedsValid.f
 repeat' first
   | (with_reducible exact spec_l91Foods.mono _ _ _)
   | (with_reducible exact spec_l91Needs.mono _ _ _ _)
   | (with_reducible exact LeO.refl _)
   | (with_reducible exact LeO.none _)
   | (with_reducible refine LeO.ite ?_ ?_)
   | (with_reducible refine LeO.bind ?_ (fun _ => ?_))
   | exact spec_l91Foods.mono _ _ _
   | exact spec_l91Needs.mono _ _ _ _
   | exact LeO.none _
   | refine LeO.ite ?_ ?_
   | refine LeO.bind ?_ (fun _ => ?_)
set_option maxHeartbeats 8000000 in
set_option maxRecDepth 100000 in
theorem spec_DrawNeedsValid.calls (k : Nat) (A0 : Option Addr) (c0 : Nat) (l0 : List Int) (r1 : List (S62)) (r2 : List Int) (w : World) (hr0 : Kd.C (Kd.int .u8) w A0 l0.length l0) (hc0 : l0.length ≤ c0) (h : spec_DrawNeedsValid.f k l0 = some (r1, r2)) :
  Calls Try.prog 22 #[.slice A0 l0.length c0] w fun e w' => ∃ v0_ v1_ : Value, e = .returned (.tuple #[v0_, v1_]) ∧ Kd.R k62 62 w' w.heap.size (fun _ => True) v0_ r1 ∧ Kd.R (Kd.int .i64) 3 w' w.heap.size (fun _ => True) v1_ r2 ∧ Below w.heap.size w w' := by
 have HR0 := Aside0.mk hr0
 have HC0 := Aside0.mk hc0
 clear hr0 hc0
 have HB := Aside0.mk (Below.refl w.heap.size w)
 have H : ((spec_l6Open.f l0).bind fun bt253 => ((spec_l91Foods.f k bt253.1 bt253.2).bind fun bt256 => ((spec_l91Needs.f k bt253.1 bt256.2 bt256.1).bind fun bt260 => (some (bt256.1, bt260.1))))) = some (r1, r2) := h
 clear h
 replace H := Option.bind_eq_some_iff.mp H
 obtain ⟨⟨t253, t254⟩, A20, H⟩ := H
 replace H : ((spec_l91Foods.f k t253 t254).bind fun bt256 => ((spec_l91Needs.f k t253 bt256.2 bt256.1).bind fun bt260 => (some (bt256.1, bt260.1)))) = some (r1, r2) := H
 have A2 := Aside0.mk A20
 clear A20
 replace H := Option.bind_eq_some_iff.mp H
 obtain ⟨⟨t256, t259⟩, A30, H⟩ := H
 replace H : ((spec_l91Needs.f k t253 t259 t256).bind fun bt260 => (some (t256, bt260.1))) = some (r1, r2) := H
 have A3 := Aside0.mk A30
 clear A30
 replace H := Option.bind_eq_some_iff.mp H
 obtain ⟨⟨t260, t263⟩, A40, H⟩ := H
 replace H : (some (t256, t260)) = some (r1, r2) := H
 have A4 := Aside0.mk A40
 clear A40
 simp only [Option.some.injEq, Prod.mk.injEq] at H
 obtain ⟨rfl, rfl⟩ := H
 go_enter Try.func22, Try.ntmps22
 go_wp2_with (first | ((with_reducible refine gate_callee (f := 48) rfl ?_); refine goesL_ (some 7) rfl rfl Try.func48 pL rfl #[.slice A0 l0.length c0] rfl pM ?_; (with_reducible refine (spec_l6Open.calls _ _ l0 t253 t254 w _ ?side1 ?side2 ?side3 A2.out).mono ?_); (case side1 => exact pB); (case side2 => exact HR0.out); (case side3 => exact HC0.out); rintro e w5 ⟨g255, rfl, hi, hb, hb2⟩; refine ⟨_, rfl, ?_⟩; have n0_ := Aside0.mk (hb); have n1_ := Aside0.mk (hi); clear HB; have HB := n0_; have HI255 := n1_; clear n0_ n1_; (try clear hb); (try clear hb2); (try clear hk); (try clear hi)) | ((with_reducible refine gate_callee (f := 49) rfl ?_); refine goesL_ (some 9) rfl rfl Try.func49 pL rfl #[.pointer (some ⟨g255, 0, none⟩)] rfl pM ?_; (with_reducible refine (spec_l91Foods.calls k g255 t253 t254 t256 t259 w _ ?side1 ?side2 A3.out).mono ?_); (case side1 => repeat (first | (with_reducible first | exact HI255.out | apply IsS85.alloc | apply IsS85.drewN | apply IsS85.drew | apply IsS85.set_1) | exact HI255.out)); (case side2 => repeat (first | (with_reducible first | exact HB.out | apply below_alloc | apply pw_below_drewN | apply below_drew1 | refine below_set ?_ (IsS85.ge HI255.out)) | exact HB.out)); rintro e w6 ⟨v257, rfl, ho0, hi, hb, hk⟩; refine ⟨_, rfl, ?_⟩; have n0_ := Aside0.mk (Kd.R_lower ho0 (below_size (by repeat (first | (with_reducible first | exact HB.out | apply below_alloc | apply pw_below_drewN | apply below_drew1 | refine below_set ?_ (IsS85.ge HI255.out)) | exact HB.out)))); have n1_ := Aside0.mk (hb); have n2_ := Aside0.mk (hi); clear HB; clear HI255; have HO258 := n0_; have HB := n1_; have HI255 := n2_; clear n0_ n1_ n2_; (try clear hb); (try clear hb2); (try clear hk); (try clear hi); (try clear ho0); obtain ⟨Ao7, co7, eo7⟩ := Kd.R_slice HO258.out; subst eo7) | ((with_reducible refine gate_callee (f := 50) rfl ?_); refine goesL_ (some 13) rfl rfl Try.func50 pL rfl #[.pointer (some ⟨g255, 0, none⟩), .slice Ao7 t256.length co7] rfl pM ?_; (with_reducible refine (spec_l91Needs.calls k g255 t253 t259 _ _ t256 t260 t263 w _ ?side1 ?side2 ?side3 ?side4 A4.out).mono ?_); (case side1 => repeat (first | (with_reducible first | exact HI255.out | apply IsS85.alloc | apply IsS85.drewN | apply IsS85.drew | apply IsS85.set_1) | exact HI255.out)); (case side2 => repeat (first | (with_reducible first | exact HB.out | apply below_alloc | apply pw_below_drewN | apply below_drew1 | refine below_set ?_ (IsS85.ge HI255.out)) | exact HB.out)); (case side3 => exact Kd.C_foot_own (IsS85.apart (show IsS85 w _ g255 t253 t259 from by repeat (first | (with_reducible first | exact HI255.out | apply IsS85.alloc | apply IsS85.drewN | apply IsS85.drew | apply IsS85.set_1) | exact HI255.out)) (pR HO258) (by decide)) (fun _ h_ => h_.2)); (case side4 => exact (Kd.R_reads' HO258.out).2.1); rintro e w8 ⟨v261, rfl, ho0, hi, hb, hk⟩; refine ⟨_, rfl, ?_⟩; have n0_ := Aside0.mk (Kd.R_mono (Kd.R_keep (IsS85.apart (show IsS85 w _ g255 t253 t259 from by repeat (first | (with_reducible first | exact HI255.out | apply IsS85.alloc | apply IsS85.drewN | apply IsS85.drew | apply IsS85.set_1) | exact HI255.out)) (pR HO258) (by decide)) hk (fun _ h => h.2)) (fun _ h => h.1)); have n1_ := Aside0.mk (Kd.R_lower ho0 (below_size (by repeat (first | (with_reducible first | exact HB.out | apply below_alloc | apply pw_below_drewN | apply below_drew1 | refine below_set ?_ (IsS85.ge HI255.out)) | exact HB.out)))); have n2_ := Aside0.mk (hb); have n3_ := Aside0.mk (hi); clear HO258; clear HB; clear HI255; have HO258 := n0_; have HO262 := n1_; have HB := n2_; have HI255 := n3_; clear n0_ n1_ n2_ n3_; (try clear hb); (try clear hb2); (try clear hk); (try clear hi); (try clear ho0)))
 go_ret2
 exact ⟨_, _, pE, pR HO258, pR HO262, by repeat (first | (with_reducible first | exact HB.out | apply below_alloc | apply pw_below_drewN | apply below_drew1 | refine below_set ?_ (IsS85.ge HI255.out)) | exact HB.out)⟩

/-! ### laws_FnNeedsPart: function 4 -/
mutual
def laws_FnNeedsPart.j0 : Nat → List Int → List Int → Bool → Option (Bool)
 | 0, _, _, _ => none
 | k + 1, x0, x1, x19 => if x19 = true then (some true) else ((spec_DrawNeedsValid.f k x0).bind fun bt264 => ((impl_NeedsValid.f k bt264.1 bt264.2).bind fun t270 => ((spec_NeedsValid.f k bt264.1 bt264.2).bind fun t271 => (if (t270 != t271) = true then (laws_FnNeedsPart.j1 k x1 bt264.1 bt264.2 t270 t271 true) else (if t270 = true then (laws_FnNeedsPart.j1 k x1 bt264.1 bt264.2 t270 t271 ((bt264.2.length : Int) == 0)) else (laws_FnNeedsPart.j1 k x1 bt264.1 bt264.2 t270 t271 true))))))
def laws_FnNeedsPart.j1 : Nat → List Int → List (S62) → List Int → Bool → Bool → Bool → Option (Bool)
 | 0, _, _, _, _, _, _ => none
 | k + 1, x1, x5, x6, x7, x8, x42 => if x42 = true then (some (x7 == x8)) else (if (x6.length : Int) = 0 then (none) else ((some (([] : List Int) : List Int)).bind fun y272 => (if y272.length + x6.length < 17592186044416 then ((some (y272 ++ x6 : List Int)).bind fun y275 => (if 0 ≤ ((x1.length : Int) % (x6.length : Int)) then (if ((x1.length : Int) % (x6.length : Int)) < (y275.length : Int) then ((some (y275.set (((x1.length : Int) % (x6.length : Int)) : Int).toNat 0 : List Int)).bind fun y278 => ((some (([] : List Int) : List Int)).bind fun y279 => (if y279.length + x6.length < 17592186044416 then ((some (y279 ++ x6 : List Int)).bind fun y282 => (if ((x1.length : Int) % (x6.length : Int)) < (y282.length : Int) then ((impl_NeedsValid.f k x5 y278).bind fun t286 => (if t286 = true then ((impl_NeedsValid.f k x5 (y282.set (((x1.length : Int) % (x6.length : Int)) : Int).toNat (-1))).bind fun t287 => (if t287 = true then (some false) else (if y278.length < 17592186044416 then ((impl_NeedsValid.f k x5 (y278 ++ [1])).bind fun t291 => (some (!t291))) else (none)))) else (some false))) else (none))) else (none)))) else (none)) else (none))) else (none))))
end
def laws_FnNeedsPart.f (k : Nat) (l0 : List Int) (l1 : List Int) : Option (Bool) := if (l0.length : Int) > 1048576 then (laws_FnNeedsPart.j0 k l0 l1 true) else (laws_FnNeedsPart.j0 k l0 l1 (decide ((l1.length : Int) > 1048576)))
theorem laws_FnNeedsPart.mono_l : ∀ k, (∀ y0 y1 y2, LeO (laws_FnNeedsPart.j0 k y0 y1 y2) (laws_FnNeedsPart.j0 (k + 1) y0 y1 y2)) ∧ (∀ y0 y1 y2 y3 y4 y5, LeO (laws_FnNeedsPart.j1 k y0 y1 y2 y3 y4 y5) (laws_FnNeedsPart.j1 (k + 1) y0 y1 y2 y3 y4 y5))
 | 0 => ⟨fun _ _ _ r h => by simp [laws_FnNeedsPart.j0] at h, fun _ _ _ _ _ _ r h => by simp [laws_FnNeedsPart.j1] at h⟩
 | k + 1 => by
  obtain ⟨ih0, ih1⟩ := laws_FnNeedsPart.mono_l k
  refine ⟨?_, ?_⟩
  ·intro y0 y1 y2
   unfold laws_FnNeedsPart.j0
   repeat' first
   | (with_reducible exact ih0 _ _ _)
   | (with_reducible exact ih1 _ _ _ _ _ _)
   | (with_reducible exact impl_NeedsValid.mono _ _ _)
   | (with_reducible exact spec_DrawNeedsValid.mono _ _)
   | (with_reducible exact spec_NeedsValid.mono _ _ _)
   | (with_reducible exact LeO.refl _)
   | (with_reducible exact LeO.none _)
   | (with_reducible refine LeO.ite ?_ ?_)
   | (with_reducible refine LeO.bind ?_ (fun _ => ?_))
   | exact ih0 _ _ _
   | exact ih1 _ _ _ _ _ _
   | exact impl_NeedsValid.mono _ _ _
   | exact spec_DrawNeedsValid.mono _ _
   | exact spec_NeedsValid.mono _ _ _
   | exact LeO.none _
   | refine LeO.ite ?_ ?_
   | refine LeO.bind ?_ (fun _ => ?_)
  ·intro y0 y1 y2 y3 y4 y5
   unfold laws_FnNeedsPart.j1
   repeat' first
   | (with_reducible exact ih0 _ _ _)
   | (with_reducible exact ih1 _ _ _ _ _ _)
   | (with_reducible exact impl_NeedsValid.mono _ _ _)
   | (with_reducible exact spec_DrawNeedsValid.mono _ _)
   | (with_reducible exact spec_NeedsValid.mono _ _ _)
   | (with_reducible exact LeO.refl _)
   | (with_reducible exact LeO.none _)
   | (with_reducible refine LeO.ite ?_ ?_)
   | (with_reducible refine LeO.bind ?_ (fun _ => ?_))
   | exact ih0 _ _ _
   | exact ih1 _ _ _ _ _ _
   | exact impl_NeedsValid.mono _ _ _
   | exact spec_DrawNeedsValid.mono _ _
   | exact spec_NeedsValid.mono _ _ _
   | exact LeO.none _
   | refine LeO.ite ?_ ?_
   | refine LeO.bind ?_ (fun _ => ?_)
theorem laws_FnNeedsPart.mono : ∀ a0 a1 k, LeO (laws_FnNeedsPart.f k a0 a1) (laws_FnNeedsPart.f (k + 1) a0 a1) := by
 intro a0 a1 k
 obtain ⟨ih0, ih1⟩ := laws_FnNeedsPart.mono_l k
 unfold laws_FnNeedsPart.f
 repeat' first
   | (with_reducible exact ih0 _ _ _)
   | (with_reducible exact ih1 _ _ _ _ _ _)
   | (with_reducible exact impl_NeedsValid.mono _ _ _)
   | (with_reducible exact spec_DrawNeedsValid.mono _ _)
   | (with_reducible exact spec_NeedsValid.mono _ _ _)
   | (with_reducible exact LeO.refl _)
   | (with_reducible exact LeO.none _)
   | (with_reducible refine LeO.ite ?_ ?_)
   | (with_reducible refine LeO.bind ?_ (fun _ => ?_))
   | exact ih0 _ _ _
   | exact ih1 _ _ _ _ _ _
   | exact impl_NeedsValid.mono _ _ _
   | exact spec_DrawNeedsValid.mono _ _
   | exact spec_NeedsValid.mono _ _ _
   | exact LeO.none _
   | refine LeO.ite ?_ ?_
   | refine LeO.bind ?_ (fun _ => ?_)
set_option maxHeartbeats 8000000 in
set_option maxRecDepth 100000 in
theorem laws_FnNeedsPart.calls (k : Nat) (A0 : Option Addr) (c0 : Nat) (l0 : List Int) (A1 : Option Addr) (c1 : Nat) (l1 : List Int) (r : Bool) (w : World) (hr0 : Kd.C (Kd.int .u8) w A0 l0.length l0) (hc0 : l0.length ≤ c0) (hr1 : Kd.C (Kd.int .u8) w A1 l1.length l1) (hc1 : l1.length ≤ c1) (h : laws_FnNeedsPart.f k l0 l1 = some r) :
  Calls Try.prog 4 #[.slice A0 l0.length c0, .slice A1 l1.length c1] w fun e w' => e = .returned (.bool r) ∧ Below w.heap.size w w' := by
 have HR0 := Aside0.mk hr0
 have HC0 := Aside0.mk hc0
 clear hr0 hc0
 have HR1 := Aside0.mk hr1
 have HC1 := Aside0.mk hc1
 clear hr1 hc1
 have HB := Aside0.mk (Below.refl w.heap.size w)
 have H : (if (l0.length : Int) > 1048576 then (laws_FnNeedsPart.j0 k l0 l1 true) else (laws_FnNeedsPart.j0 k l0 l1 (decide ((l1.length : Int) > 1048576)))) = some r := h
 clear h
 have HC3 := Aside0.mk H
 clear H
 go_enter Try.func4, Try.ntmps4
 go_upto_region 1 with (fail)
 go_cut [19] (fun v19 wc => ∃ (kq : Nat) (x19_2 : Bool), v19 = .bool x19_2 ∧ Aside0 (laws_FnNeedsPart.j0 kq l0 l1 x19_2 = some r) ∧ Aside0 (kq ≤ k) ∧ Aside0 (Below w.heap.size w wc))
 case first =>
  have H := HC3.out
  clear HC3
  by_cases c4 : (l0.length : Int) > 1048576
  ·rw [if_pos c4] at H
   have c4b0 : decide (1048576 < (l0.length : Int)) = true := decide_eq_true c4
   have c4b1 : decide (1048576 < l0.length) = true := decide_eq_true (by omega)
   clear c4
   (first | rw [c4b0] | (simp only [i64_w, i32_w]; rw [c4b0]) | skip)
   have H' := Aside0.mk H
   clear H
   go_wp2
   go_meet
   case rel => exact ⟨_, (true), pF, H', ⟨by first | omega | exact Nat.le_refl _⟩, ⟨pB⟩⟩
  ·rw [if_neg c4] at H
   have c4b0 : decide (1048576 < (l0.length : Int)) = false := decide_eq_false c4
   have c4b1 : decide (1048576 < l0.length) = false := decide_eq_false (by omega)
   clear c4
   (first | rw [c4b0] | (simp only [i64_w, i32_w]; rw [c4b0]) | skip)
   have H' := Aside0.mk H
   clear H
   go_wp2
   go_meet
   case rel => exact ⟨_, (decide ((l1.length : Int) > 1048576)), pF, H', ⟨by first | omega | exact Nat.le_refl _⟩, ⟨pB⟩⟩
 case rest =>
  clear HC3
  try clear c1
  try clear p2
  try clear c4
  try clear c4b0
  try clear c4b1
  obtain ⟨kq, x19_2, rfl, HA, HJ2, HB⟩ := hcut
  cases kq with
  | zero => exact absurd HA.out (by simp [laws_FnNeedsPart.j0])
  | succ kj2 =>
   have H := HA.out
   clear HA
   simp only [laws_FnNeedsPart.j0] at H
   by_cases c5 : x19_2 = true
   ·subst c5
    have H1 : (some true) = some r := by rw [if_pos rfl] at H; exact H
    clear H
    have H := H1
    clear H1
    obtain rfl := Option.some.inj H
    go_wp2
    go_ret
    exact ⟨pE, pB⟩
   ·replace c5 := Bool.eq_false_iff.mpr c5
    subst c5
    have H1 : ((spec_DrawNeedsValid.f kj2 l0).bind fun bt264 => ((impl_NeedsValid.f kj2 bt264.1 bt264.2).bind fun t270 => ((spec_NeedsValid.f kj2 bt264.1 bt264.2).bind fun t271 => (if (t270 != t271) = true then (laws_FnNeedsPart.j1 kj2 l1 bt264.1 bt264.2 t270 t271 true) else (if t270 = true then (laws_FnNeedsPart.j1 kj2 l1 bt264.1 bt264.2 t270 t271 ((bt264.2.length : Int) == 0)) else (laws_FnNeedsPart.j1 kj2 l1 bt264.1 bt264.2 t270 t271 true)))))) = some r := by rw [if_neg (show ¬ (false = true) by decide)] at H; exact H
    clear H
    have H := H1
    clear H1
    replace H := Option.bind_eq_some_iff.mp H
    obtain ⟨⟨t264, t265⟩, A60, H⟩ := H
    replace H : ((impl_NeedsValid.f kj2 t264 t265).bind fun t270 => ((spec_NeedsValid.f kj2 t264 t265).bind fun t271 => (if (t270 != t271) = true then (laws_FnNeedsPart.j1 kj2 l1 t264 t265 t270 t271 true) else (if t270 = true then (laws_FnNeedsPart.j1 kj2 l1 t264 t265 t270 t271 ((t265.length : Int) == 0)) else (laws_FnNeedsPart.j1 kj2 l1 t264 t265 t270 t271 true))))) = some r := H
    have A6 := Aside0.mk A60
    clear A60
    replace H := Option.bind_eq_some_iff.mp H
    obtain ⟨t270, A70, H⟩ := H
    replace H : ((spec_NeedsValid.f kj2 t264 t265).bind fun t271 => (if (t270 != t271) = true then (laws_FnNeedsPart.j1 kj2 l1 t264 t265 t270 t271 true) else (if t270 = true then (laws_FnNeedsPart.j1 kj2 l1 t264 t265 t270 t271 ((t265.length : Int) == 0)) else (laws_FnNeedsPart.j1 kj2 l1 t264 t265 t270 t271 true)))) = some r := H
    have A7 := Aside0.mk A70
    clear A70
    replace H := Option.bind_eq_some_iff.mp H
    obtain ⟨t271, A80, H⟩ := H
    replace H : (if (t270 != t271) = true then (laws_FnNeedsPart.j1 kj2 l1 t264 t265 t270 t271 true) else (if t270 = true then (laws_FnNeedsPart.j1 kj2 l1 t264 t265 t270 t271 ((t265.length : Int) == 0)) else (laws_FnNeedsPart.j1 kj2 l1 t264 t265 t270 t271 true))) = some r := H
    have A8 := Aside0.mk A80
    clear A80
    have HC9 := Aside0.mk H
    clear H
    go_upto_region 6 with (first | ((with_reducible refine gate_callee (f := 22) rfl ?_); refine goesL_ (some 22) rfl rfl Try.func22 pL rfl #[.slice A0 l0.length c0] rfl pM ?_; (with_reducible refine (spec_DrawNeedsValid.calls kj2 _ _ l0 t264 t265 _ ?side1 ?side2 A6.out).mono ?_); (case side1 => exact pS ((Kd.C_below HR0.out HB.out))); (case side2 => exact HC0.out); rintro e w10 ⟨v266, v268, rfl, ho0, ho1, hb⟩; refine ⟨_, rfl, ?_⟩; have n0_ := Aside0.mk (Kd.R_lower ho0 (below_size pB)); have n1_ := Aside0.mk (Kd.R_lower ho1 (below_size pB)); have n2_ := Aside0.mk (below_step pB hb); clear HB; have HO267 := n0_; have HO269 := n1_; have HB := n2_; clear n0_ n1_ n2_; (try clear hb); (try clear hb2); (try clear hk); (try clear hi); (try clear ho0); (try clear ho1); obtain ⟨Ao11, co11, eo11⟩ := Kd.R_slice HO267.out; subst eo11; obtain ⟨Ao12, co12, eo12⟩ := Kd.R_slice HO269.out; subst eo12) | ((with_reducible refine gate_callee (f := 19) rfl ?_); refine goesL_ (some 27) rfl rfl Try.func19 pL rfl #[.slice Ao11 t264.length co11, .slice Ao12 t265.length co12] rfl pM ?_; (with_reducible refine (impl_NeedsValid.calls kj2 _ _ t264 _ _ t265 t270 _ ?side1 ?side2 ?side3 ?side4 A7.out).mono ?_); (case side1 => exact pS ((Kd.R_reads' HO267.out).2.2)); (case side2 => exact (Kd.R_reads' HO267.out).2.1); (case side3 => exact pS ((Kd.R_reads' HO269.out).2.2)); (case side4 => exact (Kd.R_reads' HO269.out).2.1); rintro e w13 ⟨rfl, hb⟩; refine ⟨_, rfl, ?_⟩; have n0_ := Aside0.mk (Kd.R_below (pR HO267) hb); have n1_ := Aside0.mk (Kd.R_below (pR HO269) hb); have n2_ := Aside0.mk (below_step pB hb); clear HO267; clear HO269; clear HB; have HO267 := n0_; have HO269 := n1_; have HB := n2_; clear n0_ n1_ n2_; (try clear hb); (try clear hb2); (try clear hk); (try clear hi)) | ((with_reducible refine gate_callee (f := 16) rfl ?_); refine goesL_ (some 30) rfl rfl Try.func16 pL rfl #[.slice Ao11 t264.length co11, .slice Ao12 t265.length co12] rfl pM ?_; (with_reducible refine (spec_NeedsValid.calls kj2 _ _ t264 _ _ t265 t271 _ ?side1 ?side2 ?side3 ?side4 A8.out).mono ?_); (case side1 => exact pS ((Kd.R_reads' HO267.out).2.2)); (case side2 => exact (Kd.R_reads' HO267.out).2.1); (case side3 => exact pS ((Kd.R_reads' HO269.out).2.2)); (case side4 => exact (Kd.R_reads' HO269.out).2.1); rintro e w14 ⟨rfl, hb⟩; refine ⟨_, rfl, ?_⟩; have n0_ := Aside0.mk (Kd.R_below (pR HO267) hb); have n1_ := Aside0.mk (Kd.R_below (pR HO269) hb); have n2_ := Aside0.mk (below_step pB hb); clear HO267; clear HO269; clear HB; have HO267 := n0_; have HO269 := n1_; have HB := n2_; clear n0_ n1_ n2_; (try clear hb); (try clear hb2); (try clear hk); (try clear hi)))
    (try simp only [Act.put, List.setIfInBounds_toArray, List.set_cons_zero, List.set_cons_succ])
    go_cut [42] (fun v42 wc => ∃ (kq : Nat) (x42_8 : Bool), v42 = .bool x42_8 ∧ Aside0 (laws_FnNeedsPart.j1 kq l1 t264 t265 t270 t271 x42_8 = some r) ∧ Aside0 (kq ≤ kj2) ∧ Aside0 (Kd.R k62 62 wc w.heap.size (fun _ => True) (.slice Ao11 t264.length co11) t264) ∧ Aside0 (Kd.R (Kd.int .i64) 3 wc w.heap.size (fun _ => True) (.slice Ao12 t265.length co12) t265) ∧ Aside0 (Below w.heap.size w wc))
    case first =>
     have H := HC9.out
     clear HC9
     by_cases c15 : (t270 != t271) = true
     ·rw [if_pos c15] at H
      have c15b0 : (t270 != t271) = true := c15
      (try (have c15b1 : decide (t270 = t271) = false := by simpa using c15))
      (try (have c15b2 : (t270 == t271) = false := by simpa using c15))
      (try (have c15b3 : ¬ (t270 = t271) := by simpa using c15))
      clear c15
      (first | rw [c15b0] | (simp only [i64_w, i32_w]; rw [c15b0]) | skip)
      have H' := Aside0.mk H
      clear H
      go_wp2
      go_meet
      case rel => exact ⟨_, (true), pF, H', ⟨by have := HJ2.out; first | omega | exact Nat.le_refl _⟩, ⟨pR HO267⟩, ⟨pR HO269⟩, ⟨pB⟩⟩
     ·rw [if_neg c15] at H
      have c15b0 : (t270 != t271) = false := by simpa using c15
      (try (have c15b1 : decide (t270 = t271) = true := by simpa using c15))
      (try (have c15b2 : (t270 == t271) = true := by simpa using c15))
      clear c15
      (first | rw [c15b0] | (simp only [i64_w, i32_w]; rw [c15b0]) | skip)
      by_cases c16 : t270 = true
      ·subst c16
       have H1 : (laws_FnNeedsPart.j1 kj2 l1 t264 t265 true t271 ((t265.length : Int) == 0)) = some r := by rw [if_pos rfl] at H; exact H
       clear H
       have H := H1
       clear H1
       have H' := Aside0.mk H
       clear H
       go_wp2
       go_meet
       case rel => exact ⟨_, (((t265.length : Int) == 0)), pF, H', ⟨by have := HJ2.out; first | omega | exact Nat.le_refl _⟩, ⟨pR HO267⟩, ⟨pR HO269⟩, ⟨pB⟩⟩
      ·replace c16 := Bool.eq_false_iff.mpr c16
       subst c16
       have H1 : (laws_FnNeedsPart.j1 kj2 l1 t264 t265 false t271 true) = some r := by rw [if_neg (show ¬ (false = true) by decide)] at H; exact H
       clear H
       have H := H1
       clear H1
       have H' := Aside0.mk H
       clear H
       go_wp2
       go_meet
       case rel => exact ⟨_, (true), pF, H', ⟨by have := HJ2.out; first | omega | exact Nat.le_refl _⟩, ⟨pR HO267⟩, ⟨pR HO269⟩, ⟨pB⟩⟩
    case rest =>
     clear HC9
     try clear c1
     try clear c2
     try clear p2
     try clear c4
     try clear c4b0
     try clear c4b1
     try clear c5
     try clear c15
     try clear c15b0
     try clear c15b1
     try clear c15b2
     try clear c16
     try clear p2
     obtain ⟨kq, x42_8, rfl, HA, HJ8, HO_5, HO_6, HB⟩ := hcut
     cases kq with
     | zero => exact absurd HA.out (by simp [laws_FnNeedsPart.j1])
     | succ kj8 =>
      have H := HA.out
      clear HA
      simp only [laws_FnNeedsPart.j1] at H
      by_cases c17 : x42_8 = true
      ·subst c17
       have H1 : (some (t270 == t271)) = some r := by rw [if_pos rfl] at H; exact H
       clear H
       have H := H1
       clear H1
       obtain rfl := Option.some.inj H
       go_wp2
       go_ret
       exact ⟨pE, pB⟩
      ·replace c17 := Bool.eq_false_iff.mpr c17
       subst c17
       have H1 : (if (t265.length : Int) = 0 then (none) else ((some (([] : List Int) : List Int)).bind fun y272 => (if y272.length + t265.length < 17592186044416 then ((some (y272 ++ t265 : List Int)).bind fun y275 => (if 0 ≤ ((l1.length : Int) % (t265.length : Int)) then (if ((l1.length : Int) % (t265.length : Int)) < (y275.length : Int) then ((some (y275.set (((l1.length : Int) % (t265.length : Int)) : Int).toNat 0 : List Int)).bind fun y278 => ((some (([] : List Int) : List Int)).bind fun y279 => (if y279.length + t265.length < 17592186044416 then ((some (y279 ++ t265 : List Int)).bind fun y282 => (if ((l1.length : Int) % (t265.length : Int)) < (y282.length : Int) then ((impl_NeedsValid.f kj8 t264 y278).bind fun t286 => (if t286 = true then ((impl_NeedsValid.f kj8 t264 (y282.set (((l1.length : Int) % (t265.length : Int)) : Int).toNat (-1))).bind fun t287 => (if t287 = true then (some false) else (if y278.length < 17592186044416 then ((impl_NeedsValid.f kj8 t264 (y278 ++ [1])).bind fun t291 => (some (!t291))) else (none)))) else (some false))) else (none))) else (none)))) else (none)) else (none))) else (none)))) = some r := by rw [if_neg (show ¬ (false = true) by decide)] at H; exact H
       clear H
       have H := H1
       clear H1
       by_cases c18 : (t265.length : Int) = 0
       ·rw [if_pos c18] at H
        exact absurd H (by simp)
       ·rw [if_neg c18] at H
        have c18b0 : ((t265.length : Int) == 0) = false := beq_eq_false_iff_ne.mpr c18
        have c18b1 : ((t265.length : Int) != 0) = true := bne_iff_ne.mpr c18
        have c18b2 : ¬ (t265 = []) := fun h_ => c18 (by rw [h_]; rfl)
        obtain ⟨y272, hy272⟩ : ∃ y_ : List Int, y_ = (([] : List Int)) := ⟨_, rfl⟩
        replace H : (if y272.length + t265.length < 17592186044416 then ((some (y272 ++ t265 : List Int)).bind fun y275 => (if 0 ≤ ((l1.length : Int) % (t265.length : Int)) then (if ((l1.length : Int) % (t265.length : Int)) < (y275.length : Int) then ((some (y275.set (((l1.length : Int) % (t265.length : Int)) : Int).toNat 0 : List Int)).bind fun y278 => ((some (([] : List Int) : List Int)).bind fun y279 => (if y279.length + t265.length < 17592186044416 then ((some (y279 ++ t265 : List Int)).bind fun y282 => (if ((l1.length : Int) % (t265.length : Int)) < (y282.length : Int) then ((impl_NeedsValid.f kj8 t264 y278).bind fun t286 => (if t286 = true then ((impl_NeedsValid.f kj8 t264 (y282.set (((l1.length : Int) % (t265.length : Int)) : Int).toNat (-1))).bind fun t287 => (if t287 = true then (some false) else (if y278.length < 17592186044416 then ((impl_NeedsValid.f kj8 t264 (y278 ++ [1])).bind fun t291 => (some (!t291))) else (none)))) else (some false))) else (none))) else (none)))) else (none)) else (none))) else (none)) = some r := by first | (rw [hy272]; with_reducible exact H) | (have H2_ := (Option.bind_some _ _).symm.trans H; rw [hy272]; with_reducible exact H2_) | (have H2_ := (Option.bind_some _ _).symm.trans H; with_reducible exact H2_) | with_reducible exact H | (rw [hy272]; exact H) | exact H
        have Ny272 := Aside0.mk hy272
        clear hy272
        by_cases c19 : y272.length + t265.length < 17592186044416
        ·rw [if_pos c19] at H
         have LMc19 := Aside0.mk c19
         clear c19
         obtain ⟨y275, hy275⟩ : ∃ y_ : List Int, y_ = (y272 ++ t265) := ⟨_, rfl⟩
         replace H : (if 0 ≤ ((l1.length : Int) % (t265.length : Int)) then (if ((l1.length : Int) % (t265.length : Int)) < (y275.length : Int) then ((some (y275.set (((l1.length : Int) % (t265.length : Int)) : Int).toNat 0 : List Int)).bind fun y278 => ((some (([] : List Int) : List Int)).bind fun y279 => (if y279.length + t265.length < 17592186044416 then ((some (y279 ++ t265 : List Int)).bind fun y282 => (if ((l1.length : Int) % (t265.length : Int)) < (y282.length : Int) then ((impl_NeedsValid.f kj8 t264 y278).bind fun t286 => (if t286 = true then ((impl_NeedsValid.f kj8 t264 (y282.set (((l1.length : Int) % (t265.length : Int)) : Int).toNat (-1))).bind fun t287 => (if t287 = true then (some false) else (if y278.length < 17592186044416 then ((impl_NeedsValid.f kj8 t264 (y278 ++ [1])).bind fun t291 => (some (!t291))) else (none)))) else (some false))) else (none))) else (none)))) else (none)) else (none)) = some r := by first | (rw [hy275]; with_reducible exact H) | (have H2_ := (Option.bind_some _ _).symm.trans H; rw [hy275]; with_reducible exact H2_) | (have H2_ := (Option.bind_some _ _).symm.trans H; with_reducible exact H2_) | with_reducible exact H | (rw [hy275]; exact H) | exact H
         have Ny275 := Aside0.mk hy275
         clear hy275
         obtain ⟨ji20, hji20⟩ : ∃ j_ : Int, ((l1.length : Int) % (t265.length : Int)) = j_ := ⟨_, rfl⟩
         replace H : (if 0 ≤ (ji20) then (if (ji20) < (y275.length : Int) then ((some (y275.set ((ji20) : Int).toNat 0 : List Int)).bind fun y278 => ((some (([] : List Int) : List Int)).bind fun y279 => (if y279.length + t265.length < 17592186044416 then ((some (y279 ++ t265 : List Int)).bind fun y282 => (if (ji20) < (y282.length : Int) then ((impl_NeedsValid.f kj8 t264 y278).bind fun t286 => (if t286 = true then ((impl_NeedsValid.f kj8 t264 (y282.set ((ji20) : Int).toNat (-1))).bind fun t287 => (if t287 = true then (some false) else (if y278.length < 17592186044416 then ((impl_NeedsValid.f kj8 t264 (y278 ++ [1])).bind fun t291 => (some (!t291))) else (none)))) else (some false))) else (none))) else (none)))) else (none)) else (none)) = some r := by first | (rw [hji20] at H; exact H) | (simp only [hji20] at H ⊢; exact H)
         by_cases c21 : 0 ≤ (ji20)
         ·rw [if_pos c21] at H
          have c21b0 : decide (0 ≤ (ji20)) = true := decide_eq_true c21
          clear c21
          by_cases c22 : (ji20) < (y275.length : Int)
          ·rw [if_pos c22] at H
           have c22b0 : decide ((ji20) < (y275.length : Int)) = true := decide_eq_true c22
           clear c22
           obtain ⟨y278, hy278⟩ : ∃ y_ : List Int, y_ = (y275.set ((ji20) : Int).toNat 0) := ⟨_, rfl⟩
           replace H : ((some (([] : List Int) : List Int)).bind fun y279 => (if y279.length + t265.length < 17592186044416 then ((some (y279 ++ t265 : List Int)).bind fun y282 => (if (ji20) < (y282.length : Int) then ((impl_NeedsValid.f kj8 t264 y278).bind fun t286 => (if t286 = true then ((impl_NeedsValid.f kj8 t264 (y282.set ((ji20) : Int).toNat (-1))).bind fun t287 => (if t287 = true then (some false) else (if y278.length < 17592186044416 then ((impl_NeedsValid.f kj8 t264 (y278 ++ [1])).bind fun t291 => (some (!t291))) else (none)))) else (some false))) else (none))) else (none))) = some r := by first | (rw [hy278]; with_reducible exact H) | (have H2_ := (Option.bind_some _ _).symm.trans H; rw [hy278]; with_reducible exact H2_) | (have H2_ := (Option.bind_some _ _).symm.trans H; with_reducible exact H2_) | with_reducible exact H | (rw [hy278]; exact H) | exact H
           have Ny278 := Aside0.mk hy278
           clear hy278
           obtain ⟨y279, hy279⟩ : ∃ y_ : List Int, y_ = (([] : List Int)) := ⟨_, rfl⟩
           replace H : (if y279.length + t265.length < 17592186044416 then ((some (y279 ++ t265 : List Int)).bind fun y282 => (if (ji20) < (y282.length : Int) then ((impl_NeedsValid.f kj8 t264 y278).bind fun t286 => (if t286 = true then ((impl_NeedsValid.f kj8 t264 (y282.set ((ji20) : Int).toNat (-1))).bind fun t287 => (if t287 = true then (some false) else (if y278.length < 17592186044416 then ((impl_NeedsValid.f kj8 t264 (y278 ++ [1])).bind fun t291 => (some (!t291))) else (none)))) else (some false))) else (none))) else (none)) = some r := by first | (rw [hy279]; with_reducible exact H) | (have H2_ := (Option.bind_some _ _).symm.trans H; rw [hy279]; with_reducible exact H2_) | (have H2_ := (Option.bind_some _ _).symm.trans H; with_reducible exact H2_) | with_reducible exact H | (rw [hy279]; exact H) | exact H
           have Ny279 := Aside0.mk hy279
           clear hy279
           by_cases c24 : y279.length + t265.length < 17592186044416
           ·rw [if_pos c24] at H
            have LMc24 := Aside0.mk c24
            clear c24
            obtain ⟨y282, hy282⟩ : ∃ y_ : List Int, y_ = (y279 ++ t265) := ⟨_, rfl⟩
            replace H : (if (ji20) < (y282.length : Int) then ((impl_NeedsValid.f kj8 t264 y278).bind fun t286 => (if t286 = true then ((impl_NeedsValid.f kj8 t264 (y282.set ((ji20) : Int).toNat (-1))).bind fun t287 => (if t287 = true then (some false) else (if y278.length < 17592186044416 then ((impl_NeedsValid.f kj8 t264 (y278 ++ [1])).bind fun t291 => (some (!t291))) else (none)))) else (some false))) else (none)) = some r := by first | (rw [hy282]; with_reducible exact H) | (have H2_ := (Option.bind_some _ _).symm.trans H; rw [hy282]; with_reducible exact H2_) | (have H2_ := (Option.bind_some _ _).symm.trans H; with_reducible exact H2_) | with_reducible exact H | (rw [hy282]; exact H) | exact H
            have Ny282 := Aside0.mk hy282
            clear hy282
            by_cases c25 : (ji20) < (y282.length : Int)
            ·rw [if_pos c25] at H
             have c25b0 : decide ((ji20) < (y282.length : Int)) = true := decide_eq_true c25
             clear c25
             obtain ⟨y285, hy285⟩ : ∃ y_ : List Int, y_ = (y282.set ((ji20) : Int).toNat (-1)) := ⟨_, rfl⟩
             replace H : ((impl_NeedsValid.f kj8 t264 y278).bind fun t286 => (if t286 = true then ((impl_NeedsValid.f kj8 t264 y285).bind fun t287 => (if t287 = true then (some false) else (if y278.length < 17592186044416 then ((impl_NeedsValid.f kj8 t264 (y278 ++ [1])).bind fun t291 => (some (!t291))) else (none)))) else (some false))) = some r := by first | (rw [hy285]; with_reducible exact H) | (have H2_ := (Option.bind_some _ _).symm.trans H; rw [hy285]; with_reducible exact H2_) | (have H2_ := (Option.bind_some _ _).symm.trans H; with_reducible exact H2_) | with_reducible exact H | (rw [hy285]; exact H) | exact H
             have Ny285 := Aside0.mk hy285
             clear hy285
             replace H := Option.bind_eq_some_iff.mp H
             obtain ⟨t286, A270, H⟩ := H
             replace H : (if t286 = true then ((impl_NeedsValid.f kj8 t264 y285).bind fun t287 => (if t287 = true then (some false) else (if y278.length < 17592186044416 then ((impl_NeedsValid.f kj8 t264 (y278 ++ [1])).bind fun t291 => (some (!t291))) else (none)))) else (some false)) = some r := H
             have A27 := Aside0.mk A270
             clear A270
             by_cases c28 : t286 = true
             ·subst c28
              have H1 : ((impl_NeedsValid.f kj8 t264 y285).bind fun t287 => (if t287 = true then (some false) else (if y278.length < 17592186044416 then ((impl_NeedsValid.f kj8 t264 (y278 ++ [1])).bind fun t291 => (some (!t291))) else (none)))) = some r := by rw [if_pos rfl] at H; exact H
              clear H
              have H := H1
              clear H1
              replace H := Option.bind_eq_some_iff.mp H
              obtain ⟨t287, A290, H⟩ := H
              replace H : (if t287 = true then (some false) else (if y278.length < 17592186044416 then ((impl_NeedsValid.f kj8 t264 (y278 ++ [1])).bind fun t291 => (some (!t291))) else (none))) = some r := H
              have A29 := Aside0.mk A290
              clear A290
              by_cases c30 : t287 = true
              ·subst c30
               have H1 : (some false) = some r := by rw [if_pos rfl] at H; exact H
               clear H
               have H := H1
               clear H1
               obtain rfl := Option.some.inj H
               go_wp2_with (first | ((with_reducible refine gate_dst (N := 51) rfl ?_); (try (refine gate_guard (by rfl) ?_; dsimp only)); refine Kd.R_lit (Kd.int .i64) _ 3 ?hg (N := 51) ?hd (xs := ([] : List Int)) (inner := []) (ok := fun _ => True) (okp := fun _ => True) ?hr ?hp (fun _ hk => hk) trivial (Below.refl _ _) (Nat.le_refl _) (by simp) ?_; (case hd => rfl); (case hg => rfl); (case hr => first | (go_simp; done) | (go_simp; rfl)); (case hp => exact (Reps.none _ _)); intro v273 w31 ho32 hb hg_ hnew_; clear hg_ hnew_; (first | rw [← Ny272.out] at ho32 | (simp only [Int.reduceToNat] at ho32; rw [← Ny272.out] at ho32)); have n0_ := Aside0.mk (Kd.R_below (pR HO_5) hb); have n1_ := Aside0.mk (Kd.R_elder' (pR HO_6) (Kd.R_base ho32) hb); have n2_ := Aside0.mk (Kd.R_lower (Kd.R_new' ho32 (Kd.R_lt (pR HO_6))) (below_size pB)); have n3_ := Aside0.mk (below_step pB hb); clear HO_5; clear HO_6; clear HB; have HO_5 := n0_; have HO_6 := n1_; have HO274 := n2_; have HB := n3_; clear n0_ n1_ n2_ n3_; clear hb ho32) | ((with_reducible refine gate_builtin (b := .append) (xs := #[.tmp 51, .tmp 52]) rfl ?_); (try (refine gate_guard (by rfl) ?_; dsimp only)); at_builtin; refine Kd.R_append_rows (Kd.int .i64) (w0 := w) w.heap.size rfl (.tmp 51) (.tmp 52) 23 3 (.int .i64 0) 8 rfl Try.underlying23 info3 rfl (by decide) (by omega) v273 y272 t265 _ _ _ (fun k_ => some k_ ≠ (.slice Ao12 t265.length co12 : Value).ownBlock) (fun _ => False) rfl rfl ?aO ?aR (fun _ _ h => h) (fun _ h => h.elim) ?aF ?aB ?aS ?aL ?_; (case aR => exact pS ((Kd.R_reads' HO_6.out).2.2)); (case aB => exact pB); (case aF => exact (fun k_ hk => Kd.fresh' (Kd.R_lt (pR HO_6)) k_ hk)); (case aO => exact (by (with_reducible repeat (first | apply Kd.R_alloc | apply Kd.R_drewN | apply Kd.R_drew)); exact Kd.R_mono HO274.out (fun _ hk => hk.2))); (case aS => exact (below_size pB)); (case aL => have := LMc19.out; omega); intro v276 w33 ho hb hg hat; rw [← Ny275.out] at ho; have n0_ := Aside0.mk (Kd.R_over' (pR HO_5) (Kd.R_typed (pR HO274)) (by decide) hg); have n1_ := Aside0.mk (Kd.R_after (ok := (fun _ => True)) (pR HO_6) hg hat); have n2_ := Aside0.mk (hb); have n3_ := Aside0.mk (ho); clear HO_5; clear HO_6; clear HB; clear HO274; have HO_5 := n0_; have HO_6 := n1_; have HB := n2_; have HO277 := n3_; clear n0_ n1_ n2_ n3_; clear ho hb hg hat; have p23 : 0 ≤ ((ji20) : Int) := of_decide_eq_true pA; have q23 : ((ji20) : Int) < ((y275.length : Int) : Int) := of_decide_eq_true pA; obtain ⟨go23, co23, eo23, gb23, gl23, cl23, HG23⟩ := Kd.R_form HO277.out (by omega); (first | cases eo23 | (injection eo23 with ea_ en_ ec_; (first | subst ea_ | (injection ea_ with ea_; subst ea_)); subst ec_; clear en_)); have GB23 := Aside0.mk gb23; have GG23 := Aside0.mk HG23; clear gb23 gl23 HG23; obtain ⟨hx23_0, hf23_0⟩ := Kd.R_celln 0 HO277.out ((ji20) : Int) p23 q23; replace p23 := eq_true p23; replace q23 := eq_true q23; obtain ⟨hy34_, hz34_⟩ := Kd.R_celln 0 HO277.out ((ji20) : Int) (of_decide_eq_true pA) (of_decide_eq_true pA); have HP34 := Kd.R_putg HO277.out ((ji20) : Int) 0) | ((with_reducible refine gate_store (t := 3) (p := 56) rfl ?_); refine store_event (t := 3) (p := 56) (v := ?vo_w35) (w1 := (w33.setCell ⟨go23, ((ji20) : Int).toNat, none⟩ (.int .i64 0))) ?hg ?ho ?hn ?hr ?_; (case ho => rfl); (case hg => rfl); (case hn => rfl); (case hr => first | (go_simp; done) | (go_simp; rfl)); intro w35 hw; have hg : w33.grownBy w35 (some go23) := (by rw [hw]; exact HP34.2); have hp_ : Kd.R (Kd.int .i64) 3 w35 w.heap.size (fun k_ => some k_ ≠ (.slice Ao12 t265.length co12 : Value).ownBlock) (.slice (some ⟨go23, 0, none⟩) y275.length co23) y278 := (by rw [hw, Ny278.out]; exact HP34.1); clear HP34; have n0_ := Aside0.mk (Kd.R_over' (v := (.slice (some ⟨go23, 0, none⟩) y275.length co23)) (pR HO_5) (Kd.R_typed HO277.out) (by decide) hg); have n1_ := Aside0.mk (Kd.R_after (v := (.slice (some ⟨go23, 0, none⟩) y275.length co23)) (v1 := (.slice (some ⟨go23, 0, none⟩) y275.length co23)) (ok := (fun _ => True)) (pR HO_6) hg (.inl rfl)); have n2_ := Aside0.mk (hp_); have n3_ := Aside0.mk ((by rw [hw]; exact below_set (HB.out) GB23.out : Below w.heap.size w w35)); clear HO_5; clear HO_6; clear HO277; clear HB; have HO_5 := n0_; have HO_6 := n1_; have HO277 := n2_; have HB := n3_; clear n0_ n1_ n2_ n3_; clear hg hw hp_) | ((with_reducible refine gate_dst (N := 57) rfl ?_); (try (refine gate_guard (by rfl) ?_; dsimp only)); refine Kd.R_lit (Kd.int .i64) _ 3 ?hg (N := 57) ?hd (xs := ([] : List Int)) (inner := []) (ok := fun _ => True) (okp := fun _ => True) ?hr ?hp (fun _ hk => hk) trivial (Below.refl _ _) (Nat.le_refl _) (by simp) ?_; (case hd => rfl); (case hg => rfl); (case hr => first | (go_simp; done) | (go_simp; rfl)); (case hp => exact (Reps.none _ _)); intro v280 w36 ho37 hb hg_ hnew_; clear hg_ hnew_; (first | rw [← Ny279.out] at ho37 | (simp only [Int.reduceToNat] at ho37; rw [← Ny279.out] at ho37)); have n0_ := Aside0.mk (Kd.R_below (pR HO_5) hb); have n1_ := Aside0.mk (Kd.R_elder' (pR HO_6) (Kd.R_base ho37) hb); have n2_ := Aside0.mk (Kd.R_elder' (pR HO277) (Kd.R_base ho37) hb); have n3_ := Aside0.mk (Kd.R_lower (Kd.R_new' (Kd.R_new' ho37 (Kd.R_lt (pR HO_6))) (Kd.R_lt (pR HO277))) (below_size pB)); have n4_ := Aside0.mk (below_step pB hb); clear HO_5; clear HO_6; clear HO277; clear HB; have HO_5 := n0_; have HO_6 := n1_; have HO277 := n2_; have HO281 := n3_; have HB := n4_; clear n0_ n1_ n2_ n3_ n4_; clear hb ho37) | ((with_reducible refine gate_builtin (b := .append) (xs := #[.tmp 57, .tmp 58]) rfl ?_); (try (refine gate_guard (by rfl) ?_; dsimp only)); at_builtin; refine Kd.R_append_rows (Kd.int .i64) (w0 := w) w.heap.size rfl (.tmp 57) (.tmp 58) 23 3 (.int .i64 0) 8 rfl Try.underlying23 info3 rfl (by decide) (by omega) v280 y279 t265 _ _ _ (fun k_ => some k_ ≠ (.slice Ao12 t265.length co12 : Value).ownBlock ∧ some k_ ≠ (.slice (some ⟨go23, 0, none⟩) y275.length co23 : Value).ownBlock) (fun _ => False) rfl rfl ?aO ?aR (fun _ _ h => h) (fun _ h => h.elim) ?aF ?aB ?aS ?aL ?_; (case aR => exact pS ((Kd.R_reads' HO_6.out).2.2)); (case aB => exact pB); (case aF => exact (fun k_ hk => ⟨Kd.fresh' (Kd.R_lt (pR HO_6)) k_ hk, Kd.fresh' (Kd.R_lt (pR HO277)) k_ hk⟩)); (case aO => exact (by (with_reducible repeat (first | apply Kd.R_alloc | apply Kd.R_drewN | apply Kd.R_drew)); exact Kd.R_mono HO281.out (fun _ hk => ⟨hk.1.2, hk.2⟩))); (case aS => exact (below_size pB)); (case aL => have := LMc24.out; omega); intro v283 w38 ho hb hg hat; rw [← Ny282.out] at ho; have n0_ := Aside0.mk (Kd.R_over' (pR HO_5) (Kd.R_typed (pR HO281)) (by decide) hg); have n1_ := Aside0.mk (Kd.R_after (ok := (fun k_ => some k_ ≠ (.slice (some ⟨go23, 0, none⟩) y275.length co23 : Value).ownBlock)) (by (with_reducible repeat (first | apply Kd.R_alloc | apply Kd.R_drewN | apply Kd.R_drew)); exact Kd.R_mono HO_6.out (fun _ hk => ⟨hk.1.2, hk.2⟩)) hg hat); have n2_ := Aside0.mk (Kd.R_after (ok := (fun k_ => some k_ ≠ (.slice Ao12 t265.length co12 : Value).ownBlock)) (pR HO277) hg hat); have n3_ := Aside0.mk (hb); have n4_ := Aside0.mk (ho); clear HO_5; clear HO_6; clear HO277; clear HB; clear HO281; have HO_5 := n0_; have HO_6 := n1_; have HO277 := n2_; have HB := n3_; have HO284 := n4_; clear n0_ n1_ n2_ n3_ n4_; clear ho hb hg hat; have p26 : 0 ≤ ((ji20) : Int) := of_decide_eq_true pA; have q26 : ((ji20) : Int) < ((y282.length : Int) : Int) := of_decide_eq_true pA; obtain ⟨go26, co26, eo26, gb26, gl26, cl26, HG26⟩ := Kd.R_form HO284.out (by omega); (first | cases eo26 | (injection eo26 with ea_ en_ ec_; (first | subst ea_ | (injection ea_ with ea_; subst ea_)); subst ec_; clear en_)); have GB26 := Aside0.mk gb26; have GG26 := Aside0.mk HG26; clear gb26 gl26 HG26; obtain ⟨hx26_0, hf26_0⟩ := Kd.R_celln 0 HO284.out ((ji20) : Int) p26 q26; replace p26 := eq_true p26; replace q26 := eq_true q26; obtain ⟨hy39_, hz39_⟩ := Kd.R_celln 0 HO284.out ((ji20) : Int) (of_decide_eq_true pA) (of_decide_eq_true pA); have HP39 := Kd.R_putg HO284.out ((ji20) : Int) (-1)) | ((with_reducible refine gate_store (t := 3) (p := 62) rfl ?_); refine store_event (t := 3) (p := 62) (v := ?vo_w40) (w1 := (w38.setCell ⟨go26, ((ji20) : Int).toNat, none⟩ (.int .i64 (-1)))) ?hg ?ho ?hn ?hr ?_; (case ho => rfl); (case hg => rfl); (case hn => rfl); (case hr => first | (go_simp; done) | (go_simp; rfl)); intro w40 hw; have hg : w38.grownBy w40 (some go26) := (by rw [hw]; exact HP39.2); have hp_ : Kd.R (Kd.int .i64) 3 w40 w.heap.size (fun k_ => some k_ ≠ (.slice Ao12 t265.length co12 : Value).ownBlock ∧ some k_ ≠ (.slice (some ⟨go23, 0, none⟩) y275.length co23 : Value).ownBlock) (.slice (some ⟨go26, 0, none⟩) y282.length co26) y285 := (by rw [hw, Ny285.out]; exact HP39.1); clear HP39; have n0_ := Aside0.mk (Kd.R_over' (v := (.slice (some ⟨go26, 0, none⟩) y282.length co26)) (pR HO_5) (Kd.R_typed HO284.out) (by decide) hg); have n1_ := Aside0.mk (Kd.R_after (v := (.slice (some ⟨go26, 0, none⟩) y282.length co26)) (v1 := (.slice (some ⟨go26, 0, none⟩) y282.length co26)) (ok := (fun k_ => some k_ ≠ (.slice (some ⟨go23, 0, none⟩) y275.length co23 : Value).ownBlock)) (pR HO_6) hg (.inl rfl)); have n2_ := Aside0.mk (Kd.R_after (v := (.slice (some ⟨go26, 0, none⟩) y282.length co26)) (v1 := (.slice (some ⟨go26, 0, none⟩) y282.length co26)) (ok := (fun k_ => some k_ ≠ (.slice Ao12 t265.length co12 : Value).ownBlock)) (pR HO277) hg (.inl rfl)); have n3_ := Aside0.mk (hp_); have n4_ := Aside0.mk ((by rw [hw]; exact below_set (HB.out) GB26.out : Below w.heap.size w w40)); clear HO_5; clear HO_6; clear HO277; clear HO284; clear HB; have HO_5 := n0_; have HO_6 := n1_; have HO277 := n2_; have HO284 := n3_; have HB := n4_; clear n0_ n1_ n2_ n3_ n4_; clear hg hw hp_) | ((with_reducible refine gate_callee (f := 19) rfl ?_); refine goesL_ (some 65) rfl rfl Try.func19 pL rfl #[.slice Ao11 t264.length co11, .slice (some ⟨go23, 0, none⟩) y278.length co23] rfl (by (try simp only [List.map_toArray, List.map_cons, List.map_nil]); first | done | (rw [show y278.length = y275.length from (Kd.R_reads' HO277.out).1.symm] <;> rfl) | rfl | (simp only [List.length_drop, List.length_take]; rfl)) ?_; (with_reducible refine (impl_NeedsValid.calls kj8 _ _ t264 _ _ y278 true _ ?side1 ?side2 ?side3 ?side4 A27.out).mono ?_); (case side1 => exact pS ((Kd.R_reads' HO_5.out).2.2)); (case side2 => exact (Kd.R_reads' HO_5.out).2.1); (case side3 => exact pS ((Kd.R_reads' HO277.out).2.2)); (case side4 => rw [show y278.length = y275.length from (Kd.R_reads' HO277.out).1.symm]; exact (Kd.R_reads' HO277.out).2.1); rintro e w41 ⟨rfl, hb⟩; refine ⟨_, rfl, ?_⟩; have n0_ := Aside0.mk (Kd.R_below (pR HO_5) hb); have n1_ := Aside0.mk (Kd.R_below (pR HO_6) hb); have n2_ := Aside0.mk (Kd.R_below (pR HO277) hb); have n3_ := Aside0.mk (Kd.R_below (pR HO284) hb); have n4_ := Aside0.mk (below_step pB hb); clear HO_5; clear HO_6; clear HO277; clear HO284; clear HB; have HO_5 := n0_; have HO_6 := n1_; have HO277 := n2_; have HO284 := n3_; have HB := n4_; clear n0_ n1_ n2_ n3_ n4_; (try clear hb); (try clear hb2); (try clear hk); (try clear hi)) | (go_at_call 19; refine calls_of_args (args' := #[.slice Ao11 t264.length co11, .slice (some ⟨go26, 0, none⟩) y285.length co26]) (by first | (rw [show y285.length = y282.length from (Kd.R_reads' HO284.out).1.symm] <;> rfl) | rfl) ?_; (with_reducible refine (impl_NeedsValid.calls kj8 _ _ t264 _ _ y285 true _ ?side1 ?side2 ?side3 ?side4 A29.out).mono ?_); (case side1 => exact pS ((Kd.R_reads' HO_5.out).2.2)); (case side2 => exact (Kd.R_reads' HO_5.out).2.1); (case side3 => exact pS ((Kd.R_reads' HO284.out).2.2)); (case side4 => rw [show y285.length = y282.length from (Kd.R_reads' HO284.out).1.symm]; exact (Kd.R_reads' HO284.out).2.1); rintro e w42 ⟨rfl, hb⟩; have n0_ := Aside0.mk (Kd.R_below (pR HO_5) hb); have n1_ := Aside0.mk (Kd.R_below (pR HO_6) hb); have n2_ := Aside0.mk (Kd.R_below (pR HO277) hb); have n3_ := Aside0.mk (Kd.R_below (pR HO284) hb); have n4_ := Aside0.mk (below_step pB hb); clear HO_5; clear HO_6; clear HO277; clear HO284; clear HB; have HO_5 := n0_; have HO_6 := n1_; have HO277 := n2_; have HO284 := n3_; have HB := n4_; clear n0_ n1_ n2_ n3_ n4_; (try clear hb); (try clear hb2); (try clear hk); (try clear hi)))
               go_ret
               exact ⟨by first | rfl | (simp [errW_none, errW_some] <;> rfl) | (simp only [← hji20]; first | rfl | (simp [errW_none, errW_some] <;> rfl)) | (simp [*, errW_none, errW_some] <;> rfl), pB⟩
              ·replace c30 := Bool.eq_false_iff.mpr c30
               subst c30
               have H1 : (if y278.length < 17592186044416 then ((impl_NeedsValid.f kj8 t264 (y278 ++ [1])).bind fun t291 => (some (!t291))) else (none)) = some r := by rw [if_neg (show ¬ (false = true) by decide)] at H; exact H
               clear H
               have H := H1
               clear H1
               by_cases c43 : y278.length < 17592186044416
               ·rw [if_pos c43] at H
                have LMc43 := Aside0.mk c43
                clear c43
                obtain ⟨y288, hy288⟩ : ∃ y_ : List Int, y_ = (y278 ++ [1]) := ⟨_, rfl⟩
                replace H : ((impl_NeedsValid.f kj8 t264 y288).bind fun t291 => (some (!t291))) = some r := by first | (rw [hy288]; with_reducible exact H) | (have H2_ := (Option.bind_some _ _).symm.trans H; rw [hy288]; with_reducible exact H2_) | (have H2_ := (Option.bind_some _ _).symm.trans H; with_reducible exact H2_) | with_reducible exact H | (rw [hy288]; exact H) | exact H
                have Ny288 := Aside0.mk hy288
                clear hy288
                replace H := Option.bind_eq_some_iff.mp H
                obtain ⟨t291, A440, H⟩ := H
                replace H : (some (!t291)) = some r := H
                have A44 := Aside0.mk A440
                clear A440
                obtain rfl := Option.some.inj H
                go_wp2_with (first | ((with_reducible refine gate_dst (N := 51) rfl ?_); (try (refine gate_guard (by rfl) ?_; dsimp only)); refine Kd.R_lit (Kd.int .i64) _ 3 ?hg (N := 51) ?hd (xs := ([] : List Int)) (inner := []) (ok := fun _ => True) (okp := fun _ => True) ?hr ?hp (fun _ hk => hk) trivial (Below.refl _ _) (Nat.le_refl _) (by simp) ?_; (case hd => rfl); (case hg => rfl); (case hr => first | (go_simp; done) | (go_simp; rfl)); (case hp => exact (Reps.none _ _)); intro v273 w45 ho46 hb hg_ hnew_; clear hg_ hnew_; (first | rw [← Ny272.out] at ho46 | (simp only [Int.reduceToNat] at ho46; rw [← Ny272.out] at ho46)); have n0_ := Aside0.mk (Kd.R_below (pR HO_5) hb); have n1_ := Aside0.mk (Kd.R_elder' (pR HO_6) (Kd.R_base ho46) hb); have n2_ := Aside0.mk (Kd.R_lower (Kd.R_new' ho46 (Kd.R_lt (pR HO_6))) (below_size pB)); have n3_ := Aside0.mk (below_step pB hb); clear HO_5; clear HO_6; clear HB; have HO_5 := n0_; have HO_6 := n1_; have HO274 := n2_; have HB := n3_; clear n0_ n1_ n2_ n3_; clear hb ho46) | ((with_reducible refine gate_builtin (b := .append) (xs := #[.tmp 51, .tmp 52]) rfl ?_); (try (refine gate_guard (by rfl) ?_; dsimp only)); at_builtin; refine Kd.R_append_rows (Kd.int .i64) (w0 := w) w.heap.size rfl (.tmp 51) (.tmp 52) 23 3 (.int .i64 0) 8 rfl Try.underlying23 info3 rfl (by decide) (by omega) v273 y272 t265 _ _ _ (fun k_ => some k_ ≠ (.slice Ao12 t265.length co12 : Value).ownBlock) (fun _ => False) rfl rfl ?aO ?aR (fun _ _ h => h) (fun _ h => h.elim) ?aF ?aB ?aS ?aL ?_; (case aR => exact pS ((Kd.R_reads' HO_6.out).2.2)); (case aB => exact pB); (case aF => exact (fun k_ hk => Kd.fresh' (Kd.R_lt (pR HO_6)) k_ hk)); (case aO => exact (by (with_reducible repeat (first | apply Kd.R_alloc | apply Kd.R_drewN | apply Kd.R_drew)); exact Kd.R_mono HO274.out (fun _ hk => hk.2))); (case aS => exact (below_size pB)); (case aL => have := LMc19.out; omega); intro v276 w47 ho hb hg hat; rw [← Ny275.out] at ho; have n0_ := Aside0.mk (Kd.R_over' (pR HO_5) (Kd.R_typed (pR HO274)) (by decide) hg); have n1_ := Aside0.mk (Kd.R_after (ok := (fun _ => True)) (pR HO_6) hg hat); have n2_ := Aside0.mk (hb); have n3_ := Aside0.mk (ho); clear HO_5; clear HO_6; clear HB; clear HO274; have HO_5 := n0_; have HO_6 := n1_; have HB := n2_; have HO277 := n3_; clear n0_ n1_ n2_ n3_; clear ho hb hg hat; have p23 : 0 ≤ ((ji20) : Int) := of_decide_eq_true pA; have q23 : ((ji20) : Int) < ((y275.length : Int) : Int) := of_decide_eq_true pA; obtain ⟨go23, co23, eo23, gb23, gl23, cl23, HG23⟩ := Kd.R_form HO277.out (by omega); (first | cases eo23 | (injection eo23 with ea_ en_ ec_; (first | subst ea_ | (injection ea_ with ea_; subst ea_)); subst ec_; clear en_)); have GB23 := Aside0.mk gb23; have GG23 := Aside0.mk HG23; clear gb23 gl23 HG23; obtain ⟨hx23_0, hf23_0⟩ := Kd.R_celln 0 HO277.out ((ji20) : Int) p23 q23; replace p23 := eq_true p23; replace q23 := eq_true q23; obtain ⟨hy48_, hz48_⟩ := Kd.R_celln 0 HO277.out ((ji20) : Int) (of_decide_eq_true pA) (of_decide_eq_true pA); have HP48 := Kd.R_putg HO277.out ((ji20) : Int) 0) | ((with_reducible refine gate_store (t := 3) (p := 56) rfl ?_); refine store_event (t := 3) (p := 56) (v := ?vo_w49) (w1 := (w47.setCell ⟨go23, ((ji20) : Int).toNat, none⟩ (.int .i64 0))) ?hg ?ho ?hn ?hr ?_; (case ho => rfl); (case hg => rfl); (case hn => rfl); (case hr => first | (go_simp; done) | (go_simp; rfl)); intro w49 hw; have hg : w47.grownBy w49 (some go23) := (by rw [hw]; exact HP48.2); have hp_ : Kd.R (Kd.int .i64) 3 w49 w.heap.size (fun k_ => some k_ ≠ (.slice Ao12 t265.length co12 : Value).ownBlock) (.slice (some ⟨go23, 0, none⟩) y275.length co23) y278 := (by rw [hw, Ny278.out]; exact HP48.1); clear HP48; have n0_ := Aside0.mk (Kd.R_over' (v := (.slice (some ⟨go23, 0, none⟩) y275.length co23)) (pR HO_5) (Kd.R_typed HO277.out) (by decide) hg); have n1_ := Aside0.mk (Kd.R_after (v := (.slice (some ⟨go23, 0, none⟩) y275.length co23)) (v1 := (.slice (some ⟨go23, 0, none⟩) y275.length co23)) (ok := (fun _ => True)) (pR HO_6) hg (.inl rfl)); have n2_ := Aside0.mk (hp_); have n3_ := Aside0.mk ((by rw [hw]; exact below_set (HB.out) GB23.out : Below w.heap.size w w49)); clear HO_5; clear HO_6; clear HO277; clear HB; have HO_5 := n0_; have HO_6 := n1_; have HO277 := n2_; have HB := n3_; clear n0_ n1_ n2_ n3_; clear hg hw hp_) | ((with_reducible refine gate_dst (N := 57) rfl ?_); (try (refine gate_guard (by rfl) ?_; dsimp only)); refine Kd.R_lit (Kd.int .i64) _ 3 ?hg (N := 57) ?hd (xs := ([] : List Int)) (inner := []) (ok := fun _ => True) (okp := fun _ => True) ?hr ?hp (fun _ hk => hk) trivial (Below.refl _ _) (Nat.le_refl _) (by simp) ?_; (case hd => rfl); (case hg => rfl); (case hr => first | (go_simp; done) | (go_simp; rfl)); (case hp => exact (Reps.none _ _)); intro v280 w50 ho51 hb hg_ hnew_; clear hg_ hnew_; (first | rw [← Ny279.out] at ho51 | (simp only [Int.reduceToNat] at ho51; rw [← Ny279.out] at ho51)); have n0_ := Aside0.mk (Kd.R_below (pR HO_5) hb); have n1_ := Aside0.mk (Kd.R_elder' (pR HO_6) (Kd.R_base ho51) hb); have n2_ := Aside0.mk (Kd.R_elder' (pR HO277) (Kd.R_base ho51) hb); have n3_ := Aside0.mk (Kd.R_lower (Kd.R_new' (Kd.R_new' ho51 (Kd.R_lt (pR HO_6))) (Kd.R_lt (pR HO277))) (below_size pB)); have n4_ := Aside0.mk (below_step pB hb); clear HO_5; clear HO_6; clear HO277; clear HB; have HO_5 := n0_; have HO_6 := n1_; have HO277 := n2_; have HO281 := n3_; have HB := n4_; clear n0_ n1_ n2_ n3_ n4_; clear hb ho51) | ((with_reducible refine gate_builtin (b := .append) (xs := #[.tmp 57, .tmp 58]) rfl ?_); (try (refine gate_guard (by rfl) ?_; dsimp only)); at_builtin; refine Kd.R_append_rows (Kd.int .i64) (w0 := w) w.heap.size rfl (.tmp 57) (.tmp 58) 23 3 (.int .i64 0) 8 rfl Try.underlying23 info3 rfl (by decide) (by omega) v280 y279 t265 _ _ _ (fun k_ => some k_ ≠ (.slice Ao12 t265.length co12 : Value).ownBlock ∧ some k_ ≠ (.slice (some ⟨go23, 0, none⟩) y275.length co23 : Value).ownBlock) (fun _ => False) rfl rfl ?aO ?aR (fun _ _ h => h) (fun _ h => h.elim) ?aF ?aB ?aS ?aL ?_; (case aR => exact pS ((Kd.R_reads' HO_6.out).2.2)); (case aB => exact pB); (case aF => exact (fun k_ hk => ⟨Kd.fresh' (Kd.R_lt (pR HO_6)) k_ hk, Kd.fresh' (Kd.R_lt (pR HO277)) k_ hk⟩)); (case aO => exact (by (with_reducible repeat (first | apply Kd.R_alloc | apply Kd.R_drewN | apply Kd.R_drew)); exact Kd.R_mono HO281.out (fun _ hk => ⟨hk.1.2, hk.2⟩))); (case aS => exact (below_size pB)); (case aL => have := LMc24.out; omega); intro v283 w52 ho hb hg hat; rw [← Ny282.out] at ho; have n0_ := Aside0.mk (Kd.R_over' (pR HO_5) (Kd.R_typed (pR HO281)) (by decide) hg); have n1_ := Aside0.mk (Kd.R_after (ok := (fun k_ => some k_ ≠ (.slice (some ⟨go23, 0, none⟩) y275.length co23 : Value).ownBlock)) (by (with_reducible repeat (first | apply Kd.R_alloc | apply Kd.R_drewN | apply Kd.R_drew)); exact Kd.R_mono HO_6.out (fun _ hk => ⟨hk.1.2, hk.2⟩)) hg hat); have n2_ := Aside0.mk (Kd.R_after (ok := (fun k_ => some k_ ≠ (.slice Ao12 t265.length co12 : Value).ownBlock)) (pR HO277) hg hat); have n3_ := Aside0.mk (hb); have n4_ := Aside0.mk (ho); clear HO_5; clear HO_6; clear HO277; clear HB; clear HO281; have HO_5 := n0_; have HO_6 := n1_; have HO277 := n2_; have HB := n3_; have HO284 := n4_; clear n0_ n1_ n2_ n3_ n4_; clear ho hb hg hat; have p26 : 0 ≤ ((ji20) : Int) := of_decide_eq_true pA; have q26 : ((ji20) : Int) < ((y282.length : Int) : Int) := of_decide_eq_true pA; obtain ⟨go26, co26, eo26, gb26, gl26, cl26, HG26⟩ := Kd.R_form HO284.out (by omega); (first | cases eo26 | (injection eo26 with ea_ en_ ec_; (first | subst ea_ | (injection ea_ with ea_; subst ea_)); subst ec_; clear en_)); have GB26 := Aside0.mk gb26; have GG26 := Aside0.mk HG26; clear gb26 gl26 HG26; obtain ⟨hx26_0, hf26_0⟩ := Kd.R_celln 0 HO284.out ((ji20) : Int) p26 q26; replace p26 := eq_true p26; replace q26 := eq_true q26; obtain ⟨hy53_, hz53_⟩ := Kd.R_celln 0 HO284.out ((ji20) : Int) (of_decide_eq_true pA) (of_decide_eq_true pA); have HP53 := Kd.R_putg HO284.out ((ji20) : Int) (-1)) | ((with_reducible refine gate_store (t := 3) (p := 62) rfl ?_); refine store_event (t := 3) (p := 62) (v := ?vo_w54) (w1 := (w52.setCell ⟨go26, ((ji20) : Int).toNat, none⟩ (.int .i64 (-1)))) ?hg ?ho ?hn ?hr ?_; (case ho => rfl); (case hg => rfl); (case hn => rfl); (case hr => first | (go_simp; done) | (go_simp; rfl)); intro w54 hw; have hg : w52.grownBy w54 (some go26) := (by rw [hw]; exact HP53.2); have hp_ : Kd.R (Kd.int .i64) 3 w54 w.heap.size (fun k_ => some k_ ≠ (.slice Ao12 t265.length co12 : Value).ownBlock ∧ some k_ ≠ (.slice (some ⟨go23, 0, none⟩) y275.length co23 : Value).ownBlock) (.slice (some ⟨go26, 0, none⟩) y282.length co26) y285 := (by rw [hw, Ny285.out]; exact HP53.1); clear HP53; have n0_ := Aside0.mk (Kd.R_over' (v := (.slice (some ⟨go26, 0, none⟩) y282.length co26)) (pR HO_5) (Kd.R_typed HO284.out) (by decide) hg); have n1_ := Aside0.mk (Kd.R_after (v := (.slice (some ⟨go26, 0, none⟩) y282.length co26)) (v1 := (.slice (some ⟨go26, 0, none⟩) y282.length co26)) (ok := (fun k_ => some k_ ≠ (.slice (some ⟨go23, 0, none⟩) y275.length co23 : Value).ownBlock)) (pR HO_6) hg (.inl rfl)); have n2_ := Aside0.mk (Kd.R_after (v := (.slice (some ⟨go26, 0, none⟩) y282.length co26)) (v1 := (.slice (some ⟨go26, 0, none⟩) y282.length co26)) (ok := (fun k_ => some k_ ≠ (.slice Ao12 t265.length co12 : Value).ownBlock)) (pR HO277) hg (.inl rfl)); have n3_ := Aside0.mk (hp_); have n4_ := Aside0.mk ((by rw [hw]; exact below_set (HB.out) GB26.out : Below w.heap.size w w54)); clear HO_5; clear HO_6; clear HO277; clear HO284; clear HB; have HO_5 := n0_; have HO_6 := n1_; have HO277 := n2_; have HO284 := n3_; have HB := n4_; clear n0_ n1_ n2_ n3_ n4_; clear hg hw hp_) | ((with_reducible refine gate_callee (f := 19) rfl ?_); refine goesL_ (some 65) rfl rfl Try.func19 pL rfl #[.slice Ao11 t264.length co11, .slice (some ⟨go23, 0, none⟩) y278.length co23] rfl (by (try simp only [List.map_toArray, List.map_cons, List.map_nil]); first | done | (rw [show y278.length = y275.length from (Kd.R_reads' HO277.out).1.symm] <;> rfl) | rfl | (simp only [List.length_drop, List.length_take]; rfl)) ?_; (with_reducible refine (impl_NeedsValid.calls kj8 _ _ t264 _ _ y278 true _ ?side1 ?side2 ?side3 ?side4 A27.out).mono ?_); (case side1 => exact pS ((Kd.R_reads' HO_5.out).2.2)); (case side2 => exact (Kd.R_reads' HO_5.out).2.1); (case side3 => exact pS ((Kd.R_reads' HO277.out).2.2)); (case side4 => rw [show y278.length = y275.length from (Kd.R_reads' HO277.out).1.symm]; exact (Kd.R_reads' HO277.out).2.1); rintro e w55 ⟨rfl, hb⟩; refine ⟨_, rfl, ?_⟩; have n0_ := Aside0.mk (Kd.R_below (pR HO_5) hb); have n1_ := Aside0.mk (Kd.R_below (pR HO_6) hb); have n2_ := Aside0.mk (Kd.R_below (pR HO277) hb); have n3_ := Aside0.mk (Kd.R_below (pR HO284) hb); have n4_ := Aside0.mk (below_step pB hb); clear HO_5; clear HO_6; clear HO277; clear HO284; clear HB; have HO_5 := n0_; have HO_6 := n1_; have HO277 := n2_; have HO284 := n3_; have HB := n4_; clear n0_ n1_ n2_ n3_ n4_; (try clear hb); (try clear hb2); (try clear hk); (try clear hi)) | (go_at_call 19; refine calls_of_args (args' := #[.slice Ao11 t264.length co11, .slice (some ⟨go26, 0, none⟩) y285.length co26]) (by first | (rw [show y285.length = y282.length from (Kd.R_reads' HO284.out).1.symm] <;> rfl) | rfl) ?_; (with_reducible refine (impl_NeedsValid.calls kj8 _ _ t264 _ _ y285 false _ ?side1 ?side2 ?side3 ?side4 A29.out).mono ?_); (case side1 => exact pS ((Kd.R_reads' HO_5.out).2.2)); (case side2 => exact (Kd.R_reads' HO_5.out).2.1); (case side3 => exact pS ((Kd.R_reads' HO284.out).2.2)); (case side4 => rw [show y285.length = y282.length from (Kd.R_reads' HO284.out).1.symm]; exact (Kd.R_reads' HO284.out).2.1); rintro e w56 ⟨rfl, hb⟩; have n0_ := Aside0.mk (Kd.R_below (pR HO_5) hb); have n1_ := Aside0.mk (Kd.R_below (pR HO_6) hb); have n2_ := Aside0.mk (Kd.R_below (pR HO277) hb); have n3_ := Aside0.mk (Kd.R_below (pR HO284) hb); have n4_ := Aside0.mk (below_step pB hb); clear HO_5; clear HO_6; clear HO277; clear HO284; clear HB; have HO_5 := n0_; have HO_6 := n1_; have HO277 := n2_; have HO284 := n3_; have HB := n4_; clear n0_ n1_ n2_ n3_ n4_; (try clear hb); (try clear hb2); (try clear hk); (try clear hi)) | ((with_reducible refine gate_builtin (b := .append) (xs := #[.tmp 74, .tmp 75]) rfl ?_); (try (refine gate_guard (by rfl) ?_; dsimp only)); at_builtin; refine Kd.R_append (Kd.int .i64) (w0 := w) w.heap.size rfl (.tmp 74) (.tmp 75) 23 3 (.int .i64 0) 8 rfl Try.underlying23 info3 rfl (by decide) (by omega) (.slice (some ⟨go23, 0, none⟩) y275.length co23) y278 1 [.int .i64 1] (fun k_ => some k_ ≠ (.slice Ao12 t265.length co12 : Value).ownBlock ∧ some k_ ≠ (.slice (some ⟨go26, 0, none⟩) y282.length co26 : Value).ownBlock) (fun _ => False) rfl rfl ?aP (fun _ hk => hk.elim) ?aF ?aO ?aB ?aS ?aL ?_; (case aP => exact rfl); (case aB => exact pB); (case aF => exact (fun k_ hk => ⟨Kd.fresh' (Kd.R_lt (pR HO_6)) k_ hk, Kd.fresh' (Kd.R_lt (pR HO284)) k_ hk⟩)); (case aO => exact (pR HO277)); (case aS => exact (below_size pB)); (case aL => have := LMc43.out; omega); intro v289 w57 ho hb hg hat; rw [← Ny288.out] at ho; have n0_ := Aside0.mk (Kd.R_over' (pR HO_5) (Kd.R_typed (pR HO277)) (by decide) hg); have n1_ := Aside0.mk (Kd.R_after (ok := (fun k_ => some k_ ≠ (.slice (some ⟨go26, 0, none⟩) y282.length co26 : Value).ownBlock)) (by (with_reducible repeat (first | apply Kd.R_alloc | apply Kd.R_drewN | apply Kd.R_drew)); exact Kd.R_mono HO_6.out (fun _ hk => ⟨hk.2, hk.1⟩)) hg hat); have n2_ := Aside0.mk (Kd.R_after (ok := (fun k_ => some k_ ≠ (.slice Ao12 t265.length co12 : Value).ownBlock)) (pR HO284) hg hat); have n3_ := Aside0.mk (hb); have n4_ := Aside0.mk (ho); clear HO_5; clear HO_6; clear HO284; clear HB; clear HO277; have HO_5 := n0_; have HO_6 := n1_; have HO284 := n2_; have HB := n3_; have HO290 := n4_; clear n0_ n1_ n2_ n3_ n4_; clear ho hb hg hat; obtain ⟨Ao58, co58, eo58⟩ := Kd.R_slice HO290.out; subst eo58) | (go_at_call 19; (with_reducible refine (impl_NeedsValid.calls kj8 _ _ t264 _ _ y288 t291 _ ?side1 ?side2 ?side3 ?side4 A44.out).mono ?_); (case side1 => exact pS ((Kd.R_reads' HO_5.out).2.2)); (case side2 => exact (Kd.R_reads' HO_5.out).2.1); (case side3 => exact pS ((Kd.R_reads' HO290.out).2.2)); (case side4 => exact (Kd.R_reads' HO290.out).2.1); rintro e w59 ⟨rfl, hb⟩; have n0_ := Aside0.mk (Kd.R_below (pR HO_5) hb); have n1_ := Aside0.mk (Kd.R_below (pR HO_6) hb); have n2_ := Aside0.mk (Kd.R_below (pR HO284) hb); have n3_ := Aside0.mk (Kd.R_below (pR HO290) hb); have n4_ := Aside0.mk (below_step pB hb); clear HO_5; clear HO_6; clear HO284; clear HO290; clear HB; have HO_5 := n0_; have HO_6 := n1_; have HO284 := n2_; have HO290 := n3_; have HB := n4_; clear n0_ n1_ n2_ n3_ n4_; (try clear hb); (try clear hb2); (try clear hk); (try clear hi)))
                go_ret
                exact ⟨by first | rfl | (simp [errW_none, errW_some] <;> rfl) | (simp only [← hji20]; first | rfl | (simp [errW_none, errW_some] <;> rfl)) | (simp [*, errW_none, errW_some] <;> rfl), pB⟩
               ·rw [if_neg c43] at H
                exact absurd H (by simp)
             ·replace c28 := Bool.eq_false_iff.mpr c28
              subst c28
              have H1 : (some false) = some r := by rw [if_neg (show ¬ (false = true) by decide)] at H; exact H
              clear H
              have H := H1
              clear H1
              obtain rfl := Option.some.inj H
              go_wp2_with (first | ((with_reducible refine gate_dst (N := 51) rfl ?_); (try (refine gate_guard (by rfl) ?_; dsimp only)); refine Kd.R_lit (Kd.int .i64) _ 3 ?hg (N := 51) ?hd (xs := ([] : List Int)) (inner := []) (ok := fun _ => True) (okp := fun _ => True) ?hr ?hp (fun _ hk => hk) trivial (Below.refl _ _) (Nat.le_refl _) (by simp) ?_; (case hd => rfl); (case hg => rfl); (case hr => first | (go_simp; done) | (go_simp; rfl)); (case hp => exact (Reps.none _ _)); intro v273 w60 ho61 hb hg_ hnew_; clear hg_ hnew_; (first | rw [← Ny272.out] at ho61 | (simp only [Int.reduceToNat] at ho61; rw [← Ny272.out] at ho61)); have n0_ := Aside0.mk (Kd.R_below (pR HO_5) hb); have n1_ := Aside0.mk (Kd.R_elder' (pR HO_6) (Kd.R_base ho61) hb); have n2_ := Aside0.mk (Kd.R_lower (Kd.R_new' ho61 (Kd.R_lt (pR HO_6))) (below_size pB)); have n3_ := Aside0.mk (below_step pB hb); clear HO_5; clear HO_6; clear HB; have HO_5 := n0_; have HO_6 := n1_; have HO274 := n2_; have HB := n3_; clear n0_ n1_ n2_ n3_; clear hb ho61) | ((with_reducible refine gate_builtin (b := .append) (xs := #[.tmp 51, .tmp 52]) rfl ?_); (try (refine gate_guard (by rfl) ?_; dsimp only)); at_builtin; refine Kd.R_append_rows (Kd.int .i64) (w0 := w) w.heap.size rfl (.tmp 51) (.tmp 52) 23 3 (.int .i64 0) 8 rfl Try.underlying23 info3 rfl (by decide) (by omega) v273 y272 t265 _ _ _ (fun k_ => some k_ ≠ (.slice Ao12 t265.length co12 : Value).ownBlock) (fun _ => False) rfl rfl ?aO ?aR (fun _ _ h => h) (fun _ h => h.elim) ?aF ?aB ?aS ?aL ?_; (case aR => exact pS ((Kd.R_reads' HO_6.out).2.2)); (case aB => exact pB); (case aF => exact (fun k_ hk => Kd.fresh' (Kd.R_lt (pR HO_6)) k_ hk)); (case aO => exact (by (with_reducible repeat (first | apply Kd.R_alloc | apply Kd.R_drewN | apply Kd.R_drew)); exact Kd.R_mono HO274.out (fun _ hk => hk.2))); (case aS => exact (below_size pB)); (case aL => have := LMc19.out; omega); intro v276 w62 ho hb hg hat; rw [← Ny275.out] at ho; have n0_ := Aside0.mk (Kd.R_over' (pR HO_5) (Kd.R_typed (pR HO274)) (by decide) hg); have n1_ := Aside0.mk (Kd.R_after (ok := (fun _ => True)) (pR HO_6) hg hat); have n2_ := Aside0.mk (hb); have n3_ := Aside0.mk (ho); clear HO_5; clear HO_6; clear HB; clear HO274; have HO_5 := n0_; have HO_6 := n1_; have HB := n2_; have HO277 := n3_; clear n0_ n1_ n2_ n3_; clear ho hb hg hat; have p23 : 0 ≤ ((ji20) : Int) := of_decide_eq_true pA; have q23 : ((ji20) : Int) < ((y275.length : Int) : Int) := of_decide_eq_true pA; obtain ⟨go23, co23, eo23, gb23, gl23, cl23, HG23⟩ := Kd.R_form HO277.out (by omega); (first | cases eo23 | (injection eo23 with ea_ en_ ec_; (first | subst ea_ | (injection ea_ with ea_; subst ea_)); subst ec_; clear en_)); have GB23 := Aside0.mk gb23; have GG23 := Aside0.mk HG23; clear gb23 gl23 HG23; obtain ⟨hx23_0, hf23_0⟩ := Kd.R_celln 0 HO277.out ((ji20) : Int) p23 q23; replace p23 := eq_true p23; replace q23 := eq_true q23; obtain ⟨hy63_, hz63_⟩ := Kd.R_celln 0 HO277.out ((ji20) : Int) (of_decide_eq_true pA) (of_decide_eq_true pA); have HP63 := Kd.R_putg HO277.out ((ji20) : Int) 0) | ((with_reducible refine gate_store (t := 3) (p := 56) rfl ?_); refine store_event (t := 3) (p := 56) (v := ?vo_w64) (w1 := (w62.setCell ⟨go23, ((ji20) : Int).toNat, none⟩ (.int .i64 0))) ?hg ?ho ?hn ?hr ?_; (case ho => rfl); (case hg => rfl); (case hn => rfl); (case hr => first | (go_simp; done) | (go_simp; rfl)); intro w64 hw; have hg : w62.grownBy w64 (some go23) := (by rw [hw]; exact HP63.2); have hp_ : Kd.R (Kd.int .i64) 3 w64 w.heap.size (fun k_ => some k_ ≠ (.slice Ao12 t265.length co12 : Value).ownBlock) (.slice (some ⟨go23, 0, none⟩) y275.length co23) y278 := (by rw [hw, Ny278.out]; exact HP63.1); clear HP63; have n0_ := Aside0.mk (Kd.R_over' (v := (.slice (some ⟨go23, 0, none⟩) y275.length co23)) (pR HO_5) (Kd.R_typed HO277.out) (by decide) hg); have n1_ := Aside0.mk (Kd.R_after (v := (.slice (some ⟨go23, 0, none⟩) y275.length co23)) (v1 := (.slice (some ⟨go23, 0, none⟩) y275.length co23)) (ok := (fun _ => True)) (pR HO_6) hg (.inl rfl)); have n2_ := Aside0.mk (hp_); have n3_ := Aside0.mk ((by rw [hw]; exact below_set (HB.out) GB23.out : Below w.heap.size w w64)); clear HO_5; clear HO_6; clear HO277; clear HB; have HO_5 := n0_; have HO_6 := n1_; have HO277 := n2_; have HB := n3_; clear n0_ n1_ n2_ n3_; clear hg hw hp_) | ((with_reducible refine gate_dst (N := 57) rfl ?_); (try (refine gate_guard (by rfl) ?_; dsimp only)); refine Kd.R_lit (Kd.int .i64) _ 3 ?hg (N := 57) ?hd (xs := ([] : List Int)) (inner := []) (ok := fun _ => True) (okp := fun _ => True) ?hr ?hp (fun _ hk => hk) trivial (Below.refl _ _) (Nat.le_refl _) (by simp) ?_; (case hd => rfl); (case hg => rfl); (case hr => first | (go_simp; done) | (go_simp; rfl)); (case hp => exact (Reps.none _ _)); intro v280 w65 ho66 hb hg_ hnew_; clear hg_ hnew_; (first | rw [← Ny279.out] at ho66 | (simp only [Int.reduceToNat] at ho66; rw [← Ny279.out] at ho66)); have n0_ := Aside0.mk (Kd.R_below (pR HO_5) hb); have n1_ := Aside0.mk (Kd.R_elder' (pR HO_6) (Kd.R_base ho66) hb); have n2_ := Aside0.mk (Kd.R_elder' (pR HO277) (Kd.R_base ho66) hb); have n3_ := Aside0.mk (Kd.R_lower (Kd.R_new' (Kd.R_new' ho66 (Kd.R_lt (pR HO_6))) (Kd.R_lt (pR HO277))) (below_size pB)); have n4_ := Aside0.mk (below_step pB hb); clear HO_5; clear HO_6; clear HO277; clear HB; have HO_5 := n0_; have HO_6 := n1_; have HO277 := n2_; have HO281 := n3_; have HB := n4_; clear n0_ n1_ n2_ n3_ n4_; clear hb ho66) | ((with_reducible refine gate_builtin (b := .append) (xs := #[.tmp 57, .tmp 58]) rfl ?_); (try (refine gate_guard (by rfl) ?_; dsimp only)); at_builtin; refine Kd.R_append_rows (Kd.int .i64) (w0 := w) w.heap.size rfl (.tmp 57) (.tmp 58) 23 3 (.int .i64 0) 8 rfl Try.underlying23 info3 rfl (by decide) (by omega) v280 y279 t265 _ _ _ (fun k_ => some k_ ≠ (.slice Ao12 t265.length co12 : Value).ownBlock ∧ some k_ ≠ (.slice (some ⟨go23, 0, none⟩) y275.length co23 : Value).ownBlock) (fun _ => False) rfl rfl ?aO ?aR (fun _ _ h => h) (fun _ h => h.elim) ?aF ?aB ?aS ?aL ?_; (case aR => exact pS ((Kd.R_reads' HO_6.out).2.2)); (case aB => exact pB); (case aF => exact (fun k_ hk => ⟨Kd.fresh' (Kd.R_lt (pR HO_6)) k_ hk, Kd.fresh' (Kd.R_lt (pR HO277)) k_ hk⟩)); (case aO => exact (by (with_reducible repeat (first | apply Kd.R_alloc | apply Kd.R_drewN | apply Kd.R_drew)); exact Kd.R_mono HO281.out (fun _ hk => ⟨hk.1.2, hk.2⟩))); (case aS => exact (below_size pB)); (case aL => have := LMc24.out; omega); intro v283 w67 ho hb hg hat; rw [← Ny282.out] at ho; have n0_ := Aside0.mk (Kd.R_over' (pR HO_5) (Kd.R_typed (pR HO281)) (by decide) hg); have n1_ := Aside0.mk (Kd.R_after (ok := (fun k_ => some k_ ≠ (.slice (some ⟨go23, 0, none⟩) y275.length co23 : Value).ownBlock)) (by (with_reducible repeat (first | apply Kd.R_alloc | apply Kd.R_drewN | apply Kd.R_drew)); exact Kd.R_mono HO_6.out (fun _ hk => ⟨hk.1.2, hk.2⟩)) hg hat); have n2_ := Aside0.mk (Kd.R_after (ok := (fun k_ => some k_ ≠ (.slice Ao12 t265.length co12 : Value).ownBlock)) (pR HO277) hg hat); have n3_ := Aside0.mk (hb); have n4_ := Aside0.mk (ho); clear HO_5; clear HO_6; clear HO277; clear HB; clear HO281; have HO_5 := n0_; have HO_6 := n1_; have HO277 := n2_; have HB := n3_; have HO284 := n4_; clear n0_ n1_ n2_ n3_ n4_; clear ho hb hg hat; have p26 : 0 ≤ ((ji20) : Int) := of_decide_eq_true pA; have q26 : ((ji20) : Int) < ((y282.length : Int) : Int) := of_decide_eq_true pA; obtain ⟨go26, co26, eo26, gb26, gl26, cl26, HG26⟩ := Kd.R_form HO284.out (by omega); (first | cases eo26 | (injection eo26 with ea_ en_ ec_; (first | subst ea_ | (injection ea_ with ea_; subst ea_)); subst ec_; clear en_)); have GB26 := Aside0.mk gb26; have GG26 := Aside0.mk HG26; clear gb26 gl26 HG26; obtain ⟨hx26_0, hf26_0⟩ := Kd.R_celln 0 HO284.out ((ji20) : Int) p26 q26; replace p26 := eq_true p26; replace q26 := eq_true q26; obtain ⟨hy68_, hz68_⟩ := Kd.R_celln 0 HO284.out ((ji20) : Int) (of_decide_eq_true pA) (of_decide_eq_true pA); have HP68 := Kd.R_putg HO284.out ((ji20) : Int) (-1)) | ((with_reducible refine gate_store (t := 3) (p := 62) rfl ?_); refine store_event (t := 3) (p := 62) (v := ?vo_w69) (w1 := (w67.setCell ⟨go26, ((ji20) : Int).toNat, none⟩ (.int .i64 (-1)))) ?hg ?ho ?hn ?hr ?_; (case ho => rfl); (case hg => rfl); (case hn => rfl); (case hr => first | (go_simp; done) | (go_simp; rfl)); intro w69 hw; have hg : w67.grownBy w69 (some go26) := (by rw [hw]; exact HP68.2); have hp_ : Kd.R (Kd.int .i64) 3 w69 w.heap.size (fun k_ => some k_ ≠ (.slice Ao12 t265.length co12 : Value).ownBlock ∧ some k_ ≠ (.slice (some ⟨go23, 0, none⟩) y275.length co23 : Value).ownBlock) (.slice (some ⟨go26, 0, none⟩) y282.length co26) y285 := (by rw [hw, Ny285.out]; exact HP68.1); clear HP68; have n0_ := Aside0.mk (Kd.R_over' (v := (.slice (some ⟨go26, 0, none⟩) y282.length co26)) (pR HO_5) (Kd.R_typed HO284.out) (by decide) hg); have n1_ := Aside0.mk (Kd.R_after (v := (.slice (some ⟨go26, 0, none⟩) y282.length co26)) (v1 := (.slice (some ⟨go26, 0, none⟩) y282.length co26)) (ok := (fun k_ => some k_ ≠ (.slice (some ⟨go23, 0, none⟩) y275.length co23 : Value).ownBlock)) (pR HO_6) hg (.inl rfl)); have n2_ := Aside0.mk (Kd.R_after (v := (.slice (some ⟨go26, 0, none⟩) y282.length co26)) (v1 := (.slice (some ⟨go26, 0, none⟩) y282.length co26)) (ok := (fun k_ => some k_ ≠ (.slice Ao12 t265.length co12 : Value).ownBlock)) (pR HO277) hg (.inl rfl)); have n3_ := Aside0.mk (hp_); have n4_ := Aside0.mk ((by rw [hw]; exact below_set (HB.out) GB26.out : Below w.heap.size w w69)); clear HO_5; clear HO_6; clear HO277; clear HO284; clear HB; have HO_5 := n0_; have HO_6 := n1_; have HO277 := n2_; have HO284 := n3_; have HB := n4_; clear n0_ n1_ n2_ n3_ n4_; clear hg hw hp_) | ((with_reducible refine gate_callee (f := 19) rfl ?_); refine goesL_ (some 65) rfl rfl Try.func19 pL rfl #[.slice Ao11 t264.length co11, .slice (some ⟨go23, 0, none⟩) y278.length co23] rfl (by (try simp only [List.map_toArray, List.map_cons, List.map_nil]); first | done | (rw [show y278.length = y275.length from (Kd.R_reads' HO277.out).1.symm] <;> rfl) | rfl | (simp only [List.length_drop, List.length_take]; rfl)) ?_; (with_reducible refine (impl_NeedsValid.calls kj8 _ _ t264 _ _ y278 false _ ?side1 ?side2 ?side3 ?side4 A27.out).mono ?_); (case side1 => exact pS ((Kd.R_reads' HO_5.out).2.2)); (case side2 => exact (Kd.R_reads' HO_5.out).2.1); (case side3 => exact pS ((Kd.R_reads' HO277.out).2.2)); (case side4 => rw [show y278.length = y275.length from (Kd.R_reads' HO277.out).1.symm]; exact (Kd.R_reads' HO277.out).2.1); rintro e w70 ⟨rfl, hb⟩; refine ⟨_, rfl, ?_⟩; have n0_ := Aside0.mk (Kd.R_below (pR HO_5) hb); have n1_ := Aside0.mk (Kd.R_below (pR HO_6) hb); have n2_ := Aside0.mk (Kd.R_below (pR HO277) hb); have n3_ := Aside0.mk (Kd.R_below (pR HO284) hb); have n4_ := Aside0.mk (below_step pB hb); clear HO_5; clear HO_6; clear HO277; clear HO284; clear HB; have HO_5 := n0_; have HO_6 := n1_; have HO277 := n2_; have HO284 := n3_; have HB := n4_; clear n0_ n1_ n2_ n3_ n4_; (try clear hb); (try clear hb2); (try clear hk); (try clear hi)))
              go_ret
              exact ⟨by first | rfl | (simp [errW_none, errW_some] <;> rfl) | (simp only [← hji20]; first | rfl | (simp [errW_none, errW_some] <;> rfl)) | (simp [*, errW_none, errW_some] <;> rfl), pB⟩
            ·rw [if_neg c25] at H
             exact absurd H (by simp)
           ·rw [if_neg c24] at H
            exact absurd H (by simp)
          ·rw [if_neg c22] at H
           exact absurd H (by simp)
         ·rw [if_neg c21] at H
          exact absurd H (by simp)
        ·rw [if_neg c19] at H
         exact absurd H (by simp)

/-- THE ONE PURE STATEMENT of laws_FnNeedsPart: yours. -/
def laws_FnNeedsPart.Pure : Prop := ∀ (l0 : List Int) (l1 : List Int), l0.length ≤ maxLen → l0.length * 1 ≤ 140737488351232 → (∀ x ∈ l0, (Lit.int .u8 x).wf = true) → l1.length ≤ maxLen → l1.length * 1 ≤ 140737488351232 → (∀ x ∈ l1, (Lit.int .u8 x).wf = true) → ∃ k, laws_FnNeedsPart.f k l0 l1 = some true
theorem laws_FnNeedsPart.walk (P : laws_FnNeedsPart.Pure) (a0 : Option Addr) (len0 cap0 : Nat) (z0 : List Int) (a1 : Option Addr) (len1 cap1 : Nat) (z1 : List Int) (w : World) (w0 : (a0 = none ∧ len0 = 0 ∧ cap0 = 0 ∧ z0 = []) ∨ ∃ x, a0 = some x ∧ len0 ≤ cap0 ∧ cap0 ≤ maxLen ∧ z0.length = cap0 ∧ (∀ i, i < z0.length → w.cell? (x.add i) = some (.int .u8 (z0.getD i 0))) ∧ ∀ n ∈ z0, (Lit.int .u8 n).wf = true) (y0 : len0 * 1 ≤ 140737488351232) (w1 : (a1 = none ∧ len1 = 0 ∧ cap1 = 0 ∧ z1 = []) ∨ ∃ x, a1 = some x ∧ len1 ≤ cap1 ∧ cap1 ≤ maxLen ∧ z1.length = cap1 ∧ (∀ i, i < z1.length → w.cell? (x.add i) = some (.int .u8 (z1.getD i 0))) ∧ ∀ n ∈ z1, (Lit.int .u8 n).wf = true) (y1 : len1 * 1 ≤ 140737488351232) :
  Calls Try.prog 4 #[.slice a0 len0 cap0, .slice a1 len1 cap1] w fun e w' => e = .returned (.bool true) ∧ Below w.heap.size w w' := by
 obtain ⟨l0, rfl, hr0, hm0, hw0, hc0⟩ := ReadsInt.ofRowC w0
 obtain ⟨l1, rfl, hr1, hm1, hw1, hc1⟩ := ReadsInt.ofRowC w1
 obtain ⟨k, h⟩ := P l0 l1 hm0 y0 hw0 hm1 y1 hw1
 refine (laws_FnNeedsPart.calls k _ _ l0 _ _ l1 true w (Kd.C_of_reads (d := (0 : Int)) (h1 := fun _ => rfl) hr0) hc0 (Kd.C_of_reads (d := (0 : Int)) (h1 := fun _ => rfl) hr1) hc1 h).mono ?_
 rintro e w' ⟨rfl, hd⟩
 exact ⟨rfl, hd⟩

end Go.Proofs.Ytglddjbcaknnaaa.Q
