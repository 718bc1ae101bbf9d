-- Written by the kit's print.py for all laws of the seat at once (one namespace), by a program of this session.
import Derived.Test.YtglddjbcaknnaaaQx0
import Derived.Test.YtglddjbcaknnaaaQx9
import Derived.Test.YtglddjbcaknnaaaQx12
import Derived.Test.YtglddjbcaknnaaaQx14
namespace Go.Proofs.Ytglddjbcaknnaaa.Q
open Go.RowKit Go.Proofs.YtglddjbcaknnaaaW.PrintWords Go.Proofs.YtglddjbcaknnaaaW.PrintLast Go.Proofs.YtglddjbcaknnaaaW.PrintMore
attribute [local go_sem] max2_int min2_int max_two min_two max_three min_three max_four min_four   -- for this text's walks alone
set_option linter.unusedVariables false
set_option linter.unusedSimpArgs false

/-! ### spec_DrawSwapsValid: function 23 -/
def spec_DrawSwapsValid.f (k : Nat) (l0 : List Int) : Option ((List (S41)) × (List (S62))) := (spec_l6Open.f l0).bind fun bt315 => ((spec_l91Foods.f k bt315.1 bt315.2).bind fun bt318 => ((spec_l91Rules.f k bt315.1 bt318.2 bt318.1).bind fun bt322 => (some (bt322.1, bt318.1))))
theorem spec_DrawSwapsValid.mono : ∀ a0 k, LeO (spec_DrawSwapsValid.f k a0) (spec_DrawSwapsValid.f (k + 1) a0) := by
 intro a0 k
 unfold spec_DrawSwapsValid.f
 repeat' first
   | (with_reducible exact spec_l91Foods.mono _ _ _)
   | (with_reducible exact spec_l91Rules.mono _ _ _ _)
   | (with_reducible exact LeO.refl _)
   | (with_reducible exact LeO.none _)
   | (with_reducible refine LeO.ite ?_ ?_)
   | (with_reducible refine LeO.bind ?_ (fun _ => ?_))
   | exact spec_l91Foods.mono _ _ _
   | exact spec_l91Rules.mono _ _ _ _
   | exact LeO.none _
   | refine LeO.ite ?_ ?_
   | refine LeO.bind ?_ (fun _ => ?_)
set_option maxHeartbeats 8000000 in
set_option maxRecDepth 100000 in
theorem spec_DrawSwapsValid.calls (k : Nat) (A0 : Option Addr) (c0 : Nat) (l0 : List Int) (r1 : List (S41)) (r2 : List (S62)) (w : World) (hr0 : Kd.C (Kd.int .u8) w A0 l0.length l0) (hc0 : l0.length ≤ c0) (h : spec_DrawSwapsValid.f k l0 = some (r1, r2)) :
  Calls Try.prog 23 #[.slice A0 l0.length c0] w fun e w' => ∃ v0_ v1_ : Value, e = .returned (.tuple #[v0_, v1_]) ∧ Kd.R k41 41 w' w.heap.size (fun _ => True) v0_ r1 ∧ Kd.R k62 62 w' w.heap.size (fun _ => True) v1_ r2 ∧ Below w.heap.size w w' := by
 have HR0 := Aside0.mk hr0
 have HC0 := Aside0.mk hc0
 clear hr0 hc0
 have HB := Aside0.mk (Below.refl w.heap.size w)
 have H : ((spec_l6Open.f l0).bind fun bt315 => ((spec_l91Foods.f k bt315.1 bt315.2).bind fun bt318 => ((spec_l91Rules.f k bt315.1 bt318.2 bt318.1).bind fun bt322 => (some (bt322.1, bt318.1))))) = some (r1, r2) := h
 clear h
 replace H := Option.bind_eq_some_iff.mp H
 obtain ⟨⟨t315, t316⟩, A20, H⟩ := H
 replace H : ((spec_l91Foods.f k t315 t316).bind fun bt318 => ((spec_l91Rules.f k t315 bt318.2 bt318.1).bind fun bt322 => (some (bt322.1, bt318.1)))) = some (r1, r2) := H
 have A2 := Aside0.mk A20
 clear A20
 replace H := Option.bind_eq_some_iff.mp H
 obtain ⟨⟨t318, t321⟩, A30, H⟩ := H
 replace H : ((spec_l91Rules.f k t315 t321 t318).bind fun bt322 => (some (bt322.1, t318))) = some (r1, r2) := H
 have A3 := Aside0.mk A30
 clear A30
 replace H := Option.bind_eq_some_iff.mp H
 obtain ⟨⟨t322, t325⟩, A40, H⟩ := H
 replace H : (some (t322, t318)) = some (r1, r2) := H
 have A4 := Aside0.mk A40
 clear A40
 simp only [Option.some.injEq, Prod.mk.injEq] at H
 obtain ⟨rfl, rfl⟩ := H
 go_enter Try.func23, Try.ntmps23
 go_wp2_with (first | ((with_reducible refine gate_callee (f := 48) rfl ?_); refine goesL_ (some 7) rfl rfl Try.func48 pL rfl #[.slice A0 l0.length c0] rfl pM ?_; (with_reducible refine (spec_l6Open.calls _ _ l0 t315 t316 w _ ?side1 ?side2 ?side3 A2.out).mono ?_); (case side1 => exact pB); (case side2 => exact HR0.out); (case side3 => exact HC0.out); rintro e w5 ⟨g317, rfl, hi, hb, hb2⟩; refine ⟨_, rfl, ?_⟩; have n0_ := Aside0.mk (hb); have n1_ := Aside0.mk (hi); clear HB; have HB := n0_; have HI317 := n1_; clear n0_ n1_; (try clear hb); (try clear hb2); (try clear hk); (try clear hi)) | ((with_reducible refine gate_callee (f := 49) rfl ?_); refine goesL_ (some 9) rfl rfl Try.func49 pL rfl #[.pointer (some ⟨g317, 0, none⟩)] rfl pM ?_; (with_reducible refine (spec_l91Foods.calls k g317 t315 t316 t318 t321 w _ ?side1 ?side2 A3.out).mono ?_); (case side1 => repeat (first | (with_reducible first | exact HI317.out | apply IsS85.alloc | apply IsS85.drewN | apply IsS85.drew | apply IsS85.set_1) | exact HI317.out)); (case side2 => repeat (first | (with_reducible first | exact HB.out | apply below_alloc | apply pw_below_drewN | apply below_drew1 | refine below_set ?_ (IsS85.ge HI317.out)) | exact HB.out)); rintro e w6 ⟨v319, rfl, ho0, hi, hb, hk⟩; refine ⟨_, rfl, ?_⟩; have n0_ := Aside0.mk (Kd.R_lower ho0 (below_size (by repeat (first | (with_reducible first | exact HB.out | apply below_alloc | apply pw_below_drewN | apply below_drew1 | refine below_set ?_ (IsS85.ge HI317.out)) | exact HB.out)))); have n1_ := Aside0.mk (hb); have n2_ := Aside0.mk (hi); clear HB; clear HI317; have HO320 := n0_; have HB := n1_; have HI317 := n2_; clear n0_ n1_ n2_; (try clear hb); (try clear hb2); (try clear hk); (try clear hi); (try clear ho0); obtain ⟨Ao7, co7, eo7⟩ := Kd.R_slice HO320.out; subst eo7) | ((with_reducible refine gate_callee (f := 51) rfl ?_); refine goesL_ (some 12) rfl rfl Try.func51 pL rfl #[.pointer (some ⟨g317, 0, none⟩), .slice Ao7 t318.length co7] rfl pM ?_; (with_reducible refine (spec_l91Rules.calls k g317 t315 t321 _ _ t318 t322 t325 w _ ?side1 ?side2 ?side3 ?side4 A4.out).mono ?_); (case side1 => repeat (first | (with_reducible first | exact HI317.out | apply IsS85.alloc | apply IsS85.drewN | apply IsS85.drew | apply IsS85.set_1) | exact HI317.out)); (case side2 => repeat (first | (with_reducible first | exact HB.out | apply below_alloc | apply pw_below_drewN | apply below_drew1 | refine below_set ?_ (IsS85.ge HI317.out)) | exact HB.out)); (case side3 => exact Kd.C_foot_own (IsS85.apart (show IsS85 w _ g317 t315 t321 from by repeat (first | (with_reducible first | exact HI317.out | apply IsS85.alloc | apply IsS85.drewN | apply IsS85.drew | apply IsS85.set_1) | exact HI317.out)) (pR HO320) (by decide)) (fun _ h_ => h_.2)); (case side4 => exact (Kd.R_reads' HO320.out).2.1); rintro e w8 ⟨v323, rfl, ho0, hi, hb, hk⟩; refine ⟨_, rfl, ?_⟩; have n0_ := Aside0.mk (Kd.R_mono (Kd.R_keep (IsS85.apart (show IsS85 w _ g317 t315 t321 from by repeat (first | (with_reducible first | exact HI317.out | apply IsS85.alloc | apply IsS85.drewN | apply IsS85.drew | apply IsS85.set_1) | exact HI317.out)) (pR HO320) (by decide)) hk (fun _ h => h.2)) (fun _ h => h.1)); have n1_ := Aside0.mk (Kd.R_lower ho0 (below_size (by repeat (first | (with_reducible first | exact HB.out | apply below_alloc | apply pw_below_drewN | apply below_drew1 | refine below_set ?_ (IsS85.ge HI317.out)) | exact HB.out)))); have n2_ := Aside0.mk (hb); have n3_ := Aside0.mk (hi); clear HO320; clear HB; clear HI317; have HO320 := n0_; have HO324 := n1_; have HB := n2_; have HI317 := n3_; clear n0_ n1_ n2_ n3_; (try clear hb); (try clear hb2); (try clear hk); (try clear hi); (try clear ho0)))
 go_ret2
 exact ⟨_, _, pE, pR HO324, pR HO320, by repeat (first | (with_reducible first | exact HB.out | apply below_alloc | apply pw_below_drewN | apply below_drew1 | refine below_set ?_ (IsS85.ge HI317.out)) | exact HB.out)⟩

/-! ### laws_FnSwapsPart: function 5 -/
mutual
def laws_FnSwapsPart.j0 : Nat → List Int → List Int → Bool → Option (Bool)
 | 0, _, _, _ => none
 | k + 1, x0, x1, x19 => if x19 = true then (some true) else ((spec_DrawSwapsValid.f k x0).bind fun bt334 => ((impl_SwapsValid.f k bt334.1 bt334.2).bind fun t340 => ((spec_SwapsValid.f k bt334.1 bt334.2).bind fun t341 => (if (t340 != t341) = true then (laws_FnSwapsPart.j1 k x1 bt334.1 bt334.2 t340 t341 true) else (if t340 = true then (laws_FnSwapsPart.j1 k x1 bt334.1 bt334.2 t340 t341 ((bt334.1.length : Int) == 0)) else (laws_FnSwapsPart.j1 k x1 bt334.1 bt334.2 t340 t341 true))))))
def laws_FnSwapsPart.j1 : Nat → List Int → List (S41) → List (S62) → Bool → Bool → Bool → Option (Bool)
 | 0, _, _, _, _, _, _ => none
 | k + 1, x1, x5, x6, x7, x8, x42 => if x42 = true then (some (x7 == x8)) else (if (x5.length : Int) = 0 then (none) else ((some (([] : List (S41)) : List (S41))).bind fun y342 => (if 0 ≤ ((x1.length : Int) % (x5.length : Int)) then (if ((x1.length : Int) % (x5.length : Int)) ≤ (x5.length : Int) then ((some (x5.take (((x1.length : Int) % (x5.length : Int)) : Int).toNat : List (S41))).bind fun y345 => (if y342.length + y345.length < 4398046511104 then ((some (y342 ++ y345 : List (S41))).bind fun y349 => (if 0 ≤ (wrap64 (((x1.length : Int) % (x5.length : Int)) + 1)) then (if (wrap64 (((x1.length : Int) % (x5.length : Int)) + 1)) ≤ (x5.length : Int) then ((some (x5.drop ((wrap64 (((x1.length : Int) % (x5.length : Int)) + 1)) : Int).toNat : List (S41))).bind fun y352 => (if y349.length + y352.length < 4398046511104 then ((some (([] : List (S41)) : List (S41))).bind fun y359 => (if y359.length + x5.length < 4398046511104 then ((some (y359 ++ x5 : List (S41))).bind fun y362 => (if ((x1.length : Int) % (x5.length : Int)) < (y362.length : Int) then ((impl_SwapsValid.f k (y349 ++ y352) x6).bind fun t367 => (if t367 = true then ((impl_SwapsValid.f k (y362.set (((x1.length : Int) % (x5.length : Int)) : Int).toNat (⟨(rd_T41 y362 ((x1.length : Int) % (x5.length : Int))).f0, (rd_T41 y362 ((x1.length : Int) % (x5.length : Int))).f0, (rd_T41 y362 ((x1.length : Int) % (x5.length : Int))).f2, (rd_T41 y362 ((x1.length : Int) % (x5.length : Int))).f3⟩ : S41)) x6).bind fun t368 => (some (!t368))) else (some false))) else (none))) else (none))) else (none))) else (none)) else (none))) else (none))) else (none)) else (none))))
end
def laws_FnSwapsPart.f (k : Nat) (l0 : List Int) (l1 : List Int) : Option (Bool) := if (l0.length : Int) > 1048576 then (laws_FnSwapsPart.j0 k l0 l1 true) else (laws_FnSwapsPart.j0 k l0 l1 (decide ((l1.length : Int) > 1048576)))
theorem laws_FnSwapsPart.mono_l : ∀ k, (∀ y0 y1 y2, LeO (laws_FnSwapsPart.j0 k y0 y1 y2) (laws_FnSwapsPart.j0 (k + 1) y0 y1 y2)) ∧ (∀ y0 y1 y2 y3 y4 y5, LeO (laws_FnSwapsPart.j1 k y0 y1 y2 y3 y4 y5) (laws_FnSwapsPart.j1 (k + 1) y0 y1 y2 y3 y4 y5))
 | 0 => ⟨fun _ _ _ r h => by simp [laws_FnSwapsPart.j0] at h, fun _ _ _ _ _ _ r h => by simp [laws_FnSwapsPart.j1] at h⟩
 | k + 1 => by
  obtain ⟨ih0, ih1⟩ := laws_FnSwapsPart.mono_l k
  refine ⟨?_, ?_⟩
  ·intro y0 y1 y2
   unfold laws_FnSwapsPart.j0
   repeat' first
   | (with_reducible exact ih0 _ _ _)
   | (with_reducible exact ih1 _ _ _ _ _ _)
   | (with_reducible exact impl_SwapsValid.mono _ _ _)
   | (with_reducible exact spec_DrawSwapsValid.mono _ _)
   | (with_reducible exact spec_SwapsValid.mono _ _ _)
   | (with_reducible exact LeO.refl _)
   | (with_reducible exact LeO.none _)
   | (with_reducible refine LeO.ite ?_ ?_)
   | (with_reducible refine LeO.bind ?_ (fun _ => ?_))
   | exact ih0 _ _ _
   | exact ih1 _ _ _ _ _ _
   | exact impl_SwapsValid.mono _ _ _
   | exact spec_DrawSwapsValid.mono _ _
   | exact spec_SwapsValid.mono _ _ _
   | exact LeO.none _
   | refine LeO.ite ?_ ?_
   | refine LeO.bind ?_ (fun _ => ?_)
  ·intro y0 y1 y2 y3 y4 y5
   unfold laws_FnSwapsPart.j1
   repeat' first
   | (with_reducible exact ih0 _ _ _)
   | (with_reducible exact ih1 _ _ _ _ _ _)
   | (with_reducible exact impl_SwapsValid.mono _ _ _)
   | (with_reducible exact spec_DrawSwapsValid.mono _ _)
   | (with_reducible exact spec_SwapsValid.mono _ _ _)
   | (with_reducible exact LeO.refl _)
   | (with_reducible exact LeO.none _)
   | (with_reducible refine LeO.ite ?_ ?_)
   | (with_reducible refine LeO.bind ?_ (fun _ => ?_))
   | exact ih0 _ _ _
   | exact ih1 _ _ _ _ _ _
   | exact impl_SwapsValid.mono _ _ _
   | exact spec_DrawSwapsValid.mono _ _
   | exact spec_SwapsValid.mono _ _ _
   | exact LeO.none _
   | refine LeO.ite ?_ ?_
   | refine LeO.bind ?_ (fun _ => ?_)
theorem laws_FnSwapsPart.mono : ∀ a0 a1 k, LeO (laws_FnSwapsPart.f k a0 a1) (laws_FnSwapsPart.f (k + 1) a0 a1) := by
 intro a0 a1 k
 obtain ⟨ih0, ih1⟩ := laws_FnSwapsPart.mono_l k
 unfold laws_FnSwapsPart.f
 repeat' first
   | (with_reducible exact ih0 _ _ _)
   | (with_reducible exact ih1 _ _ _ _ _ _)
   | (with_reducible exact impl_SwapsValid.mono _ _ _)
   | (with_reducible exact spec_DrawSwapsValid.mono _ _)
   | (with_reducible exact spec_SwapsValid.mono _ _ _)
   | (with_reducible exact LeO.refl _)
   | (with_reducible exact LeO.none _)
   | (with_reducible refine LeO.ite ?_ ?_)
   | (with_reducible refine LeO.bind ?_ (fun _ => ?_))
   | exact ih0 _ _ _
   | exact ih1 _ _ _ _ _ _
   | exact impl_SwapsValid.mono _ _ _
   | exact spec_DrawSwapsValid.mono _ _
   | exact spec_SwapsValid.mono _ _ _
   | exact LeO.none _
   | refine LeO.ite ?_ ?_
   | refine LeO.bind ?_ (fun _ => ?_)
def laws_FnSwapsPart.T9 : Bool × List (List Nat × List Nat) := (true, [([], []), ([], []), ([], []), ([1, 2], [1, 2]), ([0, 3], [0, 3]), ([], []), ([], []), ([6], [6]), ([5, 7], [5, 7]), ([4, 8, 4], [4, 8]), ([9, 9, 0, 1, 2, 3, 4, 5, 6, 7, 8, 9], [9])])
def laws_FnSwapsPart.B9 : List Nat := [0, 0, 0, 6, 15, 0, 0, 64, 224, 511, 1023]
theorem laws_FnSwapsPart.tab9 : rtab .any (opsOf Try.f5 9) = laws_FnSwapsPart.T9 := by kernel_rfl
theorem laws_FnSwapsPart.bits9 : waitsOk laws_FnSwapsPart.T9.2 laws_FnSwapsPart.B9 = true := by kernel_rfl
set_option maxHeartbeats 8000000 in
set_option maxRecDepth 100000 in
theorem laws_FnSwapsPart.calls (k : Nat) (A0 : Option Addr) (c0 : Nat) (l0 : List Int) (A1 : Option Addr) (c1 : Nat) (l1 : List Int) (r : Bool) (w : World) (hr0 : Kd.C (Kd.int .u8) w A0 l0.length l0) (hc0 : l0.length ≤ c0) (hr1 : Kd.C (Kd.int .u8) w A1 l1.length l1) (hc1 : l1.length ≤ c1) (h : laws_FnSwapsPart.f k l0 l1 = some r) :
  Calls Try.prog 5 #[.slice A0 l0.length c0, .slice A1 l1.length c1] w fun e w' => e = .returned (.bool r) ∧ Below w.heap.size w w' := by
 have HR0 := Aside0.mk hr0
 have HC0 := Aside0.mk hc0
 clear hr0 hc0
 have HR1 := Aside0.mk hr1
 have HC1 := Aside0.mk hc1
 clear hr1 hc1
 have HB := Aside0.mk (Below.refl w.heap.size w)
 have H : (if (l0.length : Int) > 1048576 then (laws_FnSwapsPart.j0 k l0 l1 true) else (laws_FnSwapsPart.j0 k l0 l1 (decide ((l1.length : Int) > 1048576)))) = some r := h
 clear h
 have HC3 := Aside0.mk H
 clear H
 go_enter Try.func5, Try.ntmps5
 go_upto_region 1 with (fail)
 go_cut [19] (fun v19 wc => ∃ (kq : Nat) (x19_2 : Bool), v19 = .bool x19_2 ∧ Aside0 (laws_FnSwapsPart.j0 kq l0 l1 x19_2 = some r) ∧ Aside0 (kq ≤ k) ∧ Aside0 (Below w.heap.size w wc))
 case first =>
  have H := HC3.out
  clear HC3
  by_cases c4 : (l0.length : Int) > 1048576
  ·rw [if_pos c4] at H
   have c4b0 : decide (1048576 < (l0.length : Int)) = true := decide_eq_true c4
   have c4b1 : decide (1048576 < l0.length) = true := decide_eq_true (by omega)
   clear c4
   (first | rw [c4b0] | (simp only [i64_w, i32_w]; rw [c4b0]) | skip)
   have H' := Aside0.mk H
   clear H
   go_wp2
   go_meet
   case rel => exact ⟨_, (true), pF, H', ⟨by first | omega | exact Nat.le_refl _⟩, ⟨pB⟩⟩
  ·rw [if_neg c4] at H
   have c4b0 : decide (1048576 < (l0.length : Int)) = false := decide_eq_false c4
   have c4b1 : decide (1048576 < l0.length) = false := decide_eq_false (by omega)
   clear c4
   (first | rw [c4b0] | (simp only [i64_w, i32_w]; rw [c4b0]) | skip)
   have H' := Aside0.mk H
   clear H
   go_wp2
   go_meet
   case rel => exact ⟨_, (decide ((l1.length : Int) > 1048576)), pF, H', ⟨by first | omega | exact Nat.le_refl _⟩, ⟨pB⟩⟩
 case rest =>
  clear HC3
  try clear c1
  try clear p2
  try clear c4
  try clear c4b0
  try clear c4b1
  obtain ⟨kq, x19_2, rfl, HA, HJ2, HB⟩ := hcut
  cases kq with
  | zero => exact absurd HA.out (by simp [laws_FnSwapsPart.j0])
  | succ kj2 =>
   have H := HA.out
   clear HA
   simp only [laws_FnSwapsPart.j0] at H
   by_cases c5 : x19_2 = true
   ·subst c5
    have H1 : (some true) = some r := by rw [if_pos rfl] at H; exact H
    clear H
    have H := H1
    clear H1
    obtain rfl := Option.some.inj H
    go_wp2
    go_ret
    exact ⟨pE, pB⟩
   ·replace c5 := Bool.eq_false_iff.mpr c5
    subst c5
    have H1 : ((spec_DrawSwapsValid.f kj2 l0).bind fun bt334 => ((impl_SwapsValid.f kj2 bt334.1 bt334.2).bind fun t340 => ((spec_SwapsValid.f kj2 bt334.1 bt334.2).bind fun t341 => (if (t340 != t341) = true then (laws_FnSwapsPart.j1 kj2 l1 bt334.1 bt334.2 t340 t341 true) else (if t340 = true then (laws_FnSwapsPart.j1 kj2 l1 bt334.1 bt334.2 t340 t341 ((bt334.1.length : Int) == 0)) else (laws_FnSwapsPart.j1 kj2 l1 bt334.1 bt334.2 t340 t341 true)))))) = some r := by rw [if_neg (show ¬ (false = true) by decide)] at H; exact H
    clear H
    have H := H1
    clear H1
    replace H := Option.bind_eq_some_iff.mp H
    obtain ⟨⟨t334, t335⟩, A60, H⟩ := H
    replace H : ((impl_SwapsValid.f kj2 t334 t335).bind fun t340 => ((spec_SwapsValid.f kj2 t334 t335).bind fun t341 => (if (t340 != t341) = true then (laws_FnSwapsPart.j1 kj2 l1 t334 t335 t340 t341 true) else (if t340 = true then (laws_FnSwapsPart.j1 kj2 l1 t334 t335 t340 t341 ((t334.length : Int) == 0)) else (laws_FnSwapsPart.j1 kj2 l1 t334 t335 t340 t341 true))))) = some r := H
    have A6 := Aside0.mk A60
    clear A60
    replace H := Option.bind_eq_some_iff.mp H
    obtain ⟨t340, A70, H⟩ := H
    replace H : ((spec_SwapsValid.f kj2 t334 t335).bind fun t341 => (if (t340 != t341) = true then (laws_FnSwapsPart.j1 kj2 l1 t334 t335 t340 t341 true) else (if t340 = true then (laws_FnSwapsPart.j1 kj2 l1 t334 t335 t340 t341 ((t334.length : Int) == 0)) else (laws_FnSwapsPart.j1 kj2 l1 t334 t335 t340 t341 true)))) = some r := H
    have A7 := Aside0.mk A70
    clear A70
    replace H := Option.bind_eq_some_iff.mp H
    obtain ⟨t341, A80, H⟩ := H
    replace H : (if (t340 != t341) = true then (laws_FnSwapsPart.j1 kj2 l1 t334 t335 t340 t341 true) else (if t340 = true then (laws_FnSwapsPart.j1 kj2 l1 t334 t335 t340 t341 ((t334.length : Int) == 0)) else (laws_FnSwapsPart.j1 kj2 l1 t334 t335 t340 t341 true))) = some r := H
    have A8 := Aside0.mk A80
    clear A80
    have HC9 := Aside0.mk H
    clear H
    go_upto_region 6 with (first | ((with_reducible refine gate_callee (f := 23) rfl ?_); refine goesL_ (some 22) rfl rfl Try.func23 pL rfl #[.slice A0 l0.length c0] rfl pM ?_; (with_reducible refine (spec_DrawSwapsValid.calls kj2 _ _ l0 t334 t335 _ ?side1 ?side2 A6.out).mono ?_); (case side1 => exact pS ((Kd.C_below HR0.out HB.out))); (case side2 => exact HC0.out); rintro e w10 ⟨v336, v338, rfl, ho0, ho1, hb⟩; refine ⟨_, rfl, ?_⟩; have n0_ := Aside0.mk (Kd.R_lower ho0 (below_size pB)); have n1_ := Aside0.mk (Kd.R_lower ho1 (below_size pB)); have n2_ := Aside0.mk (below_step pB hb); clear HB; have HO337 := n0_; have HO339 := n1_; have HB := n2_; clear n0_ n1_ n2_; (try clear hb); (try clear hb2); (try clear hk); (try clear hi); (try clear ho0); (try clear ho1); obtain ⟨Ao11, co11, eo11⟩ := Kd.R_slice HO337.out; subst eo11; obtain ⟨Ao12, co12, eo12⟩ := Kd.R_slice HO339.out; subst eo12) | ((with_reducible refine gate_callee (f := 24) rfl ?_); refine goesL_ (some 27) rfl rfl Try.func24 pL rfl #[.slice Ao11 t334.length co11, .slice Ao12 t335.length co12] rfl pM ?_; (with_reducible refine (impl_SwapsValid.calls kj2 _ _ t334 _ _ t335 t340 _ ?side1 ?side2 ?side3 ?side4 A7.out).mono ?_); (case side1 => exact pS ((Kd.R_reads' HO337.out).2.2)); (case side2 => exact (Kd.R_reads' HO337.out).2.1); (case side3 => exact pS ((Kd.R_reads' HO339.out).2.2)); (case side4 => exact (Kd.R_reads' HO339.out).2.1); rintro e w13 ⟨rfl, hb⟩; refine ⟨_, rfl, ?_⟩; have n0_ := Aside0.mk (Kd.R_below (pR HO337) hb); have n1_ := Aside0.mk (Kd.R_below (pR HO339) hb); have n2_ := Aside0.mk (below_step pB hb); clear HO337; clear HO339; clear HB; have HO337 := n0_; have HO339 := n1_; have HB := n2_; clear n0_ n1_ n2_; (try clear hb); (try clear hb2); (try clear hk); (try clear hi)) | ((with_reducible refine gate_callee (f := 25) rfl ?_); refine goesL_ (some 30) rfl rfl Try.func25 pL rfl #[.slice Ao11 t334.length co11, .slice Ao12 t335.length co12] rfl pM ?_; (with_reducible refine (spec_SwapsValid.calls kj2 _ _ t334 _ _ t335 t341 _ ?side1 ?side2 ?side3 ?side4 A8.out).mono ?_); (case side1 => exact pS ((Kd.R_reads' HO337.out).2.2)); (case side2 => exact (Kd.R_reads' HO337.out).2.1); (case side3 => exact pS ((Kd.R_reads' HO339.out).2.2)); (case side4 => exact (Kd.R_reads' HO339.out).2.1); rintro e w14 ⟨rfl, hb⟩; refine ⟨_, rfl, ?_⟩; have n0_ := Aside0.mk (Kd.R_below (pR HO337) hb); have n1_ := Aside0.mk (Kd.R_below (pR HO339) hb); have n2_ := Aside0.mk (below_step pB hb); clear HO337; clear HO339; clear HB; have HO337 := n0_; have HO339 := n1_; have HB := n2_; clear n0_ n1_ n2_; (try clear hb); (try clear hb2); (try clear hk); (try clear hi)))
    (try simp only [Act.put, List.setIfInBounds_toArray, List.set_cons_zero, List.set_cons_succ])
    go_cut [42] (fun v42 wc => ∃ (kq : Nat) (x42_8 : Bool), v42 = .bool x42_8 ∧ Aside0 (laws_FnSwapsPart.j1 kq l1 t334 t335 t340 t341 x42_8 = some r) ∧ Aside0 (kq ≤ kj2) ∧ Aside0 (Kd.R k41 41 wc w.heap.size (fun _ => True) (.slice Ao11 t334.length co11) t334) ∧ Aside0 (Kd.R k62 62 wc w.heap.size (fun _ => True) (.slice Ao12 t335.length co12) t335) ∧ Aside0 (Below w.heap.size w wc))
    case first =>
     have H := HC9.out
     clear HC9
     by_cases c15 : (t340 != t341) = true
     ·rw [if_pos c15] at H
      have c15b0 : (t340 != t341) = true := c15
      (try (have c15b1 : decide (t340 = t341) = false := by simpa using c15))
      (try (have c15b2 : (t340 == t341) = false := by simpa using c15))
      (try (have c15b3 : ¬ (t340 = t341) := by simpa using c15))
      clear c15
      (first | rw [c15b0] | (simp only [i64_w, i32_w]; rw [c15b0]) | skip)
      have H' := Aside0.mk H
      clear H
      go_wp2
      go_meet
      case rel => exact ⟨_, (true), pF, H', ⟨by have := HJ2.out; first | omega | exact Nat.le_refl _⟩, ⟨pR HO337⟩, ⟨pR HO339⟩, ⟨pB⟩⟩
     ·rw [if_neg c15] at H
      have c15b0 : (t340 != t341) = false := by simpa using c15
      (try (have c15b1 : decide (t340 = t341) = true := by simpa using c15))
      (try (have c15b2 : (t340 == t341) = true := by simpa using c15))
      clear c15
      (first | rw [c15b0] | (simp only [i64_w, i32_w]; rw [c15b0]) | skip)
      by_cases c16 : t340 = true
      ·subst c16
       have H1 : (laws_FnSwapsPart.j1 kj2 l1 t334 t335 true t341 ((t334.length : Int) == 0)) = some r := by rw [if_pos rfl] at H; exact H
       clear H
       have H := H1
       clear H1
       have H' := Aside0.mk H
       clear H
       go_wp2
       go_meet
       case rel => exact ⟨_, (((t334.length : Int) == 0)), pF, H', ⟨by have := HJ2.out; first | omega | exact Nat.le_refl _⟩, ⟨pR HO337⟩, ⟨pR HO339⟩, ⟨pB⟩⟩
      ·replace c16 := Bool.eq_false_iff.mpr c16
       subst c16
       have H1 : (laws_FnSwapsPart.j1 kj2 l1 t334 t335 false t341 true) = some r := by rw [if_neg (show ¬ (false = true) by decide)] at H; exact H
       clear H
       have H := H1
       clear H1
       have H' := Aside0.mk H
       clear H
       go_wp2
       go_meet
       case rel => exact ⟨_, (true), pF, H', ⟨by have := HJ2.out; first | omega | exact Nat.le_refl _⟩, ⟨pR HO337⟩, ⟨pR HO339⟩, ⟨pB⟩⟩
    case rest =>
     clear HC9
     try clear c1
     try clear c2
     try clear p2
     try clear c4
     try clear c4b0
     try clear c4b1
     try clear c5
     try clear c15
     try clear c15b0
     try clear c15b1
     try clear c15b2
     try clear c16
     try clear p2
     obtain ⟨kq, x42_8, rfl, HA, HJ8, HO_5, HO_6, HB⟩ := hcut
     cases kq with
     | zero => exact absurd HA.out (by simp [laws_FnSwapsPart.j1])
     | succ kj8 =>
      have H := HA.out
      clear HA
      simp only [laws_FnSwapsPart.j1] at H
      by_cases c17 : x42_8 = true
      ·subst c17
       have H1 : (some (t340 == t341)) = some r := by rw [if_pos rfl] at H; exact H
       clear H
       have H := H1
       clear H1
       obtain rfl := Option.some.inj H
       go_wp2
       go_ret
       exact ⟨pE, pB⟩
      ·replace c17 := Bool.eq_false_iff.mpr c17
       subst c17
       have H1 : (if (t334.length : Int) = 0 then (none) else ((some (([] : List (S41)) : List (S41))).bind fun y342 => (if 0 ≤ ((l1.length : Int) % (t334.length : Int)) then (if ((l1.length : Int) % (t334.length : Int)) ≤ (t334.length : Int) then ((some (t334.take (((l1.length : Int) % (t334.length : Int)) : Int).toNat : List (S41))).bind fun y345 => (if y342.length + y345.length < 4398046511104 then ((some (y342 ++ y345 : List (S41))).bind fun y349 => (if 0 ≤ (wrap64 (((l1.length : Int) % (t334.length : Int)) + 1)) then (if (wrap64 (((l1.length : Int) % (t334.length : Int)) + 1)) ≤ (t334.length : Int) then ((some (t334.drop ((wrap64 (((l1.length : Int) % (t334.length : Int)) + 1)) : Int).toNat : List (S41))).bind fun y352 => (if y349.length + y352.length < 4398046511104 then ((some (([] : List (S41)) : List (S41))).bind fun y359 => (if y359.length + t334.length < 4398046511104 then ((some (y359 ++ t334 : List (S41))).bind fun y362 => (if ((l1.length : Int) % (t334.length : Int)) < (y362.length : Int) then ((impl_SwapsValid.f kj8 (y349 ++ y352) t335).bind fun t367 => (if t367 = true then ((impl_SwapsValid.f kj8 (y362.set (((l1.length : Int) % (t334.length : Int)) : Int).toNat (⟨(rd_T41 y362 ((l1.length : Int) % (t334.length : Int))).f0, (rd_T41 y362 ((l1.length : Int) % (t334.length : Int))).f0, (rd_T41 y362 ((l1.length : Int) % (t334.length : Int))).f2, (rd_T41 y362 ((l1.length : Int) % (t334.length : Int))).f3⟩ : S41)) t335).bind fun t368 => (some (!t368))) else (some false))) else (none))) else (none))) else (none))) else (none)) else (none))) else (none))) else (none)) else (none)))) = some r := by rw [if_neg (show ¬ (false = true) by decide)] at H; exact H
       clear H
       have H := H1
       clear H1
       by_cases c18 : (t334.length : Int) = 0
       ·rw [if_pos c18] at H
        exact absurd H (by simp)
       ·rw [if_neg c18] at H
        have c18b0 : ((t334.length : Int) == 0) = false := beq_eq_false_iff_ne.mpr c18
        have c18b1 : ((t334.length : Int) != 0) = true := bne_iff_ne.mpr c18
        have c18b2 : ¬ (t334 = []) := fun h_ => c18 (by rw [h_]; rfl)
        obtain ⟨y342, hy342⟩ : ∃ y_ : List (S41), y_ = (([] : List (S41))) := ⟨_, rfl⟩
        replace H : (if 0 ≤ ((l1.length : Int) % (t334.length : Int)) then (if ((l1.length : Int) % (t334.length : Int)) ≤ (t334.length : Int) then ((some (t334.take (((l1.length : Int) % (t334.length : Int)) : Int).toNat : List (S41))).bind fun y345 => (if y342.length + y345.length < 4398046511104 then ((some (y342 ++ y345 : List (S41))).bind fun y349 => (if 0 ≤ (wrap64 (((l1.length : Int) % (t334.length : Int)) + 1)) then (if (wrap64 (((l1.length : Int) % (t334.length : Int)) + 1)) ≤ (t334.length : Int) then ((some (t334.drop ((wrap64 (((l1.length : Int) % (t334.length : Int)) + 1)) : Int).toNat : List (S41))).bind fun y352 => (if y349.length + y352.length < 4398046511104 then ((some (([] : List (S41)) : List (S41))).bind fun y359 => (if y359.length + t334.length < 4398046511104 then ((some (y359 ++ t334 : List (S41))).bind fun y362 => (if ((l1.length : Int) % (t334.length : Int)) < (y362.length : Int) then ((impl_SwapsValid.f kj8 (y349 ++ y352) t335).bind fun t367 => (if t367 = true then ((impl_SwapsValid.f kj8 (y362.set (((l1.length : Int) % (t334.length : Int)) : Int).toNat (⟨(rd_T41 y362 ((l1.length : Int) % (t334.length : Int))).f0, (rd_T41 y362 ((l1.length : Int) % (t334.length : Int))).f0, (rd_T41 y362 ((l1.length : Int) % (t334.length : Int))).f2, (rd_T41 y362 ((l1.length : Int) % (t334.length : Int))).f3⟩ : S41)) t335).bind fun t368 => (some (!t368))) else (some false))) else (none))) else (none))) else (none))) else (none)) else (none))) else (none))) else (none)) else (none)) = some r := by first | (rw [hy342]; with_reducible exact H) | (have H2_ := (Option.bind_some _ _).symm.trans H; rw [hy342]; with_reducible exact H2_) | (have H2_ := (Option.bind_some _ _).symm.trans H; with_reducible exact H2_) | with_reducible exact H | (rw [hy342]; exact H) | exact H
        have Ny342 := Aside0.mk hy342
        clear hy342
        obtain ⟨ji19, hji19⟩ : ∃ j_ : Int, ((l1.length : Int) % (t334.length : Int)) = j_ := ⟨_, rfl⟩
        replace H : (if 0 ≤ (ji19) then (if (ji19) ≤ (t334.length : Int) then ((some (t334.take ((ji19) : Int).toNat : List (S41))).bind fun y345 => (if y342.length + y345.length < 4398046511104 then ((some (y342 ++ y345 : List (S41))).bind fun y349 => (if 0 ≤ (wrap64 ((ji19) + 1)) then (if (wrap64 ((ji19) + 1)) ≤ (t334.length : Int) then ((some (t334.drop ((wrap64 ((ji19) + 1)) : Int).toNat : List (S41))).bind fun y352 => (if y349.length + y352.length < 4398046511104 then ((some (([] : List (S41)) : List (S41))).bind fun y359 => (if y359.length + t334.length < 4398046511104 then ((some (y359 ++ t334 : List (S41))).bind fun y362 => (if (ji19) < (y362.length : Int) then ((impl_SwapsValid.f kj8 (y349 ++ y352) t335).bind fun t367 => (if t367 = true then ((impl_SwapsValid.f kj8 (y362.set ((ji19) : Int).toNat (⟨(rd_T41 y362 (ji19)).f0, (rd_T41 y362 (ji19)).f0, (rd_T41 y362 (ji19)).f2, (rd_T41 y362 (ji19)).f3⟩ : S41)) t335).bind fun t368 => (some (!t368))) else (some false))) else (none))) else (none))) else (none))) else (none)) else (none))) else (none))) else (none)) else (none)) = some r := by first | (rw [hji19] at H; exact H) | (simp only [hji19] at H ⊢; exact H)
        by_cases c20 : 0 ≤ (ji19)
        ·rw [if_pos c20] at H
         have c20b0 := eq_true c20
         have c20b1 : decide (0 ≤ (ji19)) = true := decide_eq_true c20
         clear c20
         by_cases c21 : (ji19) ≤ (t334.length : Int)
         ·rw [if_pos c21] at H
          have c21b0 := eq_true c21
          have c21b1 : decide ((ji19) ≤ (t334.length : Int)) = true := decide_eq_true c21
          clear c21
          obtain ⟨y345, hy345⟩ : ∃ y_ : List (S41), y_ = (t334.take ((ji19) : Int).toNat) := ⟨_, rfl⟩
          replace H : (if y342.length + y345.length < 4398046511104 then ((some (y342 ++ y345 : List (S41))).bind fun y349 => (if 0 ≤ (wrap64 ((ji19) + 1)) then (if (wrap64 ((ji19) + 1)) ≤ (t334.length : Int) then ((some (t334.drop ((wrap64 ((ji19) + 1)) : Int).toNat : List (S41))).bind fun y352 => (if y349.length + y352.length < 4398046511104 then ((some (([] : List (S41)) : List (S41))).bind fun y359 => (if y359.length + t334.length < 4398046511104 then ((some (y359 ++ t334 : List (S41))).bind fun y362 => (if (ji19) < (y362.length : Int) then ((impl_SwapsValid.f kj8 (y349 ++ y352) t335).bind fun t367 => (if t367 = true then ((impl_SwapsValid.f kj8 (y362.set ((ji19) : Int).toNat (⟨(rd_T41 y362 (ji19)).f0, (rd_T41 y362 (ji19)).f0, (rd_T41 y362 (ji19)).f2, (rd_T41 y362 (ji19)).f3⟩ : S41)) t335).bind fun t368 => (some (!t368))) else (some false))) else (none))) else (none))) else (none))) else (none)) else (none))) else (none)) = some r := by first | (rw [hy345]; with_reducible exact H) | (have H2_ := (Option.bind_some _ _).symm.trans H; rw [hy345]; with_reducible exact H2_) | (have H2_ := (Option.bind_some _ _).symm.trans H; with_reducible exact H2_) | with_reducible exact H | (rw [hy345]; exact H) | exact H
          have Ny345 := Aside0.mk hy345
          clear hy345
          by_cases c22 : y342.length + y345.length < 4398046511104
          ·rw [if_pos c22] at H
           have LMc22 := Aside0.mk c22
           clear c22
           obtain ⟨y349, hy349⟩ : ∃ y_ : List (S41), y_ = (y342 ++ y345) := ⟨_, rfl⟩
           replace H : (if 0 ≤ (wrap64 ((ji19) + 1)) then (if (wrap64 ((ji19) + 1)) ≤ (t334.length : Int) then ((some (t334.drop ((wrap64 ((ji19) + 1)) : Int).toNat : List (S41))).bind fun y352 => (if y349.length + y352.length < 4398046511104 then ((some (([] : List (S41)) : List (S41))).bind fun y359 => (if y359.length + t334.length < 4398046511104 then ((some (y359 ++ t334 : List (S41))).bind fun y362 => (if (ji19) < (y362.length : Int) then ((impl_SwapsValid.f kj8 (y349 ++ y352) t335).bind fun t367 => (if t367 = true then ((impl_SwapsValid.f kj8 (y362.set ((ji19) : Int).toNat (⟨(rd_T41 y362 (ji19)).f0, (rd_T41 y362 (ji19)).f0, (rd_T41 y362 (ji19)).f2, (rd_T41 y362 (ji19)).f3⟩ : S41)) t335).bind fun t368 => (some (!t368))) else (some false))) else (none))) else (none))) else (none))) else (none)) else (none)) = some r := by first | (rw [hy349]; with_reducible exact H) | (have H2_ := (Option.bind_some _ _).symm.trans H; rw [hy349]; with_reducible exact H2_) | (have H2_ := (Option.bind_some _ _).symm.trans H; with_reducible exact H2_) | with_reducible exact H | (rw [hy349]; exact H) | exact H
           have Ny349 := Aside0.mk hy349
           clear hy349
           obtain ⟨ji23, hji23⟩ : ∃ j_ : Int, (wrap64 ((ji19) + 1)) = j_ := ⟨_, rfl⟩
           replace H : (if 0 ≤ (ji23) then (if (ji23) ≤ (t334.length : Int) then ((some (t334.drop ((ji23) : Int).toNat : List (S41))).bind fun y352 => (if y349.length + y352.length < 4398046511104 then ((some (([] : List (S41)) : List (S41))).bind fun y359 => (if y359.length + t334.length < 4398046511104 then ((some (y359 ++ t334 : List (S41))).bind fun y362 => (if (ji19) < (y362.length : Int) then ((impl_SwapsValid.f kj8 (y349 ++ y352) t335).bind fun t367 => (if t367 = true then ((impl_SwapsValid.f kj8 (y362.set ((ji19) : Int).toNat (⟨(rd_T41 y362 (ji19)).f0, (rd_T41 y362 (ji19)).f0, (rd_T41 y362 (ji19)).f2, (rd_T41 y362 (ji19)).f3⟩ : S41)) t335).bind fun t368 => (some (!t368))) else (some false))) else (none))) else (none))) else (none))) else (none)) else (none)) = some r := by first | (rw [hji23] at H; exact H) | (simp only [hji23] at H ⊢; exact H)
           have hji23w : (IntKind.i64.wrap ((ji19) + 1)) = ji23 := (i64_w _).trans hji23
           by_cases c24 : 0 ≤ (ji23)
           ·rw [if_pos c24] at H
            have c24b0 := eq_true c24
            have c24b1 : decide (0 ≤ (ji23)) = true := decide_eq_true c24
            clear c24
            by_cases c25 : (ji23) ≤ (t334.length : Int)
            ·rw [if_pos c25] at H
             have c25b0 := eq_true c25
             have c25b1 : decide ((ji23) ≤ (t334.length : Int)) = true := decide_eq_true c25
             clear c25
             obtain ⟨y352, hy352⟩ : ∃ y_ : List (S41), y_ = (t334.drop ((ji23) : Int).toNat) := ⟨_, rfl⟩
             replace H : (if y349.length + y352.length < 4398046511104 then ((some (([] : List (S41)) : List (S41))).bind fun y359 => (if y359.length + t334.length < 4398046511104 then ((some (y359 ++ t334 : List (S41))).bind fun y362 => (if (ji19) < (y362.length : Int) then ((impl_SwapsValid.f kj8 (y349 ++ y352) t335).bind fun t367 => (if t367 = true then ((impl_SwapsValid.f kj8 (y362.set ((ji19) : Int).toNat (⟨(rd_T41 y362 (ji19)).f0, (rd_T41 y362 (ji19)).f0, (rd_T41 y362 (ji19)).f2, (rd_T41 y362 (ji19)).f3⟩ : S41)) t335).bind fun t368 => (some (!t368))) else (some false))) else (none))) else (none))) else (none)) = some r := by first | (rw [hy352]; with_reducible exact H) | (have H2_ := (Option.bind_some _ _).symm.trans H; rw [hy352]; with_reducible exact H2_) | (have H2_ := (Option.bind_some _ _).symm.trans H; with_reducible exact H2_) | with_reducible exact H | (rw [hy352]; exact H) | exact H
             have Ny352 := Aside0.mk hy352
             clear hy352
             by_cases c26 : y349.length + y352.length < 4398046511104
             ·rw [if_pos c26] at H
              have LMc26 := Aside0.mk c26
              clear c26
              obtain ⟨y356, hy356⟩ : ∃ y_ : List (S41), y_ = (y349 ++ y352) := ⟨_, rfl⟩
              replace H : ((some (([] : List (S41)) : List (S41))).bind fun y359 => (if y359.length + t334.length < 4398046511104 then ((some (y359 ++ t334 : List (S41))).bind fun y362 => (if (ji19) < (y362.length : Int) then ((impl_SwapsValid.f kj8 y356 t335).bind fun t367 => (if t367 = true then ((impl_SwapsValid.f kj8 (y362.set ((ji19) : Int).toNat (⟨(rd_T41 y362 (ji19)).f0, (rd_T41 y362 (ji19)).f0, (rd_T41 y362 (ji19)).f2, (rd_T41 y362 (ji19)).f3⟩ : S41)) t335).bind fun t368 => (some (!t368))) else (some false))) else (none))) else (none))) = some r := by first | (rw [hy356]; with_reducible exact H) | (have H2_ := (Option.bind_some _ _).symm.trans H; rw [hy356]; with_reducible exact H2_) | (have H2_ := (Option.bind_some _ _).symm.trans H; with_reducible exact H2_) | with_reducible exact H | (rw [hy356]; exact H) | exact H
              have Ny356 := Aside0.mk hy356
              clear hy356
              obtain ⟨y359, hy359⟩ : ∃ y_ : List (S41), y_ = (([] : List (S41))) := ⟨_, rfl⟩
              replace H : (if y359.length + t334.length < 4398046511104 then ((some (y359 ++ t334 : List (S41))).bind fun y362 => (if (ji19) < (y362.length : Int) then ((impl_SwapsValid.f kj8 y356 t335).bind fun t367 => (if t367 = true then ((impl_SwapsValid.f kj8 (y362.set ((ji19) : Int).toNat (⟨(rd_T41 y362 (ji19)).f0, (rd_T41 y362 (ji19)).f0, (rd_T41 y362 (ji19)).f2, (rd_T41 y362 (ji19)).f3⟩ : S41)) t335).bind fun t368 => (some (!t368))) else (some false))) else (none))) else (none)) = some r := by first | (rw [hy359]; with_reducible exact H) | (have H2_ := (Option.bind_some _ _).symm.trans H; rw [hy359]; with_reducible exact H2_) | (have H2_ := (Option.bind_some _ _).symm.trans H; with_reducible exact H2_) | with_reducible exact H | (rw [hy359]; exact H) | exact H
              have Ny359 := Aside0.mk hy359
              clear hy359
              by_cases c27 : y359.length + t334.length < 4398046511104
              ·rw [if_pos c27] at H
               have LMc27 := Aside0.mk c27
               clear c27
               obtain ⟨y362, hy362⟩ : ∃ y_ : List (S41), y_ = (y359 ++ t334) := ⟨_, rfl⟩
               replace H : (if (ji19) < (y362.length : Int) then ((impl_SwapsValid.f kj8 y356 t335).bind fun t367 => (if t367 = true then ((impl_SwapsValid.f kj8 (y362.set ((ji19) : Int).toNat (⟨(rd_T41 y362 (ji19)).f0, (rd_T41 y362 (ji19)).f0, (rd_T41 y362 (ji19)).f2, (rd_T41 y362 (ji19)).f3⟩ : S41)) t335).bind fun t368 => (some (!t368))) else (some false))) else (none)) = some r := by first | (rw [hy362]; with_reducible exact H) | (have H2_ := (Option.bind_some _ _).symm.trans H; rw [hy362]; with_reducible exact H2_) | (have H2_ := (Option.bind_some _ _).symm.trans H; with_reducible exact H2_) | with_reducible exact H | (rw [hy362]; exact H) | exact H
               have Ny362 := Aside0.mk hy362
               clear hy362
               by_cases c28 : (ji19) < (y362.length : Int)
               ·rw [if_pos c28] at H
                have c28b0 : decide ((ji19) < (y362.length : Int)) = true := decide_eq_true c28
                clear c28
                obtain ⟨y366, hy366⟩ : ∃ y_ : List (S41), y_ = (y362.set ((ji19) : Int).toNat (⟨(rd_T41 y362 (ji19)).f0, (rd_T41 y362 (ji19)).f0, (rd_T41 y362 (ji19)).f2, (rd_T41 y362 (ji19)).f3⟩ : S41)) := ⟨_, rfl⟩
                replace H : ((impl_SwapsValid.f kj8 y356 t335).bind fun t367 => (if t367 = true then ((impl_SwapsValid.f kj8 y366 t335).bind fun t368 => (some (!t368))) else (some false))) = some r := by first | (rw [hy366]; with_reducible exact H) | (have H2_ := (Option.bind_some _ _).symm.trans H; rw [hy366]; with_reducible exact H2_) | (have H2_ := (Option.bind_some _ _).symm.trans H; with_reducible exact H2_) | with_reducible exact H | (rw [hy366]; exact H) | exact H
                have Ny366 := Aside0.mk hy366
                clear hy366
                replace H := Option.bind_eq_some_iff.mp H
                obtain ⟨t367, A300, H⟩ := H
                replace H : (if t367 = true then ((impl_SwapsValid.f kj8 y366 t335).bind fun t368 => (some (!t368))) else (some false)) = some r := H
                have A30 := Aside0.mk A300
                clear A300
                by_cases c31 : t367 = true
                ·subst c31
                 have H1 : ((impl_SwapsValid.f kj8 y366 t335).bind fun t368 => (some (!t368))) = some r := by rw [if_pos rfl] at H; exact H
                 clear H
                 have H := H1
                 clear H1
                 replace H := Option.bind_eq_some_iff.mp H
                 obtain ⟨t368, A320, H⟩ := H
                 replace H : (some (!t368)) = some r := H
                 have A32 := Aside0.mk A320
                 clear A320
                 obtain rfl := Option.some.inj H
                 try go_wp2
                 have n0_ := Aside0.mk (Kd.R_drew HO_5.out)
                 have n1_ := Aside0.mk (Kd.R_drew HO_6.out)
                 have n2_ := Aside0.mk (below_drew1 HB.out)
                 clear HO_5
                 clear HO_6
                 clear HB
                 have HO_5 := n0_
                 have HO_6 := n1_
                 have HB := n2_
                 clear n0_ n1_ n2_
                 have q34 : ((ji19) : Int) ≤ ((t334.length : Int) : Int) := of_decide_eq_true pA
                 obtain ⟨i034, hi034, _, hsz34, _⟩ := info_parts info41
                 have hroom34 : t334.length ≤ co11 := (Kd.R_reads' HO_5.out).2.1
                 have hC34 : Kd.C k41 _ Ao11 t334.length t334 := (Kd.R_reads' HO_5.out).2.2
                 have hcut34 := cut_to (P := Try.prog) 36 41 .i64 Try.underlying36 hi034 Ao11 t334.length co11 (ji19) (of_decide_eq_true pA) q34 hroom34
                 have hr34 := Kd.C_take (m := ((ji19) : Int).toNat) hC34 (by omega)
                 have hy34 : y345.length = ((ji19) : Int).toNat := (by rw [Ny345.out, List.length_take]; omega)
                 rw [← Ny345.out] at hr34
                 rw [← hy34] at hcut34
                 have HR348 := Aside0.mk hr34
                 have HC348 := Aside0.mk (show y345.length ≤ co11 from by omega)
                 clear hr34 hC34 hroom34 hi034 hsz34
                 have KY34 := Aside0.mk hy34
                 clear hy34
                 have KL34 := Aside0.mk (show ((ji19) : Int).toNat ≤ t334.length from by omega)
                 replace q34 := eq_true q34
                 have q35 : ((ji23) : Int) ≤ ((t334.length : Int) : Int) := of_decide_eq_true pA
                 obtain ⟨i035, hi035, _, hsz35, _⟩ := info_parts info41
                 have hroom35 : t334.length ≤ co11 := (Kd.R_reads' HO_5.out).2.1
                 have hC35 : Kd.C k41 _ Ao11 t334.length t334 := (Kd.R_reads' HO_5.out).2.2
                 have q035 : (0 : Int) ≤ ((ji23) : Int) := of_decide_eq_true pA
                 have hcut35 := cut_from (P := Try.prog) 36 41 .i64 Try.underlying36 hi035 4 hsz35 Ao11 t334.length co11 (ji23) q035 q35
                 have hr35 := Kd.C_drop (m := ((ji23) : Int).toNat) (c := co11) hC35 (by omega) hroom35
                 obtain ⟨A35, hA35⟩ : ∃ A1, A1 = (if co11 = ((ji23) : Int).toNat then Ao11 else (Ao11 : Option Addr).map (·.add (((ji23) : Int).toNat * 4))) := ⟨_, rfl⟩
                 obtain ⟨c35, hc35⟩ : ∃ c1, c1 = co11 - ((ji23) : Int).toNat := ⟨_, rfl⟩
                 have hy35 : y352.length = t334.length - ((ji23) : Int).toNat := (by rw [Ny352.out, List.length_drop] <;> omega)
                 rw [show (t334).drop ((ji23) : Int).toNat = y352 from Ny352.out.symm] at hr35
                 replace hr35 : Kd.C k41 _ A35 y352.length y352 := (by rw [hA35]; exact hr35)
                 rw [← hy35, ← hA35, ← hc35] at hcut35
                 have HR355 := Aside0.mk hr35
                 have HC355 := Aside0.mk (show y352.length ≤ c35 from by rw [hy35, hc35]; exact Nat.sub_le_sub_right hroom35 _)
                 clear hr35 hC35 hroom35 hi035 hsz35 hc35
                 have KY35 := Aside0.mk hy35
                 have KA35 := Aside0.mk hA35
                 clear hy35 hA35
                 have KL35 := Aside0.mk (show ((ji23) : Int).toNat ≤ t334.length from by omega)
                 replace q35 := eq_true q35
                 refine start_ (n := 11) (S := fun w' => True) (ds := []) #[false, false, false, false, false, false, false, false, false, false, false] pL rfl rfl trivial (fun hHeld => ?_); refine with_tabW laws_FnSwapsPart.tab9 laws_FnSwapsPart.bits9 (fun HT_ HW_ => ?_)
                 generalize wc.drew = w33 at HO_5 HO_6 HB HR348 HR355 hHeld ⊢
                 refine pure_ (i := 1) (N := some 52) (v := ?_) (a' := ?_) #[false, true, false, false, false, false, false, false, false, false, false] rfl rfl (any_of HT_.out pL) (fun _ _ _ h => h) (Or.inl ⟨by rfl, ?_⟩) ?_ ?_
                 rotate_left
                 ·intro w'
                  go_simp
                  with_reducible rfl
                 rotate_left
                 ·exact pP
                 refine pure_ (i := 2) (N := some 53) (v := ?_) (a' := ?_) #[false, true, true, false, false, false, false, false, false, false, false] rfl rfl (any_of HT_.out pL) (fun _ _ _ h => h) (Or.inl ⟨by rfl, ?_⟩) ?_ ?_
                 rotate_left
                 ·intro w'
                  go_simp
                  with_reducible rfl
                 rotate_left
                 ·exact pP
                 refine pure_ (i := 3) (N := some 54) (v := ?_) (a' := ?_) #[false, true, true, true, false, false, false, false, false, false, false] rfl rfl (any_of HT_.out pL) (fun _ _ _ h => h) (Or.inl ⟨by rfl, ?_⟩) ?_ ?_
                 rotate_left
                 ·intro w'
                  go_simp
                  with_reducible rfl
                 rotate_left
                 ·exact pP
                 refine pure_ (i := 5) (N := some 56) (v := ?_) (a' := ?_) #[false, true, true, true, false, true, false, false, false, false, false] rfl rfl (any_of HT_.out pL) (fun _ _ _ h => h) (Or.inl ⟨by rfl, ?_⟩) ?_ ?_
                 rotate_left
                 ·intro w'
                  go_simp
                  with_reducible rfl
                 rotate_left
                 ·exact pP
                 refine pure_ (i := 6) (N := some 57) (v := ?_) (a' := ?_) #[false, true, true, true, false, true, true, false, false, false, false] rfl rfl (any_of HT_.out pL) (fun _ _ _ h => h) (Or.inl ⟨by rfl, ?_⟩) ?_ ?_
                 rotate_left
                 ·intro w'
                  go_simp
                  with_reducible rfl
                 rotate_left
                 ·exact pP
                 refine pure_ (i := 7) (N := some 58) (v := ?_) (a' := ?_) #[false, true, true, true, false, true, true, true, false, false, false] rfl rfl (any_of HT_.out pL) (fun _ _ _ h => h) (Or.inl ⟨by rfl, ?_⟩) ?_ ?_
                 rotate_left
                 ·intro w'
                  go_simp
                  with_reducible rfl
                 rotate_left
                 ·exact pP
                 refine pure_ (i := 8) (N := some 59) (v := ?_) (a' := ?_) #[false, true, true, true, false, true, true, true, true, false, false] rfl rfl (any_of HT_.out pL) (fun _ _ _ h => h) (Or.inl ⟨by rfl, ?_⟩) ?_ ?_
                 rotate_left
                 ·intro w'
                  go_simp
                  with_reducible rfl
                 rotate_left
                 ·exact pP
                 refine one_ (i := 0) (N := some 51) #[true, true, true, true, false, true, true, true, true, false, false] rfl rfl (one_of HT_.out pL) (by decide) (fun K hK => ?_)
                 refine Kd.R_lit_step k41 _ 41 ?hg (N := 51) ?hd (xs := ([] : List (S41))) (inner := []) (ok := fun _ => True) (okp := fun _ => True) ?hr ?hp (fun _ hk => hk) trivial (Below.refl _ _) (Nat.le_refl _) (by simp) ?_; (case hd => rfl); (case hg => rfl); (case hr => first | (go_simp; done) | (go_simp; rfl)); (case hp => exact (Reps.none _ _))
                 intro v343 w36 ho37 hb hg_ hnew_
                 clear hg_ hnew_
                 (first | rw [← Ny342.out] at ho37 | (simp only [Int.reduceToNat] at ho37; rw [← Ny342.out] at ho37))
                 have n0_ := Aside0.mk (Kd.R_elder' (pR HO_5) (Kd.R_base ho37) hb)
                 have n1_ := Aside0.mk (Kd.R_below (pR HO_6) hb)
                 have n2_ := Aside0.mk (Kd.R_lower (Kd.R_new' ho37 (Kd.R_lt (pR HO_5))) (below_size pB))
                 have n3_ := Aside0.mk (Kd.C_below (by repeat (first | (with_reducible exact HR348.out) | (with_reducible refine Kd.C_alloc ?_ _) | (with_reducible refine Kd.C_drewN ?_ _) | (with_reducible refine Kd.C_drew ?_) | exact HR348.out)) hb)
                 have n4_ := Aside0.mk (Kd.C_below (by repeat (first | (with_reducible exact HR355.out) | (with_reducible refine Kd.C_alloc ?_ _) | (with_reducible refine Kd.C_drewN ?_ _) | (with_reducible refine Kd.C_drew ?_) | exact HR355.out)) hb)
                 have n5_ := Aside0.mk (below_step pB hb)
                 clear HO_5
                 clear HO_6
                 clear HR348
                 clear HR355
                 clear HB
                 have HO_5 := n0_
                 have HO_6 := n1_
                 have HO344 := n2_
                 have HR348 := n3_
                 have HR355 := n4_
                 have HB := n5_
                 clear n0_ n1_ n2_ n3_ n4_ n5_
                 clear hb ho37
                 refine hK.out _ _ trivial (fun hHeld => ?_)
                 clear hK K
                 refine norm_ (a' := ?_) ?_ ?_
                 rotate_left
                 ·show Act.put _ (some 51) _ = _
                  exact pP
                 refine one_ (i := 4) (N := some 55) #[true, true, true, true, true, true, true, true, true, false, false] rfl rfl (one_of HT_.out pL) (by decide) (fun K hK => ?_)
                 refine Kd.R_append_rows_step k41 (w0 := w) w.heap.size (by rfl) (.tmp 51) (.tmp 54) 36 41 (.agg #[(.int .i64 0), (.int .i64 0), (.int .i64 0), (.int .i64 0)]) 32 rfl Try.underlying36 info41 rfl (by decide) (by omega) v343 y342 y345 _ _ _ (fun k_ => some k_ ≠ (.slice Ao11 t334.length co11 : Value).ownBlock) (fun _ => False) rfl rfl ?aO ?aR (fun _ _ h => h) (fun _ h => h.elim) ?aF ?aB ?aS ?aL ?_
                 (case aR => repeat (first | exact (by repeat (first | (with_reducible exact HR348.out) | (with_reducible refine Kd.C_alloc ?_ _) | (with_reducible refine Kd.C_drewN ?_ _) | (with_reducible refine Kd.C_drew ?_) | exact HR348.out)) | (with_reducible refine Kd.C_alloc ?_ _) | (with_reducible refine Kd.C_drewN ?_ _) | (with_reducible refine Kd.C_drew ?_)))
                 (case aB => exact pB)
                 (case aF => exact (fun k_ hk => Kd.fresh' (Kd.R_lt (pR HO_5)) k_ hk))
                 (case aO => exact (by (with_reducible repeat (first | apply Kd.R_alloc | apply Kd.R_drewN | apply Kd.R_drew)); exact Kd.R_mono HO344.out (fun _ hk => hk.2)))
                 (case aS => exact (below_size pB))
                 (case aL => have := LMc22.out; omega)
                 intro v350 w38 ho hb hg hat
                 rw [← Ny349.out] at ho
                 have n0_ := Aside0.mk (Kd.R_after (ok := (fun _ => True)) (pR HO_5) hg hat)
                 have n1_ := Aside0.mk (Kd.R_over' (pR HO_6) (Kd.R_typed (pR HO344)) (by decide) hg)
                 have n2_ := Aside0.mk (hb)
                 have n3_ := Aside0.mk ((show Kd.C k41 w38 Ao11 y345.length y345 from by rw [Ny345.out]; exact Kd.C_take (m := ((ji19) : Int).toNat) ((Kd.R_reads' (Kd.R_after (ok := (fun _ => True)) (pR HO_5) hg hat)).2.2) KL34.out))
                 have n4_ := Aside0.mk ((show Kd.C k41 w38 A35 y352.length y352 from by rw [Ny352.out, KA35.out]; exact Kd.C_drop (m := ((ji23) : Int).toNat) (c := co11) ((Kd.R_reads' (Kd.R_after (ok := (fun _ => True)) (pR HO_5) hg hat)).2.2) KL35.out ((Kd.R_reads' (Kd.R_after (ok := (fun _ => True)) (pR HO_5) hg hat)).2.1)))
                 have n5_ := Aside0.mk (ho)
                 clear HO_5
                 clear HO_6
                 clear HB
                 clear HR348
                 clear HR355
                 clear HO344
                 have HO_5 := n0_
                 have HO_6 := n1_
                 have HB := n2_
                 have HR348 := n3_
                 have HR355 := n4_
                 have HO351 := n5_
                 clear n0_ n1_ n2_ n3_ n4_ n5_
                 clear ho hb hg hat
                 refine hK.out _ _ trivial (fun hHeld => ?_)
                 clear hK K
                 refine norm_ (a' := ?_) ?_ ?_
                 rotate_left
                 ·show Act.put _ (some 55) _ = _
                  exact pP
                 refine one_ (i := 9) (N := some 60) #[true, true, true, true, true, true, true, true, true, true, false] rfl rfl (one_of HT_.out pL) (by decide) (fun K hK => ?_)
                 refine Kd.R_append_rows_step k41 (w0 := w) w.heap.size (by rfl) (.tmp 55) (.tmp 59) 36 41 (.agg #[(.int .i64 0), (.int .i64 0), (.int .i64 0), (.int .i64 0)]) 32 rfl Try.underlying36 info41 rfl (by decide) (by omega) v350 y349 y352 _ _ _ (fun k_ => some k_ ≠ (.slice Ao11 t334.length co11 : Value).ownBlock) (fun _ => False) rfl rfl ?aO ?aR (fun _ _ h => h) (fun _ h => h.elim) ?aF ?aB ?aS ?aL ?_
                 (case aR => repeat (first | exact (by repeat (first | (with_reducible exact HR355.out) | (with_reducible refine Kd.C_alloc ?_ _) | (with_reducible refine Kd.C_drewN ?_ _) | (with_reducible refine Kd.C_drew ?_) | exact HR355.out)) | (with_reducible refine Kd.C_alloc ?_ _) | (with_reducible refine Kd.C_drewN ?_ _) | (with_reducible refine Kd.C_drew ?_)))
                 (case aB => exact pB)
                 (case aF => exact (fun k_ hk => Kd.fresh' (Kd.R_lt (pR HO_5)) k_ hk))
                 (case aO => exact (pR HO351))
                 (case aS => exact (below_size pB))
                 (case aL => have := LMc26.out; omega)
                 intro v357 w39 ho hb hg hat
                 rw [← Ny356.out] at ho
                 have n0_ := Aside0.mk (Kd.R_after (ok := (fun _ => True)) (pR HO_5) hg hat)
                 have n1_ := Aside0.mk (Kd.R_over' (pR HO_6) (Kd.R_typed (pR HO351)) (by decide) hg)
                 have n2_ := Aside0.mk (hb)
                 have n3_ := Aside0.mk ((show Kd.C k41 w39 Ao11 y345.length y345 from by rw [Ny345.out]; exact Kd.C_take (m := ((ji19) : Int).toNat) ((Kd.R_reads' (Kd.R_after (ok := (fun _ => True)) (pR HO_5) hg hat)).2.2) KL34.out))
                 have n4_ := Aside0.mk ((show Kd.C k41 w39 A35 y352.length y352 from by rw [Ny352.out, KA35.out]; exact Kd.C_drop (m := ((ji23) : Int).toNat) (c := co11) ((Kd.R_reads' (Kd.R_after (ok := (fun _ => True)) (pR HO_5) hg hat)).2.2) KL35.out ((Kd.R_reads' (Kd.R_after (ok := (fun _ => True)) (pR HO_5) hg hat)).2.1)))
                 have n5_ := Aside0.mk (ho)
                 clear HO_5
                 clear HO_6
                 clear HB
                 clear HR348
                 clear HR355
                 clear HO351
                 have HO_5 := n0_
                 have HO_6 := n1_
                 have HB := n2_
                 have HR348 := n3_
                 have HR355 := n4_
                 have HO358 := n5_
                 clear n0_ n1_ n2_ n3_ n4_ n5_
                 clear ho hb hg hat
                 refine hK.out _ _ trivial (fun hHeld => ?_)
                 clear hK K
                 refine norm_ (a' := ?_) ?_ ?_
                 rotate_left
                 ·show Act.put _ (some 60) _ = _
                  exact pP
                 refine pure_ (i := 10) (N := some 10) (v := ?_) (a' := ?_) #[true, true, true, true, true, true, true, true, true, true, true] rfl rfl (any_of HT_.out pL) (fun _ _ _ h => h) (Or.inl ⟨by rfl, ?_⟩) ?_ ?_
                 rotate_left
                 ·intro w'
                  go_simp
                  with_reducible rfl
                 rotate_left
                 ·exact pP
                 refine done_ (done_of HT_.out pL) ?_
                 try go_wp2_with (first | ((with_reducible refine gate_dst (N := 61) rfl ?_); (try (refine gate_guard (by rfl) ?_; dsimp only)); refine Kd.R_lit k41 _ 41 ?hg (N := 61) ?hd (xs := ([] : List (S41))) (inner := []) (ok := fun _ => True) (okp := fun _ => True) ?hr ?hp (fun _ hk => hk) trivial (Below.refl _ _) (Nat.le_refl _) (by simp) ?_; (case hd => rfl); (case hg => rfl); (case hr => first | (go_simp; done) | (go_simp; rfl)); (case hp => exact (Reps.none _ _)); intro v360 w40 ho41 hb hg_ hnew_; clear hg_ hnew_; (first | rw [← Ny359.out] at ho41 | (simp only [Int.reduceToNat] at ho41; rw [← Ny359.out] at ho41)); have n0_ := Aside0.mk (Kd.R_elder' (pR HO_5) (Kd.R_base ho41) hb); have n1_ := Aside0.mk (Kd.R_below (pR HO_6) hb); have n2_ := Aside0.mk (Kd.R_elder' (pR HO358) (Kd.R_base ho41) hb); have n3_ := Aside0.mk (Kd.R_lower (Kd.R_new' (Kd.R_new' ho41 (Kd.R_lt (pR HO_5))) (Kd.R_lt (pR HO358))) (below_size pB)); have n4_ := Aside0.mk (Kd.C_below (by repeat (first | (with_reducible exact HR348.out) | (with_reducible refine Kd.C_alloc ?_ _) | (with_reducible refine Kd.C_drewN ?_ _) | (with_reducible refine Kd.C_drew ?_) | exact HR348.out)) hb); have n5_ := Aside0.mk (Kd.C_below (by repeat (first | (with_reducible exact HR355.out) | (with_reducible refine Kd.C_alloc ?_ _) | (with_reducible refine Kd.C_drewN ?_ _) | (with_reducible refine Kd.C_drew ?_) | exact HR355.out)) hb); have n6_ := Aside0.mk (below_step pB hb); clear HO_5; clear HO_6; clear HO358; clear HR348; clear HR355; clear HB; have HO_5 := n0_; have HO_6 := n1_; have HO358 := n2_; have HO361 := n3_; have HR348 := n4_; have HR355 := n5_; have HB := n6_; clear n0_ n1_ n2_ n3_ n4_ n5_ n6_; clear hb ho41) | ((with_reducible refine gate_builtin (b := .append) (xs := #[.tmp 61, .tmp 62]) rfl ?_); (try (refine gate_guard (by rfl) ?_; dsimp only)); at_builtin; refine Kd.R_append_rows k41 (w0 := w) w.heap.size rfl (.tmp 61) (.tmp 62) 36 41 (.agg #[(.int .i64 0), (.int .i64 0), (.int .i64 0), (.int .i64 0)]) 32 rfl Try.underlying36 info41 rfl (by decide) (by omega) v360 y359 t334 _ _ _ (fun k_ => some k_ ≠ (.slice Ao11 t334.length co11 : Value).ownBlock ∧ some k_ ≠ (v357 : Value).ownBlock) (fun _ => False) rfl rfl ?aO ?aR (fun _ _ h => h) (fun _ h => h.elim) ?aF ?aB ?aS ?aL ?_; (case aR => exact pS ((Kd.R_reads' HO_5.out).2.2)); (case aB => exact pB); (case aF => exact (fun k_ hk => ⟨Kd.fresh' (Kd.R_lt (pR HO_5)) k_ hk, Kd.fresh' (Kd.R_lt (pR HO358)) k_ hk⟩)); (case aO => exact (by (with_reducible repeat (first | apply Kd.R_alloc | apply Kd.R_drewN | apply Kd.R_drew)); exact Kd.R_mono HO361.out (fun _ hk => ⟨hk.1.2, hk.2⟩))); (case aS => exact (below_size pB)); (case aL => have := LMc27.out; omega); intro v363 w42 ho hb hg hat; rw [← Ny362.out] at ho; have n0_ := Aside0.mk (Kd.R_after (ok := (fun k_ => some k_ ≠ (v357 : Value).ownBlock)) (by (with_reducible repeat (first | apply Kd.R_alloc | apply Kd.R_drewN | apply Kd.R_drew)); exact Kd.R_mono HO_5.out (fun _ hk => ⟨hk.1.2, hk.2⟩)) hg hat); have n1_ := Aside0.mk (Kd.R_over' (pR HO_6) (Kd.R_typed (pR HO361)) (by decide) hg); have n2_ := Aside0.mk (Kd.R_after (ok := (fun k_ => some k_ ≠ (.slice Ao11 t334.length co11 : Value).ownBlock)) (pR HO358) hg hat); have n3_ := Aside0.mk (hb); have n4_ := Aside0.mk ((show Kd.C k41 w42 Ao11 y345.length y345 from by rw [Ny345.out]; exact Kd.C_take (m := ((ji19) : Int).toNat) ((Kd.R_reads' (Kd.R_after (ok := (fun k_ => some k_ ≠ (v357 : Value).ownBlock)) (by (with_reducible repeat (first | apply Kd.R_alloc | apply Kd.R_drewN | apply Kd.R_drew)); exact Kd.R_mono HO_5.out (fun _ hk => ⟨hk.1.2, hk.2⟩)) hg hat)).2.2) KL34.out)); have n5_ := Aside0.mk ((show Kd.C k41 w42 A35 y352.length y352 from by rw [Ny352.out, KA35.out]; exact Kd.C_drop (m := ((ji23) : Int).toNat) (c := co11) ((Kd.R_reads' (Kd.R_after (ok := (fun k_ => some k_ ≠ (v357 : Value).ownBlock)) (by (with_reducible repeat (first | apply Kd.R_alloc | apply Kd.R_drewN | apply Kd.R_drew)); exact Kd.R_mono HO_5.out (fun _ hk => ⟨hk.1.2, hk.2⟩)) hg hat)).2.2) KL35.out ((Kd.R_reads' (Kd.R_after (ok := (fun k_ => some k_ ≠ (v357 : Value).ownBlock)) (by (with_reducible repeat (first | apply Kd.R_alloc | apply Kd.R_drewN | apply Kd.R_drew)); exact Kd.R_mono HO_5.out (fun _ hk => ⟨hk.1.2, hk.2⟩)) hg hat)).2.1))); have n6_ := Aside0.mk (ho); clear HO_5; clear HO_6; clear HO358; clear HB; clear HR348; clear HR355; clear HO361; have HO_5 := n0_; have HO_6 := n1_; have HO358 := n2_; have HB := n3_; have HR348 := n4_; have HR355 := n5_; have HO364 := n6_; clear n0_ n1_ n2_ n3_ n4_ n5_ n6_; clear ho hb hg hat; obtain ⟨Ao43, co43, eo43⟩ := Kd.R_slice HO364.out; subst eo43; have p365 : 0 ≤ ((ji19) : Int) := of_decide_eq_true pA; have q365 : (ji19) < (y362.length : Int) := of_decide_eq_true pA; obtain ⟨ad365, e365, hx365_0, hx365_1, hx365_2, hx365_3⟩ := at_T41 (Kd.R_reads' HO364.out).2.2 (ji19) p365 q365; cases e365; replace p365 := eq_true p365; replace q365 := eq_true q365; have p29 : 0 ≤ ((ji19) : Int) := of_decide_eq_true pA; have q29 : ((ji19) : Int) < ((y362.length : Int) : Int) := of_decide_eq_true pA; obtain ⟨go29, co29, eo29, gb29, gl29, cl29, HG29⟩ := Kd.R_form HO364.out (by omega); (first | cases eo29 | (injection eo29 with ea_ en_ ec_; (first | subst ea_ | (injection ea_ with ea_; subst ea_)); subst ec_; clear en_)); have GB29 := Aside0.mk gb29; have GG29 := Aside0.mk HG29; clear gb29 gl29 HG29; (first | simp only [add_plain] at hx365_0 | skip); (first | simp only [add_plain] at hx365_1 | skip); (first | simp only [add_plain] at hx365_2 | skip); (first | simp only [add_plain] at hx365_3 | skip); obtain ⟨ce29, hcl29, hM29, hcc29, hfr29⟩ := Kd.R_elem HO364.out z41 ((ji19) : Int) p29 q29; obtain rfl := k41_openM hM29; have hx29_0 : w42.cell? ⟨go29, ((ji19) : Int).toNat * 4, none⟩ = some (.int .i64 ((rd_T41 y362 (ji19)).f0)) := hcc29 0 _ rfl; have hx29_1 : w42.cell? ⟨go29, ((ji19) : Int).toNat * 4 + 1, none⟩ = some (.int .i64 ((rd_T41 y362 (ji19)).f1)) := hcc29 1 _ rfl; have hx29_2 : w42.cell? ⟨go29, ((ji19) : Int).toNat * 4 + 2, none⟩ = some (.int .i64 ((rd_T41 y362 (ji19)).f2)) := hcc29 2 _ rfl; have hx29_3 : w42.cell? ⟨go29, ((ji19) : Int).toNat * 4 + 3, none⟩ = some (.int .i64 ((rd_T41 y362 (ji19)).f3)) := hcc29 3 _ rfl; have hf29_0 : w42.frozen? ⟨go29, ((ji19) : Int).toNat * 4, none⟩ = false := hfr29 0; have hf29_1 : w42.frozen? ⟨go29, ((ji19) : Int).toNat * 4 + 1, none⟩ = false := hfr29 1; have hf29_2 : w42.frozen? ⟨go29, ((ji19) : Int).toNat * 4 + 2, none⟩ = false := hfr29 2; have hf29_3 : w42.frozen? ⟨go29, ((ji19) : Int).toNat * 4 + 3, none⟩ = false := hfr29 3; clear hcl29 hcc29 hfr29 hM29; replace p29 := eq_true p29; replace q29 := eq_true q29; have HX44 := Aside0.mk (show Kd.R k41 41 w42 w.heap.size (fun k_ => some k_ ≠ (.slice Ao11 t334.length co11 : Value).ownBlock ∧ some k_ ≠ (v357 : Value).ownBlock) (.slice (some ⟨go29, 0, none⟩) y362.length co43) y362 from (pR HO364)); obtain ⟨ce44, hcl44, hM44, hcc44, hfr44⟩ := Kd.R_elem HX44.out z41 ((ji19) : Int) (of_decide_eq_true pA) (by have h_ : ((ji19) : Int) < ((y362.length : Int) : Int) := of_decide_eq_true pA; first | exact h_ | (have e_ := (Kd.R_reads' HO364.out).1; omega) | simpa using h_); obtain rfl := k41_openM hM44; have HP44 := Kd.R_seg HX44.out ((ji19) : Int) (of_decide_eq_true pA) (by have h_ : ((ji19) : Int) < ((y362.length : Int) : Int) := of_decide_eq_true pA; first | exact h_ | (have e_ := (Kd.R_reads' HO364.out).1; omega) | simpa using h_) (seg := [.int .i64 ((rd_T41 y362 (ji19)).f0)]) (j := 1) hcl44 hcc44 (show 2 ≤ 4 from by decide) (x' := (⟨(rd_T41 y362 (ji19)).f0, (rd_T41 y362 (ji19)).f0, (rd_T41 y362 (ji19)).f2, (rd_T41 y362 (ji19)).f3⟩ : S41)) (k41_mkM _ _ _ (⟨(rd_T41 y362 (ji19)).f0, (rd_T41 y362 (ji19)).f0, (rd_T41 y362 (ji19)).f2, (rd_T41 y362 (ji19)).f3⟩ : S41) ) (fun _ hk => hk); have hx44_1 := hcc44 1 _ rfl; (try simp only [show (k41).sz = 4 from rfl, Nat.mul_one, Nat.add_zero] at hx44_1); have hf44_1 := hfr44 1; (try simp only [show (k41).sz = 4 from rfl, Nat.mul_one, Nat.add_zero] at hf44_1); clear hcl44 hcc44 hfr44 hM44) | ((with_reducible refine gate_store (t := 3) (p := 72) rfl ?_); refine store_event (t := 3) (p := 72) (v := ?vo_w45) (w1 := (w42.setCell ⟨go29, ((ji19) : Int).toNat * 4 + 1, none⟩ (.int .i64 ((rd_T41 y362 (ji19)).f0)))) ?hg ?ho ?hn ?hr ?_; (case ho => rfl); (case hg => rfl); (case hn => rfl); (case hr => first | (go_simp; done) | (go_simp; rfl)); intro w45 hw; have hg : w42.grownBy w45 (some go29) := (by rw [hw]; exact HP44.2); have hp_ : Kd.R k41 41 w45 w.heap.size (fun k_ => some k_ ≠ (.slice Ao11 t334.length co11 : Value).ownBlock ∧ some k_ ≠ (v357 : Value).ownBlock) (.slice (some ⟨go29, 0, none⟩) y362.length co43) y366 := (by rw [hw, Ny366.out]; exact HP44.1); clear HP44; have n0_ := Aside0.mk (Kd.R_after (v := (.slice (some ⟨go29, 0, none⟩) y362.length co43)) (v1 := (.slice (some ⟨go29, 0, none⟩) y362.length co43)) (ok := (fun k_ => some k_ ≠ (v357 : Value).ownBlock)) (pR HO_5) hg (.inl rfl)); have n1_ := Aside0.mk (Kd.R_over' (v := (.slice (some ⟨go29, 0, none⟩) y362.length co43)) (pR HO_6) (Kd.R_typed HO364.out) (by decide) hg); have n2_ := Aside0.mk (Kd.R_after (v := (.slice (some ⟨go29, 0, none⟩) y362.length co43)) (v1 := (.slice (some ⟨go29, 0, none⟩) y362.length co43)) (ok := (fun k_ => some k_ ≠ (.slice Ao11 t334.length co11 : Value).ownBlock)) (pR HO358) hg (.inl rfl)); have n3_ := Aside0.mk (hp_); have n4_ := Aside0.mk ((by rw [hw]; exact below_set (HB.out) GB29.out : Below w.heap.size w w45)); have n5_ := Aside0.mk ((show Kd.C k41 w45 Ao11 y345.length y345 from by rw [Ny345.out]; exact Kd.C_take (m := ((ji19) : Int).toNat) ((Kd.R_reads' (Kd.R_after (v := (.slice (some ⟨go29, 0, none⟩) y362.length co43)) (v1 := (.slice (some ⟨go29, 0, none⟩) y362.length co43)) (ok := (fun k_ => some k_ ≠ (v357 : Value).ownBlock)) (pR HO_5) hg (.inl rfl))).2.2) KL34.out)); have n6_ := Aside0.mk ((show Kd.C k41 w45 A35 y352.length y352 from by rw [Ny352.out, KA35.out]; exact Kd.C_drop (m := ((ji23) : Int).toNat) (c := co11) ((Kd.R_reads' (Kd.R_after (v := (.slice (some ⟨go29, 0, none⟩) y362.length co43)) (v1 := (.slice (some ⟨go29, 0, none⟩) y362.length co43)) (ok := (fun k_ => some k_ ≠ (v357 : Value).ownBlock)) (pR HO_5) hg (.inl rfl))).2.2) KL35.out ((Kd.R_reads' (Kd.R_after (v := (.slice (some ⟨go29, 0, none⟩) y362.length co43)) (v1 := (.slice (some ⟨go29, 0, none⟩) y362.length co43)) (ok := (fun k_ => some k_ ≠ (v357 : Value).ownBlock)) (pR HO_5) hg (.inl rfl))).2.1))); clear HO_5; clear HO_6; clear HO358; clear HO364; clear HB; clear HR348; clear HR355; have HO_5 := n0_; have HO_6 := n1_; have HO358 := n2_; have HO364 := n3_; have HB := n4_; have HR348 := n5_; have HR355 := n6_; clear n0_ n1_ n2_ n3_ n4_ n5_ n6_; clear hg hw hp_; obtain ⟨Ao46, co46, eo46⟩ := Kd.R_slice HO358.out; subst eo46) | ((with_reducible refine gate_callee (f := 24) rfl ?_); refine goesL_ (some 75) rfl rfl Try.func24 pL rfl #[.slice Ao46 y356.length co46, .slice Ao12 t335.length co12] rfl pM ?_; (with_reducible refine (impl_SwapsValid.calls kj8 _ _ y356 _ _ t335 true _ ?side1 ?side2 ?side3 ?side4 A30.out).mono ?_); (case side1 => exact pS ((Kd.R_reads' HO358.out).2.2)); (case side2 => exact (Kd.R_reads' HO358.out).2.1); (case side3 => exact pS ((Kd.R_reads' HO_6.out).2.2)); (case side4 => exact (Kd.R_reads' HO_6.out).2.1); rintro e w47 ⟨rfl, hb⟩; refine ⟨_, rfl, ?_⟩; have n0_ := Aside0.mk (Kd.R_below (pR HO_5) hb); have n1_ := Aside0.mk (Kd.R_below (pR HO_6) hb); have n2_ := Aside0.mk (Kd.R_below (pR HO358) hb); have n3_ := Aside0.mk (Kd.R_below (pR HO364) hb); have n4_ := Aside0.mk (Kd.C_below (by repeat (first | (with_reducible exact HR348.out) | (with_reducible refine Kd.C_alloc ?_ _) | (with_reducible refine Kd.C_drewN ?_ _) | (with_reducible refine Kd.C_drew ?_) | exact HR348.out)) hb); have n5_ := Aside0.mk (Kd.C_below (by repeat (first | (with_reducible exact HR355.out) | (with_reducible refine Kd.C_alloc ?_ _) | (with_reducible refine Kd.C_drewN ?_ _) | (with_reducible refine Kd.C_drew ?_) | exact HR355.out)) hb); have n6_ := Aside0.mk (below_step pB hb); clear HO_5; clear HO_6; clear HO358; clear HO364; clear HR348; clear HR355; clear HB; have HO_5 := n0_; have HO_6 := n1_; have HO358 := n2_; have HO364 := n3_; have HR348 := n4_; have HR355 := n5_; have HB := n6_; clear n0_ n1_ n2_ n3_ n4_ n5_ n6_; (try clear hb); (try clear hb2); (try clear hk); (try clear hi)) | (go_at_call 24; refine calls_of_args (args' := #[.slice (some ⟨go29, 0, none⟩) y366.length co43, .slice Ao12 t335.length co12]) (by first | (rw [show y366.length = y362.length from (Kd.R_reads' HO364.out).1.symm] <;> rfl) | rfl) ?_; (with_reducible refine (impl_SwapsValid.calls kj8 _ _ y366 _ _ t335 t368 _ ?side1 ?side2 ?side3 ?side4 A32.out).mono ?_); (case side1 => exact pS ((Kd.R_reads' HO364.out).2.2)); (case side2 => rw [show y366.length = y362.length from (Kd.R_reads' HO364.out).1.symm]; exact (Kd.R_reads' HO364.out).2.1); (case side3 => exact pS ((Kd.R_reads' HO_6.out).2.2)); (case side4 => exact (Kd.R_reads' HO_6.out).2.1); rintro e w48 ⟨rfl, hb⟩; have n0_ := Aside0.mk (Kd.R_below (pR HO_5) hb); have n1_ := Aside0.mk (Kd.R_below (pR HO_6) hb); have n2_ := Aside0.mk (Kd.R_below (pR HO358) hb); have n3_ := Aside0.mk (Kd.R_below (pR HO364) hb); have n4_ := Aside0.mk (Kd.C_below (by repeat (first | (with_reducible exact HR348.out) | (with_reducible refine Kd.C_alloc ?_ _) | (with_reducible refine Kd.C_drewN ?_ _) | (with_reducible refine Kd.C_drew ?_) | exact HR348.out)) hb); have n5_ := Aside0.mk (Kd.C_below (by repeat (first | (with_reducible exact HR355.out) | (with_reducible refine Kd.C_alloc ?_ _) | (with_reducible refine Kd.C_drewN ?_ _) | (with_reducible refine Kd.C_drew ?_) | exact HR355.out)) hb); have n6_ := Aside0.mk (below_step pB hb); clear HO_5; clear HO_6; clear HO358; clear HO364; clear HR348; clear HR355; clear HB; have HO_5 := n0_; have HO_6 := n1_; have HO358 := n2_; have HO364 := n3_; have HR348 := n4_; have HR355 := n5_; have HB := n6_; clear n0_ n1_ n2_ n3_ n4_ n5_ n6_; (try clear hb); (try clear hb2); (try clear hk); (try clear hi)))
                 go_ret
                 exact ⟨by first | rfl | (simp [errW_none, errW_some] <;> rfl) | (simp only [← hji19, ← hji23]; first | rfl | (simp [errW_none, errW_some] <;> rfl)) | (simp [*, errW_none, errW_some] <;> rfl), pB⟩
                ·replace c31 := Bool.eq_false_iff.mpr c31
                 subst c31
                 have H1 : (some false) = some r := by rw [if_neg (show ¬ (false = true) by decide)] at H; exact H
                 clear H
                 have H := H1
                 clear H1
                 obtain rfl := Option.some.inj H
                 try go_wp2
                 have n0_ := Aside0.mk (Kd.R_drew HO_5.out)
                 have n1_ := Aside0.mk (Kd.R_drew HO_6.out)
                 have n2_ := Aside0.mk (below_drew1 HB.out)
                 clear HO_5
                 clear HO_6
                 clear HB
                 have HO_5 := n0_
                 have HO_6 := n1_
                 have HB := n2_
                 clear n0_ n1_ n2_
                 have q50 : ((ji19) : Int) ≤ ((t334.length : Int) : Int) := of_decide_eq_true pA
                 obtain ⟨i050, hi050, _, hsz50, _⟩ := info_parts info41
                 have hroom50 : t334.length ≤ co11 := (Kd.R_reads' HO_5.out).2.1
                 have hC50 : Kd.C k41 _ Ao11 t334.length t334 := (Kd.R_reads' HO_5.out).2.2
                 have hcut50 := cut_to (P := Try.prog) 36 41 .i64 Try.underlying36 hi050 Ao11 t334.length co11 (ji19) (of_decide_eq_true pA) q50 hroom50
                 have hr50 := Kd.C_take (m := ((ji19) : Int).toNat) hC50 (by omega)
                 have hy50 : y345.length = ((ji19) : Int).toNat := (by rw [Ny345.out, List.length_take]; omega)
                 rw [← Ny345.out] at hr50
                 rw [← hy50] at hcut50
                 have HR348 := Aside0.mk hr50
                 have HC348 := Aside0.mk (show y345.length ≤ co11 from by omega)
                 clear hr50 hC50 hroom50 hi050 hsz50
                 have KY50 := Aside0.mk hy50
                 clear hy50
                 have KL50 := Aside0.mk (show ((ji19) : Int).toNat ≤ t334.length from by omega)
                 replace q50 := eq_true q50
                 have q51 : ((ji23) : Int) ≤ ((t334.length : Int) : Int) := of_decide_eq_true pA
                 obtain ⟨i051, hi051, _, hsz51, _⟩ := info_parts info41
                 have hroom51 : t334.length ≤ co11 := (Kd.R_reads' HO_5.out).2.1
                 have hC51 : Kd.C k41 _ Ao11 t334.length t334 := (Kd.R_reads' HO_5.out).2.2
                 have q051 : (0 : Int) ≤ ((ji23) : Int) := of_decide_eq_true pA
                 have hcut51 := cut_from (P := Try.prog) 36 41 .i64 Try.underlying36 hi051 4 hsz51 Ao11 t334.length co11 (ji23) q051 q51
                 have hr51 := Kd.C_drop (m := ((ji23) : Int).toNat) (c := co11) hC51 (by omega) hroom51
                 obtain ⟨A51, hA51⟩ : ∃ A1, A1 = (if co11 = ((ji23) : Int).toNat then Ao11 else (Ao11 : Option Addr).map (·.add (((ji23) : Int).toNat * 4))) := ⟨_, rfl⟩
                 obtain ⟨c51, hc51⟩ : ∃ c1, c1 = co11 - ((ji23) : Int).toNat := ⟨_, rfl⟩
                 have hy51 : y352.length = t334.length - ((ji23) : Int).toNat := (by rw [Ny352.out, List.length_drop] <;> omega)
                 rw [show (t334).drop ((ji23) : Int).toNat = y352 from Ny352.out.symm] at hr51
                 replace hr51 : Kd.C k41 _ A51 y352.length y352 := (by rw [hA51]; exact hr51)
                 rw [← hy51, ← hA51, ← hc51] at hcut51
                 have HR355 := Aside0.mk hr51
                 have HC355 := Aside0.mk (show y352.length ≤ c51 from by rw [hy51, hc51]; exact Nat.sub_le_sub_right hroom51 _)
                 clear hr51 hC51 hroom51 hi051 hsz51 hc51
                 have KY51 := Aside0.mk hy51
                 have KA51 := Aside0.mk hA51
                 clear hy51 hA51
                 have KL51 := Aside0.mk (show ((ji23) : Int).toNat ≤ t334.length from by omega)
                 replace q51 := eq_true q51
                 refine start_ (n := 11) (S := fun w' => True) (ds := []) #[false, false, false, false, false, false, false, false, false, false, false] pL rfl rfl trivial (fun hHeld => ?_); refine with_tabW laws_FnSwapsPart.tab9 laws_FnSwapsPart.bits9 (fun HT_ HW_ => ?_)
                 generalize wc.drew = w49 at HO_5 HO_6 HB HR348 HR355 hHeld ⊢
                 refine pure_ (i := 1) (N := some 52) (v := ?_) (a' := ?_) #[false, true, false, false, false, false, false, false, false, false, false] rfl rfl (any_of HT_.out pL) (fun _ _ _ h => h) (Or.inl ⟨by rfl, ?_⟩) ?_ ?_
                 rotate_left
                 ·intro w'
                  go_simp
                  with_reducible rfl
                 rotate_left
                 ·exact pP
                 refine pure_ (i := 2) (N := some 53) (v := ?_) (a' := ?_) #[false, true, true, false, false, false, false, false, false, false, false] rfl rfl (any_of HT_.out pL) (fun _ _ _ h => h) (Or.inl ⟨by rfl, ?_⟩) ?_ ?_
                 rotate_left
                 ·intro w'
                  go_simp
                  with_reducible rfl
                 rotate_left
                 ·exact pP
                 refine pure_ (i := 3) (N := some 54) (v := ?_) (a' := ?_) #[false, true, true, true, false, false, false, false, false, false, false] rfl rfl (any_of HT_.out pL) (fun _ _ _ h => h) (Or.inl ⟨by rfl, ?_⟩) ?_ ?_
                 rotate_left
                 ·intro w'
                  go_simp
                  with_reducible rfl
                 rotate_left
                 ·exact pP
                 refine pure_ (i := 5) (N := some 56) (v := ?_) (a' := ?_) #[false, true, true, true, false, true, false, false, false, false, false] rfl rfl (any_of HT_.out pL) (fun _ _ _ h => h) (Or.inl ⟨by rfl, ?_⟩) ?_ ?_
                 rotate_left
                 ·intro w'
                  go_simp
                  with_reducible rfl
                 rotate_left
                 ·exact pP
                 refine pure_ (i := 6) (N := some 57) (v := ?_) (a' := ?_) #[false, true, true, true, false, true, true, false, false, false, false] rfl rfl (any_of HT_.out pL) (fun _ _ _ h => h) (Or.inl ⟨by rfl, ?_⟩) ?_ ?_
                 rotate_left
                 ·intro w'
                  go_simp
                  with_reducible rfl
                 rotate_left
                 ·exact pP
                 refine pure_ (i := 7) (N := some 58) (v := ?_) (a' := ?_) #[false, true, true, true, false, true, true, true, false, false, false] rfl rfl (any_of HT_.out pL) (fun _ _ _ h => h) (Or.inl ⟨by rfl, ?_⟩) ?_ ?_
                 rotate_left
                 ·intro w'
                  go_simp
                  with_reducible rfl
                 rotate_left
                 ·exact pP
                 refine pure_ (i := 8) (N := some 59) (v := ?_) (a' := ?_) #[false, true, true, true, false, true, true, true, true, false, false] rfl rfl (any_of HT_.out pL) (fun _ _ _ h => h) (Or.inl ⟨by rfl, ?_⟩) ?_ ?_
                 rotate_left
                 ·intro w'
                  go_simp
                  with_reducible rfl
                 rotate_left
                 ·exact pP
                 refine one_ (i := 0) (N := some 51) #[true, true, true, true, false, true, true, true, true, false, false] rfl rfl (one_of HT_.out pL) (by decide) (fun K hK => ?_)
                 refine Kd.R_lit_step k41 _ 41 ?hg (N := 51) ?hd (xs := ([] : List (S41))) (inner := []) (ok := fun _ => True) (okp := fun _ => True) ?hr ?hp (fun _ hk => hk) trivial (Below.refl _ _) (Nat.le_refl _) (by simp) ?_; (case hd => rfl); (case hg => rfl); (case hr => first | (go_simp; done) | (go_simp; rfl)); (case hp => exact (Reps.none _ _))
                 intro v343 w52 ho53 hb hg_ hnew_
                 clear hg_ hnew_
                 (first | rw [← Ny342.out] at ho53 | (simp only [Int.reduceToNat] at ho53; rw [← Ny342.out] at ho53))
                 have n0_ := Aside0.mk (Kd.R_elder' (pR HO_5) (Kd.R_base ho53) hb)
                 have n1_ := Aside0.mk (Kd.R_below (pR HO_6) hb)
                 have n2_ := Aside0.mk (Kd.R_lower (Kd.R_new' ho53 (Kd.R_lt (pR HO_5))) (below_size pB))
                 have n3_ := Aside0.mk (Kd.C_below (by repeat (first | (with_reducible exact HR348.out) | (with_reducible refine Kd.C_alloc ?_ _) | (with_reducible refine Kd.C_drewN ?_ _) | (with_reducible refine Kd.C_drew ?_) | exact HR348.out)) hb)
                 have n4_ := Aside0.mk (Kd.C_below (by repeat (first | (with_reducible exact HR355.out) | (with_reducible refine Kd.C_alloc ?_ _) | (with_reducible refine Kd.C_drewN ?_ _) | (with_reducible refine Kd.C_drew ?_) | exact HR355.out)) hb)
                 have n5_ := Aside0.mk (below_step pB hb)
                 clear HO_5
                 clear HO_6
                 clear HR348
                 clear HR355
                 clear HB
                 have HO_5 := n0_
                 have HO_6 := n1_
                 have HO344 := n2_
                 have HR348 := n3_
                 have HR355 := n4_
                 have HB := n5_
                 clear n0_ n1_ n2_ n3_ n4_ n5_
                 clear hb ho53
                 refine hK.out _ _ trivial (fun hHeld => ?_)
                 clear hK K
                 refine norm_ (a' := ?_) ?_ ?_
                 rotate_left
                 ·show Act.put _ (some 51) _ = _
                  exact pP
                 refine one_ (i := 4) (N := some 55) #[true, true, true, true, true, true, true, true, true, false, false] rfl rfl (one_of HT_.out pL) (by decide) (fun K hK => ?_)
                 refine Kd.R_append_rows_step k41 (w0 := w) w.heap.size (by rfl) (.tmp 51) (.tmp 54) 36 41 (.agg #[(.int .i64 0), (.int .i64 0), (.int .i64 0), (.int .i64 0)]) 32 rfl Try.underlying36 info41 rfl (by decide) (by omega) v343 y342 y345 _ _ _ (fun k_ => some k_ ≠ (.slice Ao11 t334.length co11 : Value).ownBlock) (fun _ => False) rfl rfl ?aO ?aR (fun _ _ h => h) (fun _ h => h.elim) ?aF ?aB ?aS ?aL ?_
                 (case aR => repeat (first | exact (by repeat (first | (with_reducible exact HR348.out) | (with_reducible refine Kd.C_alloc ?_ _) | (with_reducible refine Kd.C_drewN ?_ _) | (with_reducible refine Kd.C_drew ?_) | exact HR348.out)) | (with_reducible refine Kd.C_alloc ?_ _) | (with_reducible refine Kd.C_drewN ?_ _) | (with_reducible refine Kd.C_drew ?_)))
                 (case aB => exact pB)
                 (case aF => exact (fun k_ hk => Kd.fresh' (Kd.R_lt (pR HO_5)) k_ hk))
                 (case aO => exact (by (with_reducible repeat (first | apply Kd.R_alloc | apply Kd.R_drewN | apply Kd.R_drew)); exact Kd.R_mono HO344.out (fun _ hk => hk.2)))
                 (case aS => exact (below_size pB))
                 (case aL => have := LMc22.out; omega)
                 intro v350 w54 ho hb hg hat
                 rw [← Ny349.out] at ho
                 have n0_ := Aside0.mk (Kd.R_after (ok := (fun _ => True)) (pR HO_5) hg hat)
                 have n1_ := Aside0.mk (Kd.R_over' (pR HO_6) (Kd.R_typed (pR HO344)) (by decide) hg)
                 have n2_ := Aside0.mk (hb)
                 have n3_ := Aside0.mk ((show Kd.C k41 w54 Ao11 y345.length y345 from by rw [Ny345.out]; exact Kd.C_take (m := ((ji19) : Int).toNat) ((Kd.R_reads' (Kd.R_after (ok := (fun _ => True)) (pR HO_5) hg hat)).2.2) KL50.out))
                 have n4_ := Aside0.mk ((show Kd.C k41 w54 A51 y352.length y352 from by rw [Ny352.out, KA51.out]; exact Kd.C_drop (m := ((ji23) : Int).toNat) (c := co11) ((Kd.R_reads' (Kd.R_after (ok := (fun _ => True)) (pR HO_5) hg hat)).2.2) KL51.out ((Kd.R_reads' (Kd.R_after (ok := (fun _ => True)) (pR HO_5) hg hat)).2.1)))
                 have n5_ := Aside0.mk (ho)
                 clear HO_5
                 clear HO_6
                 clear HB
                 clear HR348
                 clear HR355
                 clear HO344
                 have HO_5 := n0_
                 have HO_6 := n1_
                 have HB := n2_
                 have HR348 := n3_
                 have HR355 := n4_
                 have HO351 := n5_
                 clear n0_ n1_ n2_ n3_ n4_ n5_
                 clear ho hb hg hat
                 refine hK.out _ _ trivial (fun hHeld => ?_)
                 clear hK K
                 refine norm_ (a' := ?_) ?_ ?_
                 rotate_left
                 ·show Act.put _ (some 55) _ = _
                  exact pP
                 refine one_ (i := 9) (N := some 60) #[true, true, true, true, true, true, true, true, true, true, false] rfl rfl (one_of HT_.out pL) (by decide) (fun K hK => ?_)
                 refine Kd.R_append_rows_step k41 (w0 := w) w.heap.size (by rfl) (.tmp 55) (.tmp 59) 36 41 (.agg #[(.int .i64 0), (.int .i64 0), (.int .i64 0), (.int .i64 0)]) 32 rfl Try.underlying36 info41 rfl (by decide) (by omega) v350 y349 y352 _ _ _ (fun k_ => some k_ ≠ (.slice Ao11 t334.length co11 : Value).ownBlock) (fun _ => False) rfl rfl ?aO ?aR (fun _ _ h => h) (fun _ h => h.elim) ?aF ?aB ?aS ?aL ?_
                 (case aR => repeat (first | exact (by repeat (first | (with_reducible exact HR355.out) | (with_reducible refine Kd.C_alloc ?_ _) | (with_reducible refine Kd.C_drewN ?_ _) | (with_reducible refine Kd.C_drew ?_) | exact HR355.out)) | (with_reducible refine Kd.C_alloc ?_ _) | (with_reducible refine Kd.C_drewN ?_ _) | (with_reducible refine Kd.C_drew ?_)))
                 (case aB => exact pB)
                 (case aF => exact (fun k_ hk => Kd.fresh' (Kd.R_lt (pR HO_5)) k_ hk))
                 (case aO => exact (pR HO351))
                 (case aS => exact (below_size pB))
                 (case aL => have := LMc26.out; omega)
                 intro v357 w55 ho hb hg hat
                 rw [← Ny356.out] at ho
                 have n0_ := Aside0.mk (Kd.R_after (ok := (fun _ => True)) (pR HO_5) hg hat)
                 have n1_ := Aside0.mk (Kd.R_over' (pR HO_6) (Kd.R_typed (pR HO351)) (by decide) hg)
                 have n2_ := Aside0.mk (hb)
                 have n3_ := Aside0.mk ((show Kd.C k41 w55 Ao11 y345.length y345 from by rw [Ny345.out]; exact Kd.C_take (m := ((ji19) : Int).toNat) ((Kd.R_reads' (Kd.R_after (ok := (fun _ => True)) (pR HO_5) hg hat)).2.2) KL50.out))
                 have n4_ := Aside0.mk ((show Kd.C k41 w55 A51 y352.length y352 from by rw [Ny352.out, KA51.out]; exact Kd.C_drop (m := ((ji23) : Int).toNat) (c := co11) ((Kd.R_reads' (Kd.R_after (ok := (fun _ => True)) (pR HO_5) hg hat)).2.2) KL51.out ((Kd.R_reads' (Kd.R_after (ok := (fun _ => True)) (pR HO_5) hg hat)).2.1)))
                 have n5_ := Aside0.mk (ho)
                 clear HO_5
                 clear HO_6
                 clear HB
                 clear HR348
                 clear HR355
                 clear HO351
                 have HO_5 := n0_
                 have HO_6 := n1_
                 have HB := n2_
                 have HR348 := n3_
                 have HR355 := n4_
                 have HO358 := n5_
                 clear n0_ n1_ n2_ n3_ n4_ n5_
                 clear ho hb hg hat
                 refine hK.out _ _ trivial (fun hHeld => ?_)
                 clear hK K
                 refine norm_ (a' := ?_) ?_ ?_
                 rotate_left
                 ·show Act.put _ (some 60) _ = _
                  exact pP
                 refine pure_ (i := 10) (N := some 10) (v := ?_) (a' := ?_) #[true, true, true, true, true, true, true, true, true, true, true] rfl rfl (any_of HT_.out pL) (fun _ _ _ h => h) (Or.inl ⟨by rfl, ?_⟩) ?_ ?_
                 rotate_left
                 ·intro w'
                  go_simp
                  with_reducible rfl
                 rotate_left
                 ·exact pP
                 refine done_ (done_of HT_.out pL) ?_
                 try go_wp2_with (first | ((with_reducible refine gate_dst (N := 61) rfl ?_); (try (refine gate_guard (by rfl) ?_; dsimp only)); refine Kd.R_lit k41 _ 41 ?hg (N := 61) ?hd (xs := ([] : List (S41))) (inner := []) (ok := fun _ => True) (okp := fun _ => True) ?hr ?hp (fun _ hk => hk) trivial (Below.refl _ _) (Nat.le_refl _) (by simp) ?_; (case hd => rfl); (case hg => rfl); (case hr => first | (go_simp; done) | (go_simp; rfl)); (case hp => exact (Reps.none _ _)); intro v360 w56 ho57 hb hg_ hnew_; clear hg_ hnew_; (first | rw [← Ny359.out] at ho57 | (simp only [Int.reduceToNat] at ho57; rw [← Ny359.out] at ho57)); have n0_ := Aside0.mk (Kd.R_elder' (pR HO_5) (Kd.R_base ho57) hb); have n1_ := Aside0.mk (Kd.R_below (pR HO_6) hb); have n2_ := Aside0.mk (Kd.R_elder' (pR HO358) (Kd.R_base ho57) hb); have n3_ := Aside0.mk (Kd.R_lower (Kd.R_new' (Kd.R_new' ho57 (Kd.R_lt (pR HO_5))) (Kd.R_lt (pR HO358))) (below_size pB)); have n4_ := Aside0.mk (Kd.C_below (by repeat (first | (with_reducible exact HR348.out) | (with_reducible refine Kd.C_alloc ?_ _) | (with_reducible refine Kd.C_drewN ?_ _) | (with_reducible refine Kd.C_drew ?_) | exact HR348.out)) hb); have n5_ := Aside0.mk (Kd.C_below (by repeat (first | (with_reducible exact HR355.out) | (with_reducible refine Kd.C_alloc ?_ _) | (with_reducible refine Kd.C_drewN ?_ _) | (with_reducible refine Kd.C_drew ?_) | exact HR355.out)) hb); have n6_ := Aside0.mk (below_step pB hb); clear HO_5; clear HO_6; clear HO358; clear HR348; clear HR355; clear HB; have HO_5 := n0_; have HO_6 := n1_; have HO358 := n2_; have HO361 := n3_; have HR348 := n4_; have HR355 := n5_; have HB := n6_; clear n0_ n1_ n2_ n3_ n4_ n5_ n6_; clear hb ho57) | ((with_reducible refine gate_builtin (b := .append) (xs := #[.tmp 61, .tmp 62]) rfl ?_); (try (refine gate_guard (by rfl) ?_; dsimp only)); at_builtin; refine Kd.R_append_rows k41 (w0 := w) w.heap.size rfl (.tmp 61) (.tmp 62) 36 41 (.agg #[(.int .i64 0), (.int .i64 0), (.int .i64 0), (.int .i64 0)]) 32 rfl Try.underlying36 info41 rfl (by decide) (by omega) v360 y359 t334 _ _ _ (fun k_ => some k_ ≠ (.slice Ao11 t334.length co11 : Value).ownBlock ∧ some k_ ≠ (v357 : Value).ownBlock) (fun _ => False) rfl rfl ?aO ?aR (fun _ _ h => h) (fun _ h => h.elim) ?aF ?aB ?aS ?aL ?_; (case aR => exact pS ((Kd.R_reads' HO_5.out).2.2)); (case aB => exact pB); (case aF => exact (fun k_ hk => ⟨Kd.fresh' (Kd.R_lt (pR HO_5)) k_ hk, Kd.fresh' (Kd.R_lt (pR HO358)) k_ hk⟩)); (case aO => exact (by (with_reducible repeat (first | apply Kd.R_alloc | apply Kd.R_drewN | apply Kd.R_drew)); exact Kd.R_mono HO361.out (fun _ hk => ⟨hk.1.2, hk.2⟩))); (case aS => exact (below_size pB)); (case aL => have := LMc27.out; omega); intro v363 w58 ho hb hg hat; rw [← Ny362.out] at ho; have n0_ := Aside0.mk (Kd.R_after (ok := (fun k_ => some k_ ≠ (v357 : Value).ownBlock)) (by (with_reducible repeat (first | apply Kd.R_alloc | apply Kd.R_drewN | apply Kd.R_drew)); exact Kd.R_mono HO_5.out (fun _ hk => ⟨hk.1.2, hk.2⟩)) hg hat); have n1_ := Aside0.mk (Kd.R_over' (pR HO_6) (Kd.R_typed (pR HO361)) (by decide) hg); have n2_ := Aside0.mk (Kd.R_after (ok := (fun k_ => some k_ ≠ (.slice Ao11 t334.length co11 : Value).ownBlock)) (pR HO358) hg hat); have n3_ := Aside0.mk (hb); have n4_ := Aside0.mk ((show Kd.C k41 w58 Ao11 y345.length y345 from by rw [Ny345.out]; exact Kd.C_take (m := ((ji19) : Int).toNat) ((Kd.R_reads' (Kd.R_after (ok := (fun k_ => some k_ ≠ (v357 : Value).ownBlock)) (by (with_reducible repeat (first | apply Kd.R_alloc | apply Kd.R_drewN | apply Kd.R_drew)); exact Kd.R_mono HO_5.out (fun _ hk => ⟨hk.1.2, hk.2⟩)) hg hat)).2.2) KL50.out)); have n5_ := Aside0.mk ((show Kd.C k41 w58 A51 y352.length y352 from by rw [Ny352.out, KA51.out]; exact Kd.C_drop (m := ((ji23) : Int).toNat) (c := co11) ((Kd.R_reads' (Kd.R_after (ok := (fun k_ => some k_ ≠ (v357 : Value).ownBlock)) (by (with_reducible repeat (first | apply Kd.R_alloc | apply Kd.R_drewN | apply Kd.R_drew)); exact Kd.R_mono HO_5.out (fun _ hk => ⟨hk.1.2, hk.2⟩)) hg hat)).2.2) KL51.out ((Kd.R_reads' (Kd.R_after (ok := (fun k_ => some k_ ≠ (v357 : Value).ownBlock)) (by (with_reducible repeat (first | apply Kd.R_alloc | apply Kd.R_drewN | apply Kd.R_drew)); exact Kd.R_mono HO_5.out (fun _ hk => ⟨hk.1.2, hk.2⟩)) hg hat)).2.1))); have n6_ := Aside0.mk (ho); clear HO_5; clear HO_6; clear HO358; clear HB; clear HR348; clear HR355; clear HO361; have HO_5 := n0_; have HO_6 := n1_; have HO358 := n2_; have HB := n3_; have HR348 := n4_; have HR355 := n5_; have HO364 := n6_; clear n0_ n1_ n2_ n3_ n4_ n5_ n6_; clear ho hb hg hat; obtain ⟨Ao59, co59, eo59⟩ := Kd.R_slice HO364.out; subst eo59; have p365 : 0 ≤ ((ji19) : Int) := of_decide_eq_true pA; have q365 : (ji19) < (y362.length : Int) := of_decide_eq_true pA; obtain ⟨ad365, e365, hx365_0, hx365_1, hx365_2, hx365_3⟩ := at_T41 (Kd.R_reads' HO364.out).2.2 (ji19) p365 q365; cases e365; replace p365 := eq_true p365; replace q365 := eq_true q365; have p29 : 0 ≤ ((ji19) : Int) := of_decide_eq_true pA; have q29 : ((ji19) : Int) < ((y362.length : Int) : Int) := of_decide_eq_true pA; obtain ⟨go29, co29, eo29, gb29, gl29, cl29, HG29⟩ := Kd.R_form HO364.out (by omega); (first | cases eo29 | (injection eo29 with ea_ en_ ec_; (first | subst ea_ | (injection ea_ with ea_; subst ea_)); subst ec_; clear en_)); have GB29 := Aside0.mk gb29; have GG29 := Aside0.mk HG29; clear gb29 gl29 HG29; (first | simp only [add_plain] at hx365_0 | skip); (first | simp only [add_plain] at hx365_1 | skip); (first | simp only [add_plain] at hx365_2 | skip); (first | simp only [add_plain] at hx365_3 | skip); obtain ⟨ce29, hcl29, hM29, hcc29, hfr29⟩ := Kd.R_elem HO364.out z41 ((ji19) : Int) p29 q29; obtain rfl := k41_openM hM29; have hx29_0 : w58.cell? ⟨go29, ((ji19) : Int).toNat * 4, none⟩ = some (.int .i64 ((rd_T41 y362 (ji19)).f0)) := hcc29 0 _ rfl; have hx29_1 : w58.cell? ⟨go29, ((ji19) : Int).toNat * 4 + 1, none⟩ = some (.int .i64 ((rd_T41 y362 (ji19)).f1)) := hcc29 1 _ rfl; have hx29_2 : w58.cell? ⟨go29, ((ji19) : Int).toNat * 4 + 2, none⟩ = some (.int .i64 ((rd_T41 y362 (ji19)).f2)) := hcc29 2 _ rfl; have hx29_3 : w58.cell? ⟨go29, ((ji19) : Int).toNat * 4 + 3, none⟩ = some (.int .i64 ((rd_T41 y362 (ji19)).f3)) := hcc29 3 _ rfl; have hf29_0 : w58.frozen? ⟨go29, ((ji19) : Int).toNat * 4, none⟩ = false := hfr29 0; have hf29_1 : w58.frozen? ⟨go29, ((ji19) : Int).toNat * 4 + 1, none⟩ = false := hfr29 1; have hf29_2 : w58.frozen? ⟨go29, ((ji19) : Int).toNat * 4 + 2, none⟩ = false := hfr29 2; have hf29_3 : w58.frozen? ⟨go29, ((ji19) : Int).toNat * 4 + 3, none⟩ = false := hfr29 3; clear hcl29 hcc29 hfr29 hM29; replace p29 := eq_true p29; replace q29 := eq_true q29; have HX60 := Aside0.mk (show Kd.R k41 41 w58 w.heap.size (fun k_ => some k_ ≠ (.slice Ao11 t334.length co11 : Value).ownBlock ∧ some k_ ≠ (v357 : Value).ownBlock) (.slice (some ⟨go29, 0, none⟩) y362.length co59) y362 from (pR HO364)); obtain ⟨ce60, hcl60, hM60, hcc60, hfr60⟩ := Kd.R_elem HX60.out z41 ((ji19) : Int) (of_decide_eq_true pA) (by have h_ : ((ji19) : Int) < ((y362.length : Int) : Int) := of_decide_eq_true pA; first | exact h_ | (have e_ := (Kd.R_reads' HO364.out).1; omega) | simpa using h_); obtain rfl := k41_openM hM60; have HP60 := Kd.R_seg HX60.out ((ji19) : Int) (of_decide_eq_true pA) (by have h_ : ((ji19) : Int) < ((y362.length : Int) : Int) := of_decide_eq_true pA; first | exact h_ | (have e_ := (Kd.R_reads' HO364.out).1; omega) | simpa using h_) (seg := [.int .i64 ((rd_T41 y362 (ji19)).f0)]) (j := 1) hcl60 hcc60 (show 2 ≤ 4 from by decide) (x' := (⟨(rd_T41 y362 (ji19)).f0, (rd_T41 y362 (ji19)).f0, (rd_T41 y362 (ji19)).f2, (rd_T41 y362 (ji19)).f3⟩ : S41)) (k41_mkM _ _ _ (⟨(rd_T41 y362 (ji19)).f0, (rd_T41 y362 (ji19)).f0, (rd_T41 y362 (ji19)).f2, (rd_T41 y362 (ji19)).f3⟩ : S41) ) (fun _ hk => hk); have hx60_1 := hcc60 1 _ rfl; (try simp only [show (k41).sz = 4 from rfl, Nat.mul_one, Nat.add_zero] at hx60_1); have hf60_1 := hfr60 1; (try simp only [show (k41).sz = 4 from rfl, Nat.mul_one, Nat.add_zero] at hf60_1); clear hcl60 hcc60 hfr60 hM60) | ((with_reducible refine gate_store (t := 3) (p := 72) rfl ?_); refine store_event (t := 3) (p := 72) (v := ?vo_w61) (w1 := (w58.setCell ⟨go29, ((ji19) : Int).toNat * 4 + 1, none⟩ (.int .i64 ((rd_T41 y362 (ji19)).f0)))) ?hg ?ho ?hn ?hr ?_; (case ho => rfl); (case hg => rfl); (case hn => rfl); (case hr => first | (go_simp; done) | (go_simp; rfl)); intro w61 hw; have hg : w58.grownBy w61 (some go29) := (by rw [hw]; exact HP60.2); have hp_ : Kd.R k41 41 w61 w.heap.size (fun k_ => some k_ ≠ (.slice Ao11 t334.length co11 : Value).ownBlock ∧ some k_ ≠ (v357 : Value).ownBlock) (.slice (some ⟨go29, 0, none⟩) y362.length co59) y366 := (by rw [hw, Ny366.out]; exact HP60.1); clear HP60; have n0_ := Aside0.mk (Kd.R_after (v := (.slice (some ⟨go29, 0, none⟩) y362.length co59)) (v1 := (.slice (some ⟨go29, 0, none⟩) y362.length co59)) (ok := (fun k_ => some k_ ≠ (v357 : Value).ownBlock)) (pR HO_5) hg (.inl rfl)); have n1_ := Aside0.mk (Kd.R_over' (v := (.slice (some ⟨go29, 0, none⟩) y362.length co59)) (pR HO_6) (Kd.R_typed HO364.out) (by decide) hg); have n2_ := Aside0.mk (Kd.R_after (v := (.slice (some ⟨go29, 0, none⟩) y362.length co59)) (v1 := (.slice (some ⟨go29, 0, none⟩) y362.length co59)) (ok := (fun k_ => some k_ ≠ (.slice Ao11 t334.length co11 : Value).ownBlock)) (pR HO358) hg (.inl rfl)); have n3_ := Aside0.mk (hp_); have n4_ := Aside0.mk ((by rw [hw]; exact below_set (HB.out) GB29.out : Below w.heap.size w w61)); have n5_ := Aside0.mk ((show Kd.C k41 w61 Ao11 y345.length y345 from by rw [Ny345.out]; exact Kd.C_take (m := ((ji19) : Int).toNat) ((Kd.R_reads' (Kd.R_after (v := (.slice (some ⟨go29, 0, none⟩) y362.length co59)) (v1 := (.slice (some ⟨go29, 0, none⟩) y362.length co59)) (ok := (fun k_ => some k_ ≠ (v357 : Value).ownBlock)) (pR HO_5) hg (.inl rfl))).2.2) KL50.out)); have n6_ := Aside0.mk ((show Kd.C k41 w61 A51 y352.length y352 from by rw [Ny352.out, KA51.out]; exact Kd.C_drop (m := ((ji23) : Int).toNat) (c := co11) ((Kd.R_reads' (Kd.R_after (v := (.slice (some ⟨go29, 0, none⟩) y362.length co59)) (v1 := (.slice (some ⟨go29, 0, none⟩) y362.length co59)) (ok := (fun k_ => some k_ ≠ (v357 : Value).ownBlock)) (pR HO_5) hg (.inl rfl))).2.2) KL51.out ((Kd.R_reads' (Kd.R_after (v := (.slice (some ⟨go29, 0, none⟩) y362.length co59)) (v1 := (.slice (some ⟨go29, 0, none⟩) y362.length co59)) (ok := (fun k_ => some k_ ≠ (v357 : Value).ownBlock)) (pR HO_5) hg (.inl rfl))).2.1))); clear HO_5; clear HO_6; clear HO358; clear HO364; clear HB; clear HR348; clear HR355; have HO_5 := n0_; have HO_6 := n1_; have HO358 := n2_; have HO364 := n3_; have HB := n4_; have HR348 := n5_; have HR355 := n6_; clear n0_ n1_ n2_ n3_ n4_ n5_ n6_; clear hg hw hp_; obtain ⟨Ao62, co62, eo62⟩ := Kd.R_slice HO358.out; subst eo62) | ((with_reducible refine gate_callee (f := 24) rfl ?_); refine goesL_ (some 75) rfl rfl Try.func24 pL rfl #[.slice Ao62 y356.length co62, .slice Ao12 t335.length co12] rfl pM ?_; (with_reducible refine (impl_SwapsValid.calls kj8 _ _ y356 _ _ t335 false _ ?side1 ?side2 ?side3 ?side4 A30.out).mono ?_); (case side1 => exact pS ((Kd.R_reads' HO358.out).2.2)); (case side2 => exact (Kd.R_reads' HO358.out).2.1); (case side3 => exact pS ((Kd.R_reads' HO_6.out).2.2)); (case side4 => exact (Kd.R_reads' HO_6.out).2.1); rintro e w63 ⟨rfl, hb⟩; refine ⟨_, rfl, ?_⟩; have n0_ := Aside0.mk (Kd.R_below (pR HO_5) hb); have n1_ := Aside0.mk (Kd.R_below (pR HO_6) hb); have n2_ := Aside0.mk (Kd.R_below (pR HO358) hb); have n3_ := Aside0.mk (Kd.R_below (pR HO364) hb); have n4_ := Aside0.mk (Kd.C_below (by repeat (first | (with_reducible exact HR348.out) | (with_reducible refine Kd.C_alloc ?_ _) | (with_reducible refine Kd.C_drewN ?_ _) | (with_reducible refine Kd.C_drew ?_) | exact HR348.out)) hb); have n5_ := Aside0.mk (Kd.C_below (by repeat (first | (with_reducible exact HR355.out) | (with_reducible refine Kd.C_alloc ?_ _) | (with_reducible refine Kd.C_drewN ?_ _) | (with_reducible refine Kd.C_drew ?_) | exact HR355.out)) hb); have n6_ := Aside0.mk (below_step pB hb); clear HO_5; clear HO_6; clear HO358; clear HO364; clear HR348; clear HR355; clear HB; have HO_5 := n0_; have HO_6 := n1_; have HO358 := n2_; have HO364 := n3_; have HR348 := n4_; have HR355 := n5_; have HB := n6_; clear n0_ n1_ n2_ n3_ n4_ n5_ n6_; (try clear hb); (try clear hb2); (try clear hk); (try clear hi)))
                 go_ret
                 exact ⟨by first | rfl | (simp [errW_none, errW_some] <;> rfl) | (simp only [← hji19, ← hji23]; first | rfl | (simp [errW_none, errW_some] <;> rfl)) | (simp [*, errW_none, errW_some] <;> rfl), pB⟩
               ·rw [if_neg c28] at H
                exact absurd H (by simp)
              ·rw [if_neg c27] at H
               exact absurd H (by simp)
             ·rw [if_neg c26] at H
              exact absurd H (by simp)
            ·rw [if_neg c25] at H
             exact absurd H (by simp)
           ·rw [if_neg c24] at H
            exact absurd H (by simp)
          ·rw [if_neg c22] at H
           exact absurd H (by simp)
         ·rw [if_neg c21] at H
          exact absurd H (by simp)
        ·rw [if_neg c20] at H
         exact absurd H (by simp)

/-- THE ONE PURE STATEMENT of laws_FnSwapsPart: yours. -/
def laws_FnSwapsPart.Pure : Prop := ∀ (l0 : List Int) (l1 : List Int), l0.length ≤ maxLen → l0.length * 1 ≤ 140737488351232 → (∀ x ∈ l0, (Lit.int .u8 x).wf = true) → l1.length ≤ maxLen → l1.length * 1 ≤ 140737488351232 → (∀ x ∈ l1, (Lit.int .u8 x).wf = true) → ∃ k, laws_FnSwapsPart.f k l0 l1 = some true
theorem laws_FnSwapsPart.walk (P : laws_FnSwapsPart.Pure) (a0 : Option Addr) (len0 cap0 : Nat) (z0 : List Int) (a1 : Option Addr) (len1 cap1 : Nat) (z1 : List Int) (w : World) (w0 : (a0 = none ∧ len0 = 0 ∧ cap0 = 0 ∧ z0 = []) ∨ ∃ x, a0 = some x ∧ len0 ≤ cap0 ∧ cap0 ≤ maxLen ∧ z0.length = cap0 ∧ (∀ i, i < z0.length → w.cell? (x.add i) = some (.int .u8 (z0.getD i 0))) ∧ ∀ n ∈ z0, (Lit.int .u8 n).wf = true) (y0 : len0 * 1 ≤ 140737488351232) (w1 : (a1 = none ∧ len1 = 0 ∧ cap1 = 0 ∧ z1 = []) ∨ ∃ x, a1 = some x ∧ len1 ≤ cap1 ∧ cap1 ≤ maxLen ∧ z1.length = cap1 ∧ (∀ i, i < z1.length → w.cell? (x.add i) = some (.int .u8 (z1.getD i 0))) ∧ ∀ n ∈ z1, (Lit.int .u8 n).wf = true) (y1 : len1 * 1 ≤ 140737488351232) :
  Calls Try.prog 5 #[.slice a0 len0 cap0, .slice a1 len1 cap1] w fun e w' => e = .returned (.bool true) ∧ Below w.heap.size w w' := by
 obtain ⟨l0, rfl, hr0, hm0, hw0, hc0⟩ := ReadsInt.ofRowC w0
 obtain ⟨l1, rfl, hr1, hm1, hw1, hc1⟩ := ReadsInt.ofRowC w1
 obtain ⟨k, h⟩ := P l0 l1 hm0 y0 hw0 hm1 y1 hw1
 refine (laws_FnSwapsPart.calls k _ _ l0 _ _ l1 true w (Kd.C_of_reads (d := (0 : Int)) (h1 := fun _ => rfl) hr0) hc0 (Kd.C_of_reads (d := (0 : Int)) (h1 := fun _ => rfl) hr1) hc1 h).mono ?_
 rintro e w' ⟨rfl, hd⟩
 exact ⟨rfl, hd⟩

end Go.Proofs.Ytglddjbcaknnaaa.Q
