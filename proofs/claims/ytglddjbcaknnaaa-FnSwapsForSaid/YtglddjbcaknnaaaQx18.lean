-- Written by the kit's print.py for all laws of the seat at once (one namespace), by a program of this session.
import Derived.Test.YtglddjbcaknnaaaQx0
import Derived.Test.YtglddjbcaknnaaaQx9
import Derived.Test.YtglddjbcaknnaaaQx12
import Derived.Test.YtglddjbcaknnaaaQx14
import Derived.Test.YtglddjbcaknnaaaQx19
import Derived.Test.YtglddjbcaknnaaaQx20
import Derived.Test.YtglddjbcaknnaaaQx21
import Derived.Test.YtglddjbcaknnaaaQx22
namespace Go.Proofs.Ytglddjbcaknnaaa.Q
open Go.RowKit Go.Proofs.YtglddjbcaknnaaaW.PrintWords Go.Proofs.YtglddjbcaknnaaaW.PrintLast Go.Proofs.YtglddjbcaknnaaaW.PrintMore
attribute [local go_sem] max2_int min2_int max_two min_two max_three min_three max_four min_four   -- for this text's walks alone
set_option linter.unusedVariables false
set_option linter.unusedSimpArgs false

/-! ### spec_DrawSwapsFor: function 31 -/
def spec_DrawSwapsFor.j0 : Nat → List (S62) → List (S41) → Bool → List Int → Int → Option ((List (S41)) × (List (S62)) × Int)
 | 0, _, _, _, _, _ => none
 | k + 1, x6, x7, x22, x442000, x442001 => if x22 = true then ((spec_l6Rd_pick.f k x442000 x442001 (x7.length : Int)).bind fun bt452 => (if 0 ≤ bt452.1 then (if bt452.1 < (x7.length : Int) then (some (x7, x6, (rd_T41 x7 bt452.1).f0)) else (none)) else (none))) else ((spec_l6Rd_pick.f k x442000 x442001 10).bind fun bt455 => (some (x7, x6, bt455.1)))
def spec_DrawSwapsFor.f (k : Nat) (l0 : List Int) : Option ((List (S41)) × (List (S62)) × Int) := (spec_l6Open.f l0).bind fun bt439 => ((spec_l91Foods.f k bt439.1 bt439.2).bind fun bt442 => ((spec_l91Rules.f k bt439.1 bt442.2 bt442.1).bind fun bt446 => (if (bt446.1.length : Int) > 0 then ((spec_l6Rd_pick.f k bt439.1 bt446.2 5).bind fun bt450 => (spec_DrawSwapsFor.j0 k bt442.1 bt446.1 (decide (bt450.1 > 0)) bt439.1 bt450.2)) else (spec_DrawSwapsFor.j0 k bt442.1 bt446.1 false bt439.1 bt446.2))))
theorem spec_DrawSwapsFor.mono_l : ∀ k, (∀ y0 y1 y2 y3 y4, LeO (spec_DrawSwapsFor.j0 k y0 y1 y2 y3 y4) (spec_DrawSwapsFor.j0 (k + 1) y0 y1 y2 y3 y4))
 | 0 => fun _ _ _ _ _ r h => by simp [spec_DrawSwapsFor.j0] at h
 | k + 1 => by
  have ih0 := spec_DrawSwapsFor.mono_l k
  ·intro y0 y1 y2 y3 y4
   unfold spec_DrawSwapsFor.j0
   repeat' first
   | (with_reducible exact ih0 _ _ _ _ _)
   | (with_reducible exact spec_l6Rd_pick.mono _ _ _ _)
   | (with_reducible exact spec_l91Foods.mono _ _ _)
   | (with_reducible exact spec_l91Rules.mono _ _ _ _)
   | (with_reducible exact LeO.refl _)
   | (with_reducible exact LeO.none _)
   | (with_reducible refine LeO.ite ?_ ?_)
   | (with_reducible refine LeO.bind ?_ (fun _ => ?_))
   | exact ih0 _ _ _ _ _
   | exact spec_l6Rd_pick.mono _ _ _ _
   | exact spec_l91Foods.mono _ _ _
   | exact spec_l91Rules.mono _ _ _ _
   | exact LeO.none _
   | refine LeO.ite ?_ ?_
   | refine LeO.bind ?_ (fun _ => ?_)
theorem spec_DrawSwapsFor.mono : ∀ a0 k, LeO (spec_DrawSwapsFor.f k a0) (spec_DrawSwapsFor.f (k + 1) a0) := by
 intro a0 k
 have ih0 := spec_DrawSwapsFor.mono_l k
 unfold spec_DrawSwapsFor.f
 repeat' first
   | (with_reducible exact ih0 _ _ _ _ _)
   | (with_reducible exact spec_l6Rd_pick.mono _ _ _ _)
   | (with_reducible exact spec_l91Foods.mono _ _ _)
   | (with_reducible exact spec_l91Rules.mono _ _ _ _)
   | (with_reducible exact LeO.refl _)
   | (with_reducible exact LeO.none _)
   | (with_reducible refine LeO.ite ?_ ?_)
   | (with_reducible refine LeO.bind ?_ (fun _ => ?_))
   | exact ih0 _ _ _ _ _
   | exact spec_l6Rd_pick.mono _ _ _ _
   | exact spec_l91Foods.mono _ _ _
   | exact spec_l91Rules.mono _ _ _ _
   | exact LeO.none _
   | refine LeO.ite ?_ ?_
   | refine LeO.bind ?_ (fun _ => ?_)
def spec_DrawSwapsFor.T5 : Bool × List (List Nat × List Nat) := (true, [([], []), ([], []), ([], []), ([], []), ([], []), ([4], [4]), ([3, 5], [3, 5]), ([2, 6], [2, 6]), ([7], [7]), ([8], [8]), ([0, 6, 0], [0]), ([1, 10, 0, 1, 10], [1]), ([9, 11, 0, 1, 2, 3, 4, 5, 6, 7, 8, 9, 10, 11], [9])])
def spec_DrawSwapsFor.B5 : List Nat := [0, 0, 0, 0, 0, 16, 56, 124, 252, 508, 121, 1147, 4095]
theorem spec_DrawSwapsFor.tab5 : rtab .any (opsOf Try.f31 5) = spec_DrawSwapsFor.T5 := by kernel_rfl
theorem spec_DrawSwapsFor.bits5 : waitsOk spec_DrawSwapsFor.T5.2 spec_DrawSwapsFor.B5 = true := by kernel_rfl
set_option maxHeartbeats 8000000 in
set_option maxRecDepth 100000 in
theorem spec_DrawSwapsFor.calls (k : Nat) (A0 : Option Addr) (c0 : Nat) (l0 : List Int) (r1 : List (S41)) (r2 : List (S62)) (r3 : Int) (w : World) (hr0 : Kd.C (Kd.int .u8) w A0 l0.length l0) (hc0 : l0.length ≤ c0) (h : spec_DrawSwapsFor.f k l0 = some (r1, r2, r3)) :
  Calls Try.prog 31 #[.slice A0 l0.length c0] w fun e w' => ∃ v0_ v1_ : Value, e = .returned (.tuple #[v0_, v1_, .int .i64 r3]) ∧ Kd.R k41 41 w' w.heap.size (fun _ => True) v0_ r1 ∧ Kd.R k62 62 w' w.heap.size (fun _ => True) v1_ r2 ∧ Below w.heap.size w w' := by
 have HR0 := Aside0.mk hr0
 have HC0 := Aside0.mk hc0
 clear hr0 hc0
 have HB := Aside0.mk (Below.refl w.heap.size w)
 have H : ((spec_l6Open.f l0).bind fun bt439 => ((spec_l91Foods.f k bt439.1 bt439.2).bind fun bt442 => ((spec_l91Rules.f k bt439.1 bt442.2 bt442.1).bind fun bt446 => (if (bt446.1.length : Int) > 0 then ((spec_l6Rd_pick.f k bt439.1 bt446.2 5).bind fun bt450 => (spec_DrawSwapsFor.j0 k bt442.1 bt446.1 (decide (bt450.1 > 0)) bt439.1 bt450.2)) else (spec_DrawSwapsFor.j0 k bt442.1 bt446.1 false bt439.1 bt446.2))))) = some (r1, r2, r3) := h
 clear h
 replace H := Option.bind_eq_some_iff.mp H
 obtain ⟨⟨t439, t440⟩, A20, H⟩ := H
 replace H : ((spec_l91Foods.f k t439 t440).bind fun bt442 => ((spec_l91Rules.f k t439 bt442.2 bt442.1).bind fun bt446 => (if (bt446.1.length : Int) > 0 then ((spec_l6Rd_pick.f k t439 bt446.2 5).bind fun bt450 => (spec_DrawSwapsFor.j0 k bt442.1 bt446.1 (decide (bt450.1 > 0)) t439 bt450.2)) else (spec_DrawSwapsFor.j0 k bt442.1 bt446.1 false t439 bt446.2)))) = some (r1, r2, r3) := H
 have A2 := Aside0.mk A20
 clear A20
 replace H := Option.bind_eq_some_iff.mp H
 obtain ⟨⟨t442, t445⟩, A30, H⟩ := H
 replace H : ((spec_l91Rules.f k t439 t445 t442).bind fun bt446 => (if (bt446.1.length : Int) > 0 then ((spec_l6Rd_pick.f k t439 bt446.2 5).bind fun bt450 => (spec_DrawSwapsFor.j0 k t442 bt446.1 (decide (bt450.1 > 0)) t439 bt450.2)) else (spec_DrawSwapsFor.j0 k t442 bt446.1 false t439 bt446.2))) = some (r1, r2, r3) := H
 have A3 := Aside0.mk A30
 clear A30
 replace H := Option.bind_eq_some_iff.mp H
 obtain ⟨⟨t446, t449⟩, A40, H⟩ := H
 replace H : (if (t446.length : Int) > 0 then ((spec_l6Rd_pick.f k t439 t449 5).bind fun bt450 => (spec_DrawSwapsFor.j0 k t442 t446 (decide (bt450.1 > 0)) t439 bt450.2)) else (spec_DrawSwapsFor.j0 k t442 t446 false t439 t449)) = some (r1, r2, r3) := H
 have A4 := Aside0.mk A40
 clear A40
 have HC5 := Aside0.mk H
 clear H
 go_enter Try.func31, Try.ntmps31
 go_upto_region 4 with (first | ((with_reducible refine gate_callee (f := 48) rfl ?_); refine goesL_ (some 9) rfl rfl Try.func48 pL rfl #[.slice A0 l0.length c0] rfl pM ?_; (with_reducible refine (spec_l6Open.calls _ _ l0 t439 t440 w _ ?side1 ?side2 ?side3 A2.out).mono ?_); (case side1 => exact pB); (case side2 => exact HR0.out); (case side3 => exact HC0.out); rintro e w6 ⟨g441, rfl, hi, hb, hb2⟩; refine ⟨_, rfl, ?_⟩; have n0_ := Aside0.mk (hb); have n1_ := Aside0.mk (hi); clear HB; have HB := n0_; have HI441 := n1_; clear n0_ n1_; (try clear hb); (try clear hb2); (try clear hk); (try clear hi)) | ((with_reducible refine gate_callee (f := 49) rfl ?_); refine goesL_ (some 11) rfl rfl Try.func49 pL rfl #[.pointer (some ⟨g441, 0, none⟩)] rfl pM ?_; (with_reducible refine (spec_l91Foods.calls k g441 t439 t440 t442 t445 w _ ?side1 ?side2 A3.out).mono ?_); (case side1 => repeat (first | (with_reducible first | exact HI441.out | apply IsS85.alloc | apply IsS85.drewN | apply IsS85.drew | apply IsS85.set_1) | exact HI441.out)); (case side2 => repeat (first | (with_reducible first | exact HB.out | apply below_alloc | apply pw_below_drewN | apply below_drew1 | refine below_set ?_ (IsS85.ge HI441.out)) | exact HB.out)); rintro e w7 ⟨v443, rfl, ho0, hi, hb, hk⟩; refine ⟨_, rfl, ?_⟩; have n0_ := Aside0.mk (Kd.R_lower ho0 (below_size (by repeat (first | (with_reducible first | exact HB.out | apply below_alloc | apply pw_below_drewN | apply below_drew1 | refine below_set ?_ (IsS85.ge HI441.out)) | exact HB.out)))); have n1_ := Aside0.mk (hb); have n2_ := Aside0.mk (hi); clear HB; clear HI441; have HO444 := n0_; have HB := n1_; have HI441 := n2_; clear n0_ n1_ n2_; (try clear hb); (try clear hb2); (try clear hk); (try clear hi); (try clear ho0); obtain ⟨Ao8, co8, eo8⟩ := Kd.R_slice HO444.out; subst eo8) | ((with_reducible refine gate_callee (f := 51) rfl ?_); refine goesL_ (some 14) rfl rfl Try.func51 pL rfl #[.pointer (some ⟨g441, 0, none⟩), .slice Ao8 t442.length co8] rfl pM ?_; (with_reducible refine (spec_l91Rules.calls k g441 t439 t445 _ _ t442 t446 t449 w _ ?side1 ?side2 ?side3 ?side4 A4.out).mono ?_); (case side1 => repeat (first | (with_reducible first | exact HI441.out | apply IsS85.alloc | apply IsS85.drewN | apply IsS85.drew | apply IsS85.set_1) | exact HI441.out)); (case side2 => repeat (first | (with_reducible first | exact HB.out | apply below_alloc | apply pw_below_drewN | apply below_drew1 | refine below_set ?_ (IsS85.ge HI441.out)) | exact HB.out)); (case side3 => exact Kd.C_foot_own (IsS85.apart (show IsS85 w _ g441 t439 t445 from by repeat (first | (with_reducible first | exact HI441.out | apply IsS85.alloc | apply IsS85.drewN | apply IsS85.drew | apply IsS85.set_1) | exact HI441.out)) (pR HO444) (by decide)) (fun _ h_ => h_.2)); (case side4 => exact (Kd.R_reads' HO444.out).2.1); rintro e w9 ⟨v447, rfl, ho0, hi, hb, hk⟩; refine ⟨_, rfl, ?_⟩; have n0_ := Aside0.mk (Kd.R_mono (Kd.R_keep (IsS85.apart (show IsS85 w _ g441 t439 t445 from by repeat (first | (with_reducible first | exact HI441.out | apply IsS85.alloc | apply IsS85.drewN | apply IsS85.drew | apply IsS85.set_1) | exact HI441.out)) (pR HO444) (by decide)) hk (fun _ h => h.2)) (fun _ h => h.1)); have n1_ := Aside0.mk (Kd.R_lower ho0 (below_size (by repeat (first | (with_reducible first | exact HB.out | apply below_alloc | apply pw_below_drewN | apply below_drew1 | refine below_set ?_ (IsS85.ge HI441.out)) | exact HB.out)))); have n2_ := Aside0.mk (hb); have n3_ := Aside0.mk (hi); clear HO444; clear HB; clear HI441; have HO444 := n0_; have HO448 := n1_; have HB := n2_; have HI441 := n3_; clear n0_ n1_ n2_ n3_; (try clear hb); (try clear hb2); (try clear hk); (try clear hi); (try clear ho0)))
 (try simp only [Act.put, List.setIfInBounds_toArray, List.set_cons_zero, List.set_cons_succ])
 go_cut [22] (fun v22 wc => ∃ (kq : Nat) (x22_4 : Bool) (x442001_4 : Int), v22 = .bool x22_4 ∧ Aside0 (spec_DrawSwapsFor.j0 kq t442 t446 x22_4 t439 x442001_4 = some (r1, r2, r3)) ∧ Aside0 (kq ≤ k) ∧ Aside0 (Kd.R k62 62 wc w.heap.size (fun _ => True) (.slice Ao8 t442.length co8) t442) ∧ Aside0 (Kd.R k41 41 wc w.heap.size (fun _ => True) v447 t446) ∧ Aside0 (IsS85 w wc g441 t439 x442001_4) ∧ Aside0 (Below w.heap.size w wc))
 case first =>
  have H := HC5.out
  clear HC5
  by_cases c10 : (t446.length : Int) > 0
  ·rw [if_pos c10] at H
   have c10b0 : decide (0 < (t446.length : Int)) = true := decide_eq_true c10
   have c10b1 : decide (0 < t446.length) = true := decide_eq_true (by omega)
   clear c10
   (first | rw [c10b0] | (simp only [i64_w, i32_w]; rw [c10b0]) | skip)
   replace H := Option.bind_eq_some_iff.mp H
   obtain ⟨⟨t450, t451⟩, A110, H⟩ := H
   replace H : (spec_DrawSwapsFor.j0 k t442 t446 (decide (t450 > 0)) t439 t451) = some (r1, r2, r3) := H
   have A11 := Aside0.mk A110
   clear A110
   have H' := Aside0.mk H
   clear H
   obtain ⟨Ao12, co12, eo12⟩ := Kd.R_slice HO448.out
   subst eo12
   go_wp2_with (first | (go_at_call 62; (with_reducible refine (spec_l6Rd_pick.calls k g441 t439 t449 5 t450 t451 w _ ?side1 ?side2 A11.out).mono ?_); (case side1 => repeat (first | (with_reducible first | exact HI441.out | apply IsS85.alloc | apply IsS85.drewN | apply IsS85.drew | apply IsS85.set_1) | exact HI441.out)); (case side2 => repeat (first | (with_reducible first | exact HB.out | apply below_alloc | apply pw_below_drewN | apply below_drew1 | refine below_set ?_ (IsS85.ge HI441.out)) | exact HB.out)); rintro e w13 ⟨rfl, hi, hb, hk⟩; have n0_ := Aside0.mk (Kd.R_mono (Kd.R_keep (IsS85.apart (show IsS85 w _ g441 t439 t449 from by repeat (first | (with_reducible first | exact HI441.out | apply IsS85.alloc | apply IsS85.drewN | apply IsS85.drew | apply IsS85.set_1) | exact HI441.out)) (pR HO444) (by decide)) hk (fun _ h => h.2)) (fun _ h => h.1)); have n1_ := Aside0.mk (Kd.R_mono (Kd.R_keep (IsS85.apart (show IsS85 w _ g441 t439 t449 from by repeat (first | (with_reducible first | exact HI441.out | apply IsS85.alloc | apply IsS85.drewN | apply IsS85.drew | apply IsS85.set_1) | exact HI441.out)) (pR HO448) (by decide)) hk (fun _ h => h.2)) (fun _ h => h.1)); have n2_ := Aside0.mk (hb); have n3_ := Aside0.mk (hi); clear HO444; clear HO448; clear HB; clear HI441; have HO444 := n0_; have HO448 := n1_; have HB := n2_; have HI441 := n3_; clear n0_ n1_ n2_ n3_; (try clear hb); (try clear hb2); (try clear hk); (try clear hi)))
   go_meet
   case rel => exact ⟨_, (decide (t450 > 0)), (t451), pF, H', ⟨by first | omega | exact Nat.le_refl _⟩, ⟨pR HO444⟩, ⟨pR HO448⟩, ⟨by repeat (first | (with_reducible first | exact HI441.out | apply IsS85.alloc | apply IsS85.drewN | apply IsS85.drew | apply IsS85.set_1) | exact HI441.out)⟩, ⟨by repeat (first | (with_reducible first | exact HB.out | apply below_alloc | apply pw_below_drewN | apply below_drew1 | refine below_set ?_ (IsS85.ge HI441.out)) | exact HB.out)⟩⟩
  ·rw [if_neg c10] at H
   have c10b0 : decide (0 < (t446.length : Int)) = false := decide_eq_false c10
   have c10b1 : decide (0 < t446.length) = false := decide_eq_false (by omega)
   clear c10
   (first | rw [c10b0] | (simp only [i64_w, i32_w]; rw [c10b0]) | skip)
   have H' := Aside0.mk H
   clear H
   obtain ⟨Ao14, co14, eo14⟩ := Kd.R_slice HO448.out
   subst eo14
   go_wp2
   go_meet
   case rel => exact ⟨_, (false), (t449), pF, H', ⟨by first | omega | exact Nat.le_refl _⟩, ⟨pR HO444⟩, ⟨pR HO448⟩, ⟨by repeat (first | (with_reducible first | exact HI441.out | apply IsS85.alloc | apply IsS85.drewN | apply IsS85.drew | apply IsS85.set_1) | exact HI441.out)⟩, ⟨by repeat (first | (with_reducible first | exact HB.out | apply below_alloc | apply pw_below_drewN | apply below_drew1 | refine below_set ?_ (IsS85.ge HI441.out)) | exact HB.out)⟩⟩
 case rest =>
  clear HC5
  try clear c1
  try clear p2
  try clear c3
  try clear c4
  try clear c5
  try clear c10
  try clear c10b0
  try clear c10b1
  obtain ⟨kq, x22_4, x442001_4, rfl, HA, HJ4, HO_6, HO_7, HI441, HB⟩ := hcut
  cases kq with
  | zero => exact absurd HA.out (by simp [spec_DrawSwapsFor.j0])
  | succ kj4 =>
   have H := HA.out
   clear HA
   simp only [spec_DrawSwapsFor.j0] at H
   by_cases c15 : x22_4 = true
   ·subst c15
    have H1 : ((spec_l6Rd_pick.f kj4 t439 x442001_4 (t446.length : Int)).bind fun bt452 => (if 0 ≤ bt452.1 then (if bt452.1 < (t446.length : Int) then (some (t446, t442, (rd_T41 t446 bt452.1).f0)) else (none)) else (none))) = some (r1, r2, r3) := by rw [if_pos rfl] at H; exact H
    clear H
    have H := H1
    clear H1
    replace H := Option.bind_eq_some_iff.mp H
    obtain ⟨⟨t452, t453⟩, A160, H⟩ := H
    replace H : (if 0 ≤ t452 then (if t452 < (t446.length : Int) then (some (t446, t442, (rd_T41 t446 t452).f0)) else (none)) else (none)) = some (r1, r2, r3) := H
    have A16 := Aside0.mk A160
    clear A160
    by_cases c17 : 0 ≤ t452
    ·rw [if_pos c17] at H
     have c17b0 : decide (0 ≤ t452) = true := decide_eq_true c17
     clear c17
     by_cases c18 : t452 < (t446.length : Int)
     ·rw [if_pos c18] at H
      have c18b0 : decide (t452 < (t446.length : Int)) = true := decide_eq_true c18
      clear c18
      simp only [Option.some.injEq, Prod.mk.injEq] at H
      obtain ⟨rfl, rfl, rfl⟩ := H
      try go_wp2
      have n0_ := Aside0.mk (Kd.R_drew HO_6.out)
      have n1_ := Aside0.mk (Kd.R_drew HO_7.out)
      have n2_ := Aside0.mk (IsS85.drew HI441.out)
      have n3_ := Aside0.mk (below_drew1 HB.out)
      clear HO_6
      clear HO_7
      clear HI441
      clear HB
      have HO_6 := n0_
      have HO_7 := n1_
      have HI441 := n2_
      have HB := n3_
      clear n0_ n1_ n2_ n3_
      obtain ⟨Ao20, co20, eo20⟩ := Kd.R_slice HO_7.out
      (first | subst eo20 | (injection eo20 with f1_ f2_ f3_; have f4_ := f1_.symm; have f5_ := f3_.symm; clear f1_ f2_ f3_; subst f4_; subst f5_))
      have p454 : 0 ≤ (t452 : Int) := of_decide_eq_true pA
      have q454 : t452 < (t446.length : Int) := of_decide_eq_true pA
      obtain ⟨ad454, e454, hx454_0, hx454_1, hx454_2, hx454_3⟩ := at_T41 (Kd.R_reads' HO_7.out).2.2 t452 p454 q454
      cases e454
      replace p454 := eq_true p454
      replace q454 := eq_true q454
      refine start_ (n := 13) (S := fun w' => w'.cell? (ad454.add ((t452).toNat * 4)) = some (.int .i64 ((rd_T41 t446 t452).f0)) ∧ w'.cell? ⟨(ad454.add ((t452).toNat * 4)).block, (ad454.add ((t452).toNat * 4)).off + 1, none⟩ = some (.int .i64 ((rd_T41 t446 t452).f1)) ∧ w'.cell? ⟨(ad454.add ((t452).toNat * 4)).block, (ad454.add ((t452).toNat * 4)).off + 2, none⟩ = some (.int .i64 ((rd_T41 t446 t452).f2)) ∧ w'.cell? ⟨(ad454.add ((t452).toNat * 4)).block, (ad454.add ((t452).toNat * 4)).off + 3, none⟩ = some (.int .i64 ((rd_T41 t446 t452).f3))) (ds := []) #[false, false, false, false, false, false, false, false, false, false, false, false, false] pL rfl rfl ⟨hx454_0, hx454_1, hx454_2, hx454_3⟩ (fun hHeld => ?_); refine with_tabW spec_DrawSwapsFor.tab5 spec_DrawSwapsFor.bits5 (fun HT_ HW_ => ?_)
      generalize wc.drew = w19 at HO_6 HO_7 HI441 HB hx454_0 hx454_1 hx454_2 hx454_3 hHeld ⊢
      refine pure_ (i := 0) (N := some 23) (v := ?_) (a' := ?_) #[true, false, false, false, false, false, false, false, false, false, false, false, false] rfl rfl (any_of HT_.out pL) (fun _ _ _ h => h) (Or.inl ⟨by rfl, ?_⟩) ?_ ?_
      rotate_left
      ·intro w'
       go_simp
       with_reducible rfl
      rotate_left
      ·exact pP
      refine pure_ (i := 1) (N := some 24) (v := ?_) (a' := ?_) #[true, true, false, false, false, false, false, false, false, false, false, false, false] rfl rfl (any_of HT_.out pL) (fun _ _ _ h => h) (Or.inl ⟨by rfl, ?_⟩) ?_ ?_
      rotate_left
      ·intro w'
       go_simp
       with_reducible rfl
      rotate_left
      ·exact pP
      refine pure_ (i := 2) (N := some 25) (v := ?_) (a' := ?_) #[true, true, true, false, false, false, false, false, false, false, false, false, false] rfl rfl (any_of HT_.out pL) (fun _ _ _ h => h) (Or.inl ⟨by rfl, ?_⟩) ?_ ?_
      rotate_left
      ·intro w'
       go_simp
       with_reducible rfl
      rotate_left
      ·exact pP
      refine pure_ (i := 3) (N := some 26) (v := ?_) (a' := ?_) #[true, true, true, true, false, false, false, false, false, false, false, false, false] rfl rfl (any_of HT_.out pL) (fun _ _ _ h => h) (Or.inl ⟨by rfl, ?_⟩) ?_ ?_
      rotate_left
      ·intro w'
       go_simp
       with_reducible rfl
      rotate_left
      ·exact pP
      refine pure_ (i := 4) (N := some 27) (v := ?_) (a' := ?_) #[true, true, true, true, true, false, false, false, false, false, false, false, false] rfl rfl (any_of HT_.out pL) (fun _ _ _ h => h) (Or.inl ⟨by rfl, ?_⟩) ?_ ?_
      rotate_left
      ·intro w'
       go_simp
       with_reducible rfl
      rotate_left
      ·exact pP
      refine pure_ (i := 5) (N := some 28) (v := ?_) (a' := ?_) #[true, true, true, true, true, true, false, false, false, false, false, false, false] rfl rfl (any_of HT_.out pL) (fun _ _ _ h => h) (Or.inl ⟨by rfl, ?_⟩) ?_ ?_
      rotate_left
      ·intro w'
       go_simp
       with_reducible rfl
      rotate_left
      ·exact pP
      refine one_ (i := 6) (N := some 29) #[true, true, true, true, true, true, true, false, false, false, false, false, false] rfl rfl (one_of HT_.out pL) (by decide) (fun K hK => ?_)
      refine goes_ Try.func62 pL rfl #[.pointer (some ⟨g441, 0, none⟩), .int .i64 (t446.length : Int)] (by rfl) rfl rfl pM ?_
      with_reducible refine (spec_l6Rd_pick.calls kj4 g441 t439 x442001_4 (t446.length : Int) t452 t453 w _ ?side1 ?side2 A16.out).mono ?_
      (case side1 => repeat (first | (with_reducible first | exact HI441.out | apply IsS85.alloc | apply IsS85.drewN | apply IsS85.drew | apply IsS85.set_1) | exact HI441.out))
      (case side2 => repeat (first | (with_reducible first | exact HB.out | apply below_alloc | apply pw_below_drewN | apply below_drew1 | refine below_set ?_ (IsS85.ge HI441.out)) | exact HB.out))
      rintro e w21 ⟨rfl, hi, hb, hk⟩
      have HS0_ := keep_cell hk (hHeld.1) (by first | (rw [add_block]; exact Kd.own_blk (IsS85.own_ne HI441.out HO_7.out (by decide))) | (show (Addr.add _ _).block ≠ _; rw [add_block]; exact Kd.own_blk (IsS85.own_ne HI441.out HO_7.out (by decide))) | exact Kd.own_blk (IsS85.own_ne HI441.out HO_7.out (by decide)))
      have HS1_ := keep_cell hk (hHeld.2.1) (by first | (rw [add_block]; exact Kd.own_blk (IsS85.own_ne HI441.out HO_7.out (by decide))) | (show (Addr.add _ _).block ≠ _; rw [add_block]; exact Kd.own_blk (IsS85.own_ne HI441.out HO_7.out (by decide))) | exact Kd.own_blk (IsS85.own_ne HI441.out HO_7.out (by decide)))
      have HS2_ := keep_cell hk (hHeld.2.2.1) (by first | (rw [add_block]; exact Kd.own_blk (IsS85.own_ne HI441.out HO_7.out (by decide))) | (show (Addr.add _ _).block ≠ _; rw [add_block]; exact Kd.own_blk (IsS85.own_ne HI441.out HO_7.out (by decide))) | exact Kd.own_blk (IsS85.own_ne HI441.out HO_7.out (by decide)))
      have HS3_ := keep_cell hk (hHeld.2.2.2) (by first | (rw [add_block]; exact Kd.own_blk (IsS85.own_ne HI441.out HO_7.out (by decide))) | (show (Addr.add _ _).block ≠ _; rw [add_block]; exact Kd.own_blk (IsS85.own_ne HI441.out HO_7.out (by decide))) | exact Kd.own_blk (IsS85.own_ne HI441.out HO_7.out (by decide)))
      refine ⟨_, rfl, ?_⟩
      have n0_ := Aside0.mk (Kd.R_mono (Kd.R_keep (IsS85.apart (show IsS85 w _ g441 t439 x442001_4 from by repeat (first | (with_reducible first | exact HI441.out | apply IsS85.alloc | apply IsS85.drewN | apply IsS85.drew | apply IsS85.set_1) | exact HI441.out)) (pR HO_6) (by decide)) hk (fun _ h => h.2)) (fun _ h => h.1))
      have n1_ := Aside0.mk (Kd.R_mono (Kd.R_keep (IsS85.apart (show IsS85 w _ g441 t439 x442001_4 from by repeat (first | (with_reducible first | exact HI441.out | apply IsS85.alloc | apply IsS85.drewN | apply IsS85.drew | apply IsS85.set_1) | exact HI441.out)) (pR HO_7) (by decide)) hk (fun _ h => h.2)) (fun _ h => h.1))
      have n2_ := Aside0.mk (hb)
      have n3_ := Aside0.mk (hi)
      clear HO_6
      clear HO_7
      clear HB
      clear HI441
      have HO_6 := n0_
      have HO_7 := n1_
      have HB := n2_
      have HI441 := n3_
      clear n0_ n1_ n2_ n3_
      (try clear hb)
      (try clear hb2)
      (try clear hk)
      (try clear hi)
      refine hK.out _ _ ⟨HS0_, HS1_, HS2_, HS3_⟩ (fun hHeld => ?_)
      clear hK K
      refine norm_ (a' := ?_) ?_ ?_
      rotate_left
      ·show Act.put _ (some 29) _ = _
       exact pP
      refine pure_ (i := 7) (N := some 30) (v := ?_) (a' := ?_) #[true, true, true, true, true, true, true, true, false, false, false, false, false] rfl rfl (any_of HT_.out pL) (fun _ _ _ h => h) (Or.inl ⟨by rfl, ?_⟩) ?_ ?_
      rotate_left
      ·intro w'
       go_simp
       with_reducible rfl
      rotate_left
      ·exact pP
      refine pure_ (i := 8) (N := some 31) (v := ?_) (a' := ?_) #[true, true, true, true, true, true, true, true, true, false, false, false, false] rfl rfl (any_of HT_.out pL) (fun _ _ _ h => h) (Or.inl ⟨by rfl, ?_⟩) ?_ ?_
      rotate_left
      ·intro w'
       go_simp
       with_reducible rfl
      rotate_left
      ·exact pP
      refine pure_ (i := 10) (N := some 2) (v := ?_) (a' := ?_) #[true, true, true, true, true, true, true, true, true, false, true, false, false] rfl rfl (any_of HT_.out pL) (fun _ _ _ h => h) (Or.inl ⟨by rfl, ?_⟩) ?_ ?_
      rotate_left
      ·intro w'
       go_simp
       with_reducible rfl
      rotate_left
      ·exact pP
      refine pure_ (i := 11) (N := some 3) (v := ?_) (a' := ?_) #[true, true, true, true, true, true, true, true, true, false, true, true, false] rfl rfl (any_of HT_.out pL) (fun _ _ _ h => h) (Or.inl ⟨by rfl, ?_⟩) ?_ ?_
      rotate_left
      ·intro w'
       go_simp
       with_reducible rfl
      rotate_left
      ·exact pP
      refine take_ (i := 9) (N := some 32) (v := ?_) (a' := ?_) #[true, true, true, true, true, true, true, true, true, true, true, true, false] rfl rfl (take_ofW HT_.out HW_.out pL) (fun _ _ _ h => h) (Or.inl ⟨by rfl, ?_⟩) hHeld ?_ ?_
      rotate_left
      ·rintro w' ⟨s0, s1, s2, s3⟩
       go_simp
       with_reducible rfl
      rotate_left
      ·exact pP
      refine pure_ (i := 12) (N := some 4) (v := ?_) (a' := ?_) #[true, true, true, true, true, true, true, true, true, true, true, true, true] rfl rfl (any_of HT_.out pL) (fun _ _ _ h => h) (Or.inl ⟨by rfl, ?_⟩) ?_ ?_
      rotate_left
      ·intro w'
       go_simp
       with_reducible rfl
      rotate_left
      ·exact pP
      refine done_ (done_of HT_.out pL) ?_
      try go_wp2
      go_ret3
      exact ⟨_, _, pE, pR HO_7, pR HO_6, by repeat (first | (with_reducible first | exact HB.out | apply below_alloc | apply pw_below_drewN | apply below_drew1 | refine below_set ?_ (IsS85.ge HI441.out)) | exact HB.out)⟩
     ·rw [if_neg c18] at H
      exact absurd H (by simp)
    ·rw [if_neg c17] at H
     exact absurd H (by simp)
   ·replace c15 := Bool.eq_false_iff.mpr c15
    subst c15
    have H1 : ((spec_l6Rd_pick.f kj4 t439 x442001_4 10).bind fun bt455 => (some (t446, t442, bt455.1))) = some (r1, r2, r3) := by rw [if_neg (show ¬ (false = true) by decide)] at H; exact H
    clear H
    have H := H1
    clear H1
    replace H := Option.bind_eq_some_iff.mp H
    obtain ⟨⟨t455, t456⟩, A220, H⟩ := H
    replace H : (some (t446, t442, t455)) = some (r1, r2, r3) := H
    have A22 := Aside0.mk A220
    clear A220
    simp only [Option.some.injEq, Prod.mk.injEq] at H
    obtain ⟨rfl, rfl, rfl⟩ := H
    go_wp2_with (first | ((with_reducible refine gate_callee (f := 62) rfl ?_); refine goesL_ (some 36) rfl rfl Try.func62 pL rfl #[.pointer (some ⟨g441, 0, none⟩), .int .i64 10] rfl pM ?_; (with_reducible refine (spec_l6Rd_pick.calls kj4 g441 t439 x442001_4 10 t455 t456 w _ ?side1 ?side2 A22.out).mono ?_); (case side1 => repeat (first | (with_reducible first | exact HI441.out | apply IsS85.alloc | apply IsS85.drewN | apply IsS85.drew | apply IsS85.set_1) | exact HI441.out)); (case side2 => repeat (first | (with_reducible first | exact HB.out | apply below_alloc | apply pw_below_drewN | apply below_drew1 | refine below_set ?_ (IsS85.ge HI441.out)) | exact HB.out)); rintro e w23 ⟨rfl, hi, hb, hk⟩; refine ⟨_, rfl, ?_⟩; have n0_ := Aside0.mk (Kd.R_mono (Kd.R_keep (IsS85.apart (show IsS85 w _ g441 t439 x442001_4 from by repeat (first | (with_reducible first | exact HI441.out | apply IsS85.alloc | apply IsS85.drewN | apply IsS85.drew | apply IsS85.set_1) | exact HI441.out)) (pR HO_6) (by decide)) hk (fun _ h => h.2)) (fun _ h => h.1)); have n1_ := Aside0.mk (Kd.R_mono (Kd.R_keep (IsS85.apart (show IsS85 w _ g441 t439 x442001_4 from by repeat (first | (with_reducible first | exact HI441.out | apply IsS85.alloc | apply IsS85.drewN | apply IsS85.drew | apply IsS85.set_1) | exact HI441.out)) (pR HO_7) (by decide)) hk (fun _ h => h.2)) (fun _ h => h.1)); have n2_ := Aside0.mk (hb); have n3_ := Aside0.mk (hi); clear HO_6; clear HO_7; clear HB; clear HI441; have HO_6 := n0_; have HO_7 := n1_; have HB := n2_; have HI441 := n3_; clear n0_ n1_ n2_ n3_; (try clear hb); (try clear hb2); (try clear hk); (try clear hi)))
    go_ret3
    exact ⟨_, _, pE, pR HO_7, pR HO_6, by repeat (first | (with_reducible first | exact HB.out | apply below_alloc | apply pw_below_drewN | apply below_drew1 | refine below_set ?_ (IsS85.ge HI441.out)) | exact HB.out)⟩

/-! ### laws_FnSwapsFor: function 8 -/
mutual
def laws_FnSwapsFor.j0 : Nat → List (S41) → Int → List Int → List Int → Bool → Option (Bool)
 | 0, _, _, _, _, _ => none
 | k + 1, x3, x5, x6, x7, x35 => if x35 = true then ((laws_sameInts.f k x6 x7).bind fun t492 => (some t492)) else (laws_FnSwapsFor.l0 k x3 x5 x6 0)
def laws_FnSwapsFor.l0 : Nat → List (S41) → Int → List Int → Int → Option (Bool)
 | 0, _, _, _, _ => none
 | k + 1, x3, x5, x6, x8 => if x8 < (x3.length : Int) then ((laws_hasInt.f k x6 x8).bind fun t493 => (if 0 ≤ x8 then (if (t493 != (((rd_T41 x3 x8).f0) == x5)) = true then (some false) else (laws_FnSwapsFor.l0 k x3 x5 x6 (wrap64 (x8 + 1)))) else (none))) else (some (decide ((x6.length : Int) ≤ (x3.length : Int))))
end
def laws_FnSwapsFor.f (k : Nat) (l0 : List Int) : Option (Bool) := if (l0.length : Int) > 1048576 then (some true) else ((spec_DrawSwapsFor.f k l0).bind fun bt477 => ((impl_SwapsFor.f k bt477.1 bt477.2.1 bt477.2.2).bind fun t484 => ((spec_SwapsFor.f k bt477.1 bt477.2.1 bt477.2.2).bind fun t487 => ((laws_sameInts.f k t484 t487).bind fun t490 => (if t490 = true then ((spec_SwapsValid.f k bt477.1 bt477.2.1).bind fun t491 => (laws_FnSwapsFor.j0 k bt477.1 bt477.2.2 t484 t487 (!t491))) else (laws_FnSwapsFor.j0 k bt477.1 bt477.2.2 t484 t487 true))))))
theorem laws_FnSwapsFor.mono_l : ∀ k, (∀ y0 y1 y2 y3 y4, LeO (laws_FnSwapsFor.j0 k y0 y1 y2 y3 y4) (laws_FnSwapsFor.j0 (k + 1) y0 y1 y2 y3 y4)) ∧ (∀ y0 y1 y2 y3, LeO (laws_FnSwapsFor.l0 k y0 y1 y2 y3) (laws_FnSwapsFor.l0 (k + 1) y0 y1 y2 y3))
 | 0 => ⟨fun _ _ _ _ _ r h => by simp [laws_FnSwapsFor.j0] at h, fun _ _ _ _ r h => by simp [laws_FnSwapsFor.l0] at h⟩
 | k + 1 => by
  obtain ⟨ih0, ih1⟩ := laws_FnSwapsFor.mono_l k
  refine ⟨?_, ?_⟩
  ·intro y0 y1 y2 y3 y4
   unfold laws_FnSwapsFor.j0
   repeat' first
   | (with_reducible exact ih0 _ _ _ _ _)
   | (with_reducible exact ih1 _ _ _ _)
   | (with_reducible exact impl_SwapsFor.mono _ _ _ _)
   | (with_reducible exact laws_hasInt.mono _ _ _)
   | (with_reducible exact laws_sameInts.mono _ _ _)
   | (with_reducible exact spec_DrawSwapsFor.mono _ _)
   | (with_reducible exact spec_SwapsFor.mono _ _ _ _)
   | (with_reducible exact spec_SwapsValid.mono _ _ _)
   | (with_reducible exact LeO.refl _)
   | (with_reducible exact LeO.none _)
   | (with_reducible refine LeO.ite ?_ ?_)
   | (with_reducible refine LeO.bind ?_ (fun _ => ?_))
   | exact ih0 _ _ _ _ _
   | exact ih1 _ _ _ _
   | exact impl_SwapsFor.mono _ _ _ _
   | exact laws_hasInt.mono _ _ _
   | exact laws_sameInts.mono _ _ _
   | exact spec_DrawSwapsFor.mono _ _
   | exact spec_SwapsFor.mono _ _ _ _
   | exact spec_SwapsValid.mono _ _ _
   | exact LeO.none _
   | refine LeO.ite ?_ ?_
   | refine LeO.bind ?_ (fun _ => ?_)
  ·intro y0 y1 y2 y3
   unfold laws_FnSwapsFor.l0
   repeat' first
   | (with_reducible exact ih0 _ _ _ _ _)
   | (with_reducible exact ih1 _ _ _ _)
   | (with_reducible exact impl_SwapsFor.mono _ _ _ _)
   | (with_reducible exact laws_hasInt.mono _ _ _)
   | (with_reducible exact laws_sameInts.mono _ _ _)
   | (with_reducible exact spec_DrawSwapsFor.mono _ _)
   | (with_reducible exact spec_SwapsFor.mono _ _ _ _)
   | (with_reducible exact spec_SwapsValid.mono _ _ _)
   | (with_reducible exact LeO.refl _)
   | (with_reducible exact LeO.none _)
   | (with_reducible refine LeO.ite ?_ ?_)
   | (with_reducible refine LeO.bind ?_ (fun _ => ?_))
   | exact ih0 _ _ _ _ _
   | exact ih1 _ _ _ _
   | exact impl_SwapsFor.mono _ _ _ _
   | exact laws_hasInt.mono _ _ _
   | exact laws_sameInts.mono _ _ _
   | exact spec_DrawSwapsFor.mono _ _
   | exact spec_SwapsFor.mono _ _ _ _
   | exact spec_SwapsValid.mono _ _ _
   | exact LeO.none _
   | refine LeO.ite ?_ ?_
   | refine LeO.bind ?_ (fun _ => ?_)
theorem laws_FnSwapsFor.mono : ∀ a0 k, LeO (laws_FnSwapsFor.f k a0) (laws_FnSwapsFor.f (k + 1) a0) := by
 intro a0 k
 obtain ⟨ih0, ih1⟩ := laws_FnSwapsFor.mono_l k
 unfold laws_FnSwapsFor.f
 repeat' first
   | (with_reducible exact ih0 _ _ _ _ _)
   | (with_reducible exact ih1 _ _ _ _)
   | (with_reducible exact impl_SwapsFor.mono _ _ _ _)
   | (with_reducible exact laws_hasInt.mono _ _ _)
   | (with_reducible exact laws_sameInts.mono _ _ _)
   | (with_reducible exact spec_DrawSwapsFor.mono _ _)
   | (with_reducible exact spec_SwapsFor.mono _ _ _ _)
   | (with_reducible exact spec_SwapsValid.mono _ _ _)
   | (with_reducible exact LeO.refl _)
   | (with_reducible exact LeO.none _)
   | (with_reducible refine LeO.ite ?_ ?_)
   | (with_reducible refine LeO.bind ?_ (fun _ => ?_))
   | exact ih0 _ _ _ _ _
   | exact ih1 _ _ _ _
   | exact impl_SwapsFor.mono _ _ _ _
   | exact laws_hasInt.mono _ _ _
   | exact laws_sameInts.mono _ _ _
   | exact spec_DrawSwapsFor.mono _ _
   | exact spec_SwapsFor.mono _ _ _ _
   | exact spec_SwapsValid.mono _ _ _
   | exact LeO.none _
   | refine LeO.ite ?_ ?_
   | refine LeO.bind ?_ (fun _ => ?_)
set_option maxHeartbeats 8000000 in
set_option maxRecDepth 100000 in
theorem laws_FnSwapsFor.calls (k : Nat) (A0 : Option Addr) (c0 : Nat) (l0 : List Int) (r : Bool) (w : World) (hr0 : Kd.C (Kd.int .u8) w A0 l0.length l0) (hc0 : l0.length ≤ c0) (h : laws_FnSwapsFor.f k l0 = some r) :
  Calls Try.prog 8 #[.slice A0 l0.length c0] w fun e w' => e = .returned (.bool r) ∧ Below w.heap.size w w' := by
 have HR0 := Aside0.mk hr0
 have HC0 := Aside0.mk hc0
 clear hr0 hc0
 have HB := Aside0.mk (Below.refl w.heap.size w)
 have H : (if (l0.length : Int) > 1048576 then (some true) else ((spec_DrawSwapsFor.f k l0).bind fun bt477 => ((impl_SwapsFor.f k bt477.1 bt477.2.1 bt477.2.2).bind fun t484 => ((spec_SwapsFor.f k bt477.1 bt477.2.1 bt477.2.2).bind fun t487 => ((laws_sameInts.f k t484 t487).bind fun t490 => (if t490 = true then ((spec_SwapsValid.f k bt477.1 bt477.2.1).bind fun t491 => (laws_FnSwapsFor.j0 k bt477.1 bt477.2.2 t484 t487 (!t491))) else (laws_FnSwapsFor.j0 k bt477.1 bt477.2.2 t484 t487 true))))))) = some r := h
 clear h
 by_cases c2 : (l0.length : Int) > 1048576
 ·rw [if_pos c2] at H
  have c2b0 : decide (1048576 < (l0.length : Int)) = true := decide_eq_true c2
  have c2b1 : decide (1048576 < l0.length) = true := decide_eq_true (by omega)
  clear c2
  obtain rfl := Option.some.inj H
  go_enter Try.func8, Try.ntmps8
  go_wp2
  repeat (go_quiet (fail); try go_wp2)
  go_ret
  exact ⟨pE, pB⟩
 ·rw [if_neg c2] at H
  have c2b0 : decide (1048576 < (l0.length : Int)) = false := decide_eq_false c2
  have c2b1 : decide (1048576 < l0.length) = false := decide_eq_false (by omega)
  clear c2
  replace H := Option.bind_eq_some_iff.mp H
  obtain ⟨⟨t477, t478, t479⟩, A30, H⟩ := H
  replace H : ((impl_SwapsFor.f k t477 t478 t479).bind fun t484 => ((spec_SwapsFor.f k t477 t478 t479).bind fun t487 => ((laws_sameInts.f k t484 t487).bind fun t490 => (if t490 = true then ((spec_SwapsValid.f k t477 t478).bind fun t491 => (laws_FnSwapsFor.j0 k t477 t479 t484 t487 (!t491))) else (laws_FnSwapsFor.j0 k t477 t479 t484 t487 true))))) = some r := H
  have A3 := Aside0.mk A30
  clear A30
  replace H := Option.bind_eq_some_iff.mp H
  obtain ⟨t484, A40, H⟩ := H
  replace H : ((spec_SwapsFor.f k t477 t478 t479).bind fun t487 => ((laws_sameInts.f k t484 t487).bind fun t490 => (if t490 = true then ((spec_SwapsValid.f k t477 t478).bind fun t491 => (laws_FnSwapsFor.j0 k t477 t479 t484 t487 (!t491))) else (laws_FnSwapsFor.j0 k t477 t479 t484 t487 true)))) = some r := H
  have A4 := Aside0.mk A40
  clear A40
  replace H := Option.bind_eq_some_iff.mp H
  obtain ⟨t487, A50, H⟩ := H
  replace H : ((laws_sameInts.f k t484 t487).bind fun t490 => (if t490 = true then ((spec_SwapsValid.f k t477 t478).bind fun t491 => (laws_FnSwapsFor.j0 k t477 t479 t484 t487 (!t491))) else (laws_FnSwapsFor.j0 k t477 t479 t484 t487 true))) = some r := H
  have A5 := Aside0.mk A50
  clear A50
  have HC6 := Aside0.mk H
  clear H
  go_enter Try.func8, Try.ntmps8
  go_upto_region 6 with (first | (go_at_call 31; (with_reducible refine (spec_DrawSwapsFor.calls k _ _ l0 t477 t478 t479 _ ?side1 ?side2 A3.out).mono ?_); (case side1 => exact pS (HR0.out)); (case side2 => exact HC0.out); rintro e w7 ⟨v480, v482, rfl, ho0, ho1, hb⟩; have n0_ := Aside0.mk (Kd.R_lower ho0 (below_size pB)); have n1_ := Aside0.mk (Kd.R_lower ho1 (below_size pB)); have n2_ := Aside0.mk (below_step pB hb); clear HB; have HO481 := n0_; have HO483 := n1_; have HB := n2_; clear n0_ n1_ n2_; (try clear hb); (try clear hb2); (try clear hk); (try clear hi); (try clear ho0); (try clear ho1); obtain ⟨Ao8, co8, eo8⟩ := Kd.R_slice HO481.out; subst eo8; obtain ⟨Ao9, co9, eo9⟩ := Kd.R_slice HO483.out; subst eo9) | (go_at_call 32; (with_reducible refine (impl_SwapsFor.calls k _ _ t477 _ _ t478 t479 t484 _ ?side1 ?side2 ?side3 ?side4 A4.out).mono ?_); (case side1 => exact pS ((Kd.R_reads' HO481.out).2.2)); (case side2 => exact (Kd.R_reads' HO481.out).2.1); (case side3 => exact pS ((Kd.R_reads' HO483.out).2.2)); (case side4 => exact (Kd.R_reads' HO483.out).2.1); rintro e w10 ⟨v485, rfl, ho0, hb⟩; have n0_ := Aside0.mk (Kd.R_below (pR HO481) hb); have n1_ := Aside0.mk (Kd.R_below (pR HO483) hb); have n2_ := Aside0.mk (Kd.R_lower ho0 (below_size pB)); have n3_ := Aside0.mk (below_step pB hb); clear HO481; clear HO483; clear HB; have HO481 := n0_; have HO483 := n1_; have HO486 := n2_; have HB := n3_; clear n0_ n1_ n2_ n3_; (try clear hb); (try clear hb2); (try clear hk); (try clear hi); (try clear ho0)) | (go_at_call 33; (with_reducible refine (spec_SwapsFor.calls k _ _ t477 _ _ t478 t479 t487 _ ?side1 ?side2 ?side3 ?side4 A5.out).mono ?_); (case side1 => exact pS ((Kd.R_reads' HO481.out).2.2)); (case side2 => exact (Kd.R_reads' HO481.out).2.1); (case side3 => exact pS ((Kd.R_reads' HO483.out).2.2)); (case side4 => exact (Kd.R_reads' HO483.out).2.1); rintro e w11 ⟨v488, rfl, ho0, hb⟩; have n0_ := Aside0.mk (Kd.R_below (pR HO481) hb); have n1_ := Aside0.mk (Kd.R_below (pR HO483) hb); have n2_ := Aside0.mk (Kd.R_elder' (pR HO486) (Kd.R_base ho0) hb); have n3_ := Aside0.mk (Kd.R_lower (Kd.R_new' ho0 (Kd.R_lt (pR HO486))) (below_size pB)); have n4_ := Aside0.mk (below_step pB hb); clear HO481; clear HO483; clear HO486; clear HB; have HO481 := n0_; have HO483 := n1_; have HO486 := n2_; have HO489 := n3_; have HB := n4_; clear n0_ n1_ n2_ n3_ n4_; (try clear hb); (try clear hb2); (try clear hk); (try clear hi); (try clear ho0)))
  repeat (go_quiet (first | (go_at_call 31; (with_reducible refine (spec_DrawSwapsFor.calls k _ _ l0 t477 t478 t479 _ ?side1 ?side2 A3.out).mono ?_); (case side1 => exact pS (HR0.out)); (case side2 => exact HC0.out); rintro e w7 ⟨v480, v482, rfl, ho0, ho1, hb⟩; have n0_ := Aside0.mk (Kd.R_lower ho0 (below_size pB)); have n1_ := Aside0.mk (Kd.R_lower ho1 (below_size pB)); have n2_ := Aside0.mk (below_step pB hb); clear HB; have HO481 := n0_; have HO483 := n1_; have HB := n2_; clear n0_ n1_ n2_; (try clear hb); (try clear hb2); (try clear hk); (try clear hi); (try clear ho0); (try clear ho1); obtain ⟨Ao8, co8, eo8⟩ := Kd.R_slice HO481.out; subst eo8; obtain ⟨Ao9, co9, eo9⟩ := Kd.R_slice HO483.out; subst eo9) | (go_at_call 32; (with_reducible refine (impl_SwapsFor.calls k _ _ t477 _ _ t478 t479 t484 _ ?side1 ?side2 ?side3 ?side4 A4.out).mono ?_); (case side1 => exact pS ((Kd.R_reads' HO481.out).2.2)); (case side2 => exact (Kd.R_reads' HO481.out).2.1); (case side3 => exact pS ((Kd.R_reads' HO483.out).2.2)); (case side4 => exact (Kd.R_reads' HO483.out).2.1); rintro e w10 ⟨v485, rfl, ho0, hb⟩; have n0_ := Aside0.mk (Kd.R_below (pR HO481) hb); have n1_ := Aside0.mk (Kd.R_below (pR HO483) hb); have n2_ := Aside0.mk (Kd.R_lower ho0 (below_size pB)); have n3_ := Aside0.mk (below_step pB hb); clear HO481; clear HO483; clear HB; have HO481 := n0_; have HO483 := n1_; have HO486 := n2_; have HB := n3_; clear n0_ n1_ n2_ n3_; (try clear hb); (try clear hb2); (try clear hk); (try clear hi); (try clear ho0)) | (go_at_call 33; (with_reducible refine (spec_SwapsFor.calls k _ _ t477 _ _ t478 t479 t487 _ ?side1 ?side2 ?side3 ?side4 A5.out).mono ?_); (case side1 => exact pS ((Kd.R_reads' HO481.out).2.2)); (case side2 => exact (Kd.R_reads' HO481.out).2.1); (case side3 => exact pS ((Kd.R_reads' HO483.out).2.2)); (case side4 => exact (Kd.R_reads' HO483.out).2.1); rintro e w11 ⟨v488, rfl, ho0, hb⟩; have n0_ := Aside0.mk (Kd.R_below (pR HO481) hb); have n1_ := Aside0.mk (Kd.R_below (pR HO483) hb); have n2_ := Aside0.mk (Kd.R_elder' (pR HO486) (Kd.R_base ho0) hb); have n3_ := Aside0.mk (Kd.R_lower (Kd.R_new' ho0 (Kd.R_lt (pR HO486))) (below_size pB)); have n4_ := Aside0.mk (below_step pB hb); clear HO481; clear HO483; clear HO486; clear HB; have HO481 := n0_; have HO483 := n1_; have HO486 := n2_; have HO489 := n3_; have HB := n4_; clear n0_ n1_ n2_ n3_ n4_; (try clear hb); (try clear hb2); (try clear hk); (try clear hi); (try clear ho0))); go_upto_region 6 with (first | (go_at_call 31; (with_reducible refine (spec_DrawSwapsFor.calls k _ _ l0 t477 t478 t479 _ ?side1 ?side2 A3.out).mono ?_); (case side1 => exact pS (HR0.out)); (case side2 => exact HC0.out); rintro e w7 ⟨v480, v482, rfl, ho0, ho1, hb⟩; have n0_ := Aside0.mk (Kd.R_lower ho0 (below_size pB)); have n1_ := Aside0.mk (Kd.R_lower ho1 (below_size pB)); have n2_ := Aside0.mk (below_step pB hb); clear HB; have HO481 := n0_; have HO483 := n1_; have HB := n2_; clear n0_ n1_ n2_; (try clear hb); (try clear hb2); (try clear hk); (try clear hi); (try clear ho0); (try clear ho1); obtain ⟨Ao8, co8, eo8⟩ := Kd.R_slice HO481.out; subst eo8; obtain ⟨Ao9, co9, eo9⟩ := Kd.R_slice HO483.out; subst eo9) | (go_at_call 32; (with_reducible refine (impl_SwapsFor.calls k _ _ t477 _ _ t478 t479 t484 _ ?side1 ?side2 ?side3 ?side4 A4.out).mono ?_); (case side1 => exact pS ((Kd.R_reads' HO481.out).2.2)); (case side2 => exact (Kd.R_reads' HO481.out).2.1); (case side3 => exact pS ((Kd.R_reads' HO483.out).2.2)); (case side4 => exact (Kd.R_reads' HO483.out).2.1); rintro e w10 ⟨v485, rfl, ho0, hb⟩; have n0_ := Aside0.mk (Kd.R_below (pR HO481) hb); have n1_ := Aside0.mk (Kd.R_below (pR HO483) hb); have n2_ := Aside0.mk (Kd.R_lower ho0 (below_size pB)); have n3_ := Aside0.mk (below_step pB hb); clear HO481; clear HO483; clear HB; have HO481 := n0_; have HO483 := n1_; have HO486 := n2_; have HB := n3_; clear n0_ n1_ n2_ n3_; (try clear hb); (try clear hb2); (try clear hk); (try clear hi); (try clear ho0)) | (go_at_call 33; (with_reducible refine (spec_SwapsFor.calls k _ _ t477 _ _ t478 t479 t487 _ ?side1 ?side2 ?side3 ?side4 A5.out).mono ?_); (case side1 => exact pS ((Kd.R_reads' HO481.out).2.2)); (case side2 => exact (Kd.R_reads' HO481.out).2.1); (case side3 => exact pS ((Kd.R_reads' HO483.out).2.2)); (case side4 => exact (Kd.R_reads' HO483.out).2.1); rintro e w11 ⟨v488, rfl, ho0, hb⟩; have n0_ := Aside0.mk (Kd.R_below (pR HO481) hb); have n1_ := Aside0.mk (Kd.R_below (pR HO483) hb); have n2_ := Aside0.mk (Kd.R_elder' (pR HO486) (Kd.R_base ho0) hb); have n3_ := Aside0.mk (Kd.R_lower (Kd.R_new' ho0 (Kd.R_lt (pR HO486))) (below_size pB)); have n4_ := Aside0.mk (below_step pB hb); clear HO481; clear HO483; clear HO486; clear HB; have HO481 := n0_; have HO483 := n1_; have HO486 := n2_; have HO489 := n3_; have HB := n4_; clear n0_ n1_ n2_ n3_ n4_; (try clear hb); (try clear hb2); (try clear hk); (try clear hi); (try clear ho0))))
  (try simp only [Act.put, List.setIfInBounds_toArray, List.set_cons_zero, List.set_cons_succ])
  go_cut [35] (fun v35 wc => ∃ (kq : Nat) (x35_5 : Bool), v35 = .bool x35_5 ∧ Aside0 (laws_FnSwapsFor.j0 kq t477 t479 t484 t487 x35_5 = some r) ∧ Aside0 (kq ≤ k) ∧ Aside0 (Kd.R k41 41 wc w.heap.size (fun _ => True) (.slice Ao8 t477.length co8) t477) ∧ Aside0 (Kd.R (Kd.int .i64) 3 wc w.heap.size (fun k_ => some k_ ≠ (v488 : Value).ownBlock) v485 t484) ∧ Aside0 (Kd.R (Kd.int .i64) 3 wc w.heap.size (fun k_ => some k_ ≠ (v485 : Value).ownBlock) v488 t487) ∧ Aside0 (Below w.heap.size w wc))
  case first =>
   have H := HC6.out
   clear HC6
   replace H := Option.bind_eq_some_iff.mp H
   obtain ⟨t490, A120, H⟩ := H
   replace H : (if t490 = true then ((spec_SwapsValid.f k t477 t478).bind fun t491 => (laws_FnSwapsFor.j0 k t477 t479 t484 t487 (!t491))) else (laws_FnSwapsFor.j0 k t477 t479 t484 t487 true)) = some r := H
   have A12 := Aside0.mk A120
   clear A120
   by_cases c13 : t490 = true
   ·subst c13
    have H1 : ((spec_SwapsValid.f k t477 t478).bind fun t491 => (laws_FnSwapsFor.j0 k t477 t479 t484 t487 (!t491))) = some r := by rw [if_pos rfl] at H; exact H
    clear H
    have H := H1
    clear H1
    replace H := Option.bind_eq_some_iff.mp H
    obtain ⟨t491, A140, H⟩ := H
    replace H : (laws_FnSwapsFor.j0 k t477 t479 t484 t487 (!t491)) = some r := H
    have A14 := Aside0.mk A140
    clear A140
    have H' := Aside0.mk H
    clear H
    obtain ⟨Ao15, co15, eo15⟩ := Kd.R_slice HO486.out
    subst eo15
    obtain ⟨Ao16, co16, eo16⟩ := Kd.R_slice HO489.out
    subst eo16
    go_wp2_with (first | (go_at_call 34; (with_reducible refine (laws_sameInts.calls k _ _ t484 _ _ t487 true _ ?side1 ?side2 ?side3 ?side4 A12.out).mono ?_); (case side1 => exact pS ((Kd.R_reads' HO486.out).2.2)); (case side2 => exact (Kd.R_reads' HO486.out).2.1); (case side3 => exact pS ((Kd.R_reads' HO489.out).2.2)); (case side4 => exact (Kd.R_reads' HO489.out).2.1); rintro e w' ⟨rfl, ⟨nd, rfl⟩⟩; (try first | exact ⟨rfl, _, World.drewN_drewN _ _ _⟩ | exact ⟨rfl, _, Eq.trans (World.drewN_drewN _ _ _) (congrArg (World.drewN _) (Nat.add_assoc _ _ _))⟩)) | (go_at_call 25; (with_reducible refine (spec_SwapsValid.calls k _ _ t477 _ _ t478 t491 _ ?side1 ?side2 ?side3 ?side4 A14.out).mono ?_); (case side1 => exact pS ((Kd.R_reads' HO481.out).2.2)); (case side2 => exact (Kd.R_reads' HO481.out).2.1); (case side3 => exact pS ((Kd.R_reads' HO483.out).2.2)); (case side4 => exact (Kd.R_reads' HO483.out).2.1); rintro e w17 ⟨rfl, hb⟩; have n0_ := Aside0.mk (Kd.R_below (pR HO481) hb); have n1_ := Aside0.mk (Kd.R_below (pR HO483) hb); have n2_ := Aside0.mk (Kd.R_below (pR HO486) hb); have n3_ := Aside0.mk (Kd.R_below (pR HO489) hb); have n4_ := Aside0.mk (below_step pB hb); clear HO481; clear HO483; clear HO486; clear HO489; clear HB; have HO481 := n0_; have HO483 := n1_; have HO486 := n2_; have HO489 := n3_; have HB := n4_; clear n0_ n1_ n2_ n3_ n4_; (try clear hb); (try clear hb2); (try clear hk); (try clear hi)))
    repeat (go_quiet (first | (go_at_call 34; (with_reducible refine (laws_sameInts.calls k _ _ t484 _ _ t487 true _ ?side1 ?side2 ?side3 ?side4 A12.out).mono ?_); (case side1 => exact pS ((Kd.R_reads' HO486.out).2.2)); (case side2 => exact (Kd.R_reads' HO486.out).2.1); (case side3 => exact pS ((Kd.R_reads' HO489.out).2.2)); (case side4 => exact (Kd.R_reads' HO489.out).2.1); rintro e w' ⟨rfl, ⟨nd, rfl⟩⟩; (try first | exact ⟨rfl, _, World.drewN_drewN _ _ _⟩ | exact ⟨rfl, _, Eq.trans (World.drewN_drewN _ _ _) (congrArg (World.drewN _) (Nat.add_assoc _ _ _))⟩)) | (go_at_call 25; (with_reducible refine (spec_SwapsValid.calls k _ _ t477 _ _ t478 t491 _ ?side1 ?side2 ?side3 ?side4 A14.out).mono ?_); (case side1 => exact pS ((Kd.R_reads' HO481.out).2.2)); (case side2 => exact (Kd.R_reads' HO481.out).2.1); (case side3 => exact pS ((Kd.R_reads' HO483.out).2.2)); (case side4 => exact (Kd.R_reads' HO483.out).2.1); rintro e w17 ⟨rfl, hb⟩; have n0_ := Aside0.mk (Kd.R_below (pR HO481) hb); have n1_ := Aside0.mk (Kd.R_below (pR HO483) hb); have n2_ := Aside0.mk (Kd.R_below (pR HO486) hb); have n3_ := Aside0.mk (Kd.R_below (pR HO489) hb); have n4_ := Aside0.mk (below_step pB hb); clear HO481; clear HO483; clear HO486; clear HO489; clear HB; have HO481 := n0_; have HO483 := n1_; have HO486 := n2_; have HO489 := n3_; have HB := n4_; clear n0_ n1_ n2_ n3_ n4_; (try clear hb); (try clear hb2); (try clear hk); (try clear hi))); try go_wp2_with (first | (go_at_call 34; (with_reducible refine (laws_sameInts.calls k _ _ t484 _ _ t487 true _ ?side1 ?side2 ?side3 ?side4 A12.out).mono ?_); (case side1 => exact pS ((Kd.R_reads' HO486.out).2.2)); (case side2 => exact (Kd.R_reads' HO486.out).2.1); (case side3 => exact pS ((Kd.R_reads' HO489.out).2.2)); (case side4 => exact (Kd.R_reads' HO489.out).2.1); rintro e w' ⟨rfl, ⟨nd, rfl⟩⟩; (try first | exact ⟨rfl, _, World.drewN_drewN _ _ _⟩ | exact ⟨rfl, _, Eq.trans (World.drewN_drewN _ _ _) (congrArg (World.drewN _) (Nat.add_assoc _ _ _))⟩)) | (go_at_call 25; (with_reducible refine (spec_SwapsValid.calls k _ _ t477 _ _ t478 t491 _ ?side1 ?side2 ?side3 ?side4 A14.out).mono ?_); (case side1 => exact pS ((Kd.R_reads' HO481.out).2.2)); (case side2 => exact (Kd.R_reads' HO481.out).2.1); (case side3 => exact pS ((Kd.R_reads' HO483.out).2.2)); (case side4 => exact (Kd.R_reads' HO483.out).2.1); rintro e w17 ⟨rfl, hb⟩; have n0_ := Aside0.mk (Kd.R_below (pR HO481) hb); have n1_ := Aside0.mk (Kd.R_below (pR HO483) hb); have n2_ := Aside0.mk (Kd.R_below (pR HO486) hb); have n3_ := Aside0.mk (Kd.R_below (pR HO489) hb); have n4_ := Aside0.mk (below_step pB hb); clear HO481; clear HO483; clear HO486; clear HO489; clear HB; have HO481 := n0_; have HO483 := n1_; have HO486 := n2_; have HO489 := n3_; have HB := n4_; clear n0_ n1_ n2_ n3_ n4_; (try clear hb); (try clear hb2); (try clear hk); (try clear hi))))
    go_meet
    case rel => exact ⟨_, (!t491), pF, H', ⟨by first | omega | exact Nat.le_refl _⟩, ⟨pR HO481⟩, ⟨by (with_reducible repeat (first | apply Kd.R_alloc | apply Kd.R_drewN | apply Kd.R_drew)); exact Kd.R_mono HO486.out (fun _ hk => hk.2)⟩, ⟨by (with_reducible repeat (first | apply Kd.R_alloc | apply Kd.R_drewN | apply Kd.R_drew)); exact Kd.R_mono HO489.out (fun _ hk => hk.2)⟩, ⟨pB⟩⟩
   ·replace c13 := Bool.eq_false_iff.mpr c13
    subst c13
    have H1 : (laws_FnSwapsFor.j0 k t477 t479 t484 t487 true) = some r := by rw [if_neg (show ¬ (false = true) by decide)] at H; exact H
    clear H
    have H := H1
    clear H1
    have H' := Aside0.mk H
    clear H
    obtain ⟨Ao18, co18, eo18⟩ := Kd.R_slice HO486.out
    subst eo18
    obtain ⟨Ao19, co19, eo19⟩ := Kd.R_slice HO489.out
    subst eo19
    go_wp2_with (first | (go_at_call 34; (with_reducible refine (laws_sameInts.calls k _ _ t484 _ _ t487 false _ ?side1 ?side2 ?side3 ?side4 A12.out).mono ?_); (case side1 => exact pS ((Kd.R_reads' HO486.out).2.2)); (case side2 => exact (Kd.R_reads' HO486.out).2.1); (case side3 => exact pS ((Kd.R_reads' HO489.out).2.2)); (case side4 => exact (Kd.R_reads' HO489.out).2.1); rintro e w' ⟨rfl, ⟨nd, rfl⟩⟩; (try first | exact ⟨rfl, _, World.drewN_drewN _ _ _⟩ | exact ⟨rfl, _, Eq.trans (World.drewN_drewN _ _ _) (congrArg (World.drewN _) (Nat.add_assoc _ _ _))⟩)))
    repeat (go_quiet (first | (go_at_call 34; (with_reducible refine (laws_sameInts.calls k _ _ t484 _ _ t487 false _ ?side1 ?side2 ?side3 ?side4 A12.out).mono ?_); (case side1 => exact pS ((Kd.R_reads' HO486.out).2.2)); (case side2 => exact (Kd.R_reads' HO486.out).2.1); (case side3 => exact pS ((Kd.R_reads' HO489.out).2.2)); (case side4 => exact (Kd.R_reads' HO489.out).2.1); rintro e w' ⟨rfl, ⟨nd, rfl⟩⟩; (try first | exact ⟨rfl, _, World.drewN_drewN _ _ _⟩ | exact ⟨rfl, _, Eq.trans (World.drewN_drewN _ _ _) (congrArg (World.drewN _) (Nat.add_assoc _ _ _))⟩))); try go_wp2_with (first | (go_at_call 34; (with_reducible refine (laws_sameInts.calls k _ _ t484 _ _ t487 false _ ?side1 ?side2 ?side3 ?side4 A12.out).mono ?_); (case side1 => exact pS ((Kd.R_reads' HO486.out).2.2)); (case side2 => exact (Kd.R_reads' HO486.out).2.1); (case side3 => exact pS ((Kd.R_reads' HO489.out).2.2)); (case side4 => exact (Kd.R_reads' HO489.out).2.1); rintro e w' ⟨rfl, ⟨nd, rfl⟩⟩; (try first | exact ⟨rfl, _, World.drewN_drewN _ _ _⟩ | exact ⟨rfl, _, Eq.trans (World.drewN_drewN _ _ _) (congrArg (World.drewN _) (Nat.add_assoc _ _ _))⟩))))
    go_meet
    case rel => exact ⟨_, (true), pF, H', ⟨by first | omega | exact Nat.le_refl _⟩, ⟨pR HO481⟩, ⟨by (with_reducible repeat (first | apply Kd.R_alloc | apply Kd.R_drewN | apply Kd.R_drew)); exact Kd.R_mono HO486.out (fun _ hk => hk.2)⟩, ⟨by (with_reducible repeat (first | apply Kd.R_alloc | apply Kd.R_drewN | apply Kd.R_drew)); exact Kd.R_mono HO489.out (fun _ hk => hk.2)⟩, ⟨pB⟩⟩
  case rest =>
   clear HC6
   try clear c1
   try clear c2
   try clear c2b0
   try clear c2b1
   try clear p2
   try clear c8
   try clear c13
   obtain ⟨kq, x35_5, rfl, HA, HJ5, HO_3, HO_6, HO_7, HB⟩ := hcut
   cases kq with
   | zero => exact absurd HA.out (by simp [laws_FnSwapsFor.j0])
   | succ kj5 =>
    have H := HA.out
    clear HA
    simp only [laws_FnSwapsFor.j0] at H
    by_cases c20 : x35_5 = true
    ·subst c20
     have H1 : ((laws_sameInts.f kj5 t484 t487).bind fun t492 => (some t492)) = some r := by rw [if_pos rfl] at H; exact H
     clear H
     have H := H1
     clear H1
     replace H := Option.bind_eq_some_iff.mp H
     obtain ⟨t492, A210, H⟩ := H
     replace H : (some t492) = some r := H
     have A21 := Aside0.mk A210
     clear A210
     obtain rfl := Option.some.inj H
     obtain ⟨Ao22, co22, eo22⟩ := Kd.R_slice HO_6.out
     subst eo22
     obtain ⟨Ao23, co23, eo23⟩ := Kd.R_slice HO_7.out
     subst eo23
     go_wp2_with (first | (go_at_call 34; (with_reducible refine (laws_sameInts.calls kj5 _ _ t484 _ _ t487 t492 _ ?side1 ?side2 ?side3 ?side4 A21.out).mono ?_); (case side1 => exact pS ((Kd.R_reads' HO_6.out).2.2)); (case side2 => exact (Kd.R_reads' HO_6.out).2.1); (case side3 => exact pS ((Kd.R_reads' HO_7.out).2.2)); (case side4 => exact (Kd.R_reads' HO_7.out).2.1); rintro e w' ⟨rfl, ⟨nd, rfl⟩⟩; (try first | exact ⟨rfl, _, World.drewN_drewN _ _ _⟩ | exact ⟨rfl, _, Eq.trans (World.drewN_drewN _ _ _) (congrArg (World.drewN _) (Nat.add_assoc _ _ _))⟩)))
     repeat (go_quiet (first | (go_at_call 34; (with_reducible refine (laws_sameInts.calls kj5 _ _ t484 _ _ t487 t492 _ ?side1 ?side2 ?side3 ?side4 A21.out).mono ?_); (case side1 => exact pS ((Kd.R_reads' HO_6.out).2.2)); (case side2 => exact (Kd.R_reads' HO_6.out).2.1); (case side3 => exact pS ((Kd.R_reads' HO_7.out).2.2)); (case side4 => exact (Kd.R_reads' HO_7.out).2.1); rintro e w' ⟨rfl, ⟨nd, rfl⟩⟩; (try first | exact ⟨rfl, _, World.drewN_drewN _ _ _⟩ | exact ⟨rfl, _, Eq.trans (World.drewN_drewN _ _ _) (congrArg (World.drewN _) (Nat.add_assoc _ _ _))⟩))); try go_wp2_with (first | (go_at_call 34; (with_reducible refine (laws_sameInts.calls kj5 _ _ t484 _ _ t487 t492 _ ?side1 ?side2 ?side3 ?side4 A21.out).mono ?_); (case side1 => exact pS ((Kd.R_reads' HO_6.out).2.2)); (case side2 => exact (Kd.R_reads' HO_6.out).2.1); (case side3 => exact pS ((Kd.R_reads' HO_7.out).2.2)); (case side4 => exact (Kd.R_reads' HO_7.out).2.1); rintro e w' ⟨rfl, ⟨nd, rfl⟩⟩; (try first | exact ⟨rfl, _, World.drewN_drewN _ _ _⟩ | exact ⟨rfl, _, Eq.trans (World.drewN_drewN _ _ _) (congrArg (World.drewN _) (Nat.add_assoc _ _ _))⟩))))
     go_ret
     exact ⟨pE, pB⟩
    ·replace c20 := Bool.eq_false_iff.mpr c20
     subst c20
     have H1 : (laws_FnSwapsFor.l0 kj5 t477 t479 t484 0) = some r := by rw [if_neg (show ¬ (false = true) by decide)] at H; exact H
     clear H
     have H := H1
     clear H1
     have H' := Aside0.mk H
     clear H
     go_wp2
     repeat (go_quiet (fail); try go_wp2)
     go_loopg [8] kj5 (fun kq v8 w' => ∃ (x8_2 : Int), v8 = .int .i64 x8_2 ∧ Aside0 (laws_FnSwapsFor.l0 kq t477 t479 t484 x8_2 = some r) ∧ Aside0 (kq ≤ kj5) ∧ Aside0 (Kd.R k41 41 w' w.heap.size (fun _ => True) (.slice Ao8 t477.length co8) t477) ∧ Aside0 (Kd.R (Kd.int .i64) 3 w' w.heap.size (fun _ => True) v485 t484) ∧ Aside0 (Below w.heap.size w w'))
     case atStart => exact ⟨(0), pF, H', ⟨Nat.le_refl _⟩, ⟨pR HO_3⟩, ⟨by (with_reducible repeat (first | apply Kd.R_alloc | apply Kd.R_drewN | apply Kd.R_drew)); exact Kd.R_mono HO_6.out (fun _ hk => trivial)⟩, ⟨pB⟩⟩
     case round =>
      clear H'
      try clear c1
      try clear c2
      try clear c2b0
      try clear c2b1
      try clear p2
      try clear c8
      try clear c13
      try clear c20
      try clear p2
      obtain ⟨x8_2, rfl, HA, HK2, HO_3, HO_6, HB⟩ := hrel
      cases gk with
      | zero => exact absurd HA.out (by simp [laws_FnSwapsFor.l0])
      | succ k2 =>
       have H := HA.out
       clear HA
       simp only [laws_FnSwapsFor.l0] at H
       by_cases c24 : x8_2 < (t477.length : Int)
       ·rw [if_pos c24] at H
        have c24b0 : decide (x8_2 < (t477.length : Int)) = true := decide_eq_true c24
        clear c24
        replace H := Option.bind_eq_some_iff.mp H
        obtain ⟨t493, A250, H⟩ := H
        replace H : (if 0 ≤ x8_2 then (if (t493 != (((rd_T41 t477 x8_2).f0) == t479)) = true then (some false) else (laws_FnSwapsFor.l0 k2 t477 t479 t484 (wrap64 (x8_2 + 1)))) else (none)) = some r := H
        have A25 := Aside0.mk A250
        clear A250
        by_cases c26 : 0 ≤ x8_2
        ·rw [if_pos c26] at H
         have c26b0 : decide (0 ≤ x8_2) = true := decide_eq_true c26
         clear c26
         by_cases c27 : (t493 != (((rd_T41 t477 x8_2).f0) == t479)) = true
         ·rw [if_pos c27] at H
          have c27b0 : (t493 != (((rd_T41 t477 x8_2).f0) == t479)) = true := c27
          (try (have c27b1 : decide (t493 = (((rd_T41 t477 x8_2).f0) == t479)) = false := by simpa using c27))
          (try (have c27b2 : (t493 == (((rd_T41 t477 x8_2).f0) == t479)) = false := by simpa using c27))
          (try (have c27b3 : ¬ (t493 = (((rd_T41 t477 x8_2).f0) == t479)) := by simpa using c27))
          clear c27
          obtain rfl := Option.some.inj H
          obtain ⟨Ao28, co28, eo28⟩ := Kd.R_slice HO_6.out
          subst eo28
          go_wp2_with (first | (go_at_call 35; (with_reducible refine (laws_hasInt.calls k2 _ _ t484 x8_2 t493 _ ?side1 ?side2 A25.out).mono ?_); (case side1 => exact pS ((Kd.R_reads' HO_6.out).2.2)); (case side2 => exact (Kd.R_reads' HO_6.out).2.1); rintro e w' ⟨rfl, ⟨nd, rfl⟩⟩; (try first | exact ⟨rfl, _, World.drewN_drewN _ _ _⟩ | exact ⟨rfl, _, Eq.trans (World.drewN_drewN _ _ _) (congrArg (World.drewN _) (Nat.add_assoc _ _ _))⟩); have p494 : 0 ≤ (x8_2 : Int) := of_decide_eq_true pA; have q494 : x8_2 < (t477.length : Int) := of_decide_eq_true pA; obtain ⟨ad494, e494, hx494_0, hx494_1, hx494_2, hx494_3⟩ := at_T41 (Kd.R_reads' HO_3.out).2.2 x8_2 p494 q494; cases e494; replace p494 := eq_true p494; replace q494 := eq_true q494))
          repeat (go_quiet (first | (go_at_call 35; (with_reducible refine (laws_hasInt.calls k2 _ _ t484 x8_2 t493 _ ?side1 ?side2 A25.out).mono ?_); (case side1 => exact pS ((Kd.R_reads' HO_6.out).2.2)); (case side2 => exact (Kd.R_reads' HO_6.out).2.1); rintro e w' ⟨rfl, ⟨nd, rfl⟩⟩; (try first | exact ⟨rfl, _, World.drewN_drewN _ _ _⟩ | exact ⟨rfl, _, Eq.trans (World.drewN_drewN _ _ _) (congrArg (World.drewN _) (Nat.add_assoc _ _ _))⟩); have p494 : 0 ≤ (x8_2 : Int) := of_decide_eq_true pA; have q494 : x8_2 < (t477.length : Int) := of_decide_eq_true pA; obtain ⟨ad494, e494, hx494_0, hx494_1, hx494_2, hx494_3⟩ := at_T41 (Kd.R_reads' HO_3.out).2.2 x8_2 p494 q494; cases e494; replace p494 := eq_true p494; replace q494 := eq_true q494)); try go_wp2_with (first | (go_at_call 35; (with_reducible refine (laws_hasInt.calls k2 _ _ t484 x8_2 t493 _ ?side1 ?side2 A25.out).mono ?_); (case side1 => exact pS ((Kd.R_reads' HO_6.out).2.2)); (case side2 => exact (Kd.R_reads' HO_6.out).2.1); rintro e w' ⟨rfl, ⟨nd, rfl⟩⟩; (try first | exact ⟨rfl, _, World.drewN_drewN _ _ _⟩ | exact ⟨rfl, _, Eq.trans (World.drewN_drewN _ _ _) (congrArg (World.drewN _) (Nat.add_assoc _ _ _))⟩); have p494 : 0 ≤ (x8_2 : Int) := of_decide_eq_true pA; have q494 : x8_2 < (t477.length : Int) := of_decide_eq_true pA; obtain ⟨ad494, e494, hx494_0, hx494_1, hx494_2, hx494_3⟩ := at_T41 (Kd.R_reads' HO_3.out).2.2 x8_2 p494 q494; cases e494; replace p494 := eq_true p494; replace q494 := eq_true q494)))
          go_ret
          exact ⟨pE, pB⟩
         ·rw [if_neg c27] at H
          have c27b0 : (t493 != (((rd_T41 t477 x8_2).f0) == t479)) = false := by simpa using c27
          (try (have c27b1 : decide (t493 = (((rd_T41 t477 x8_2).f0) == t479)) = true := by simpa using c27))
          (try (have c27b2 : (t493 == (((rd_T41 t477 x8_2).f0) == t479)) = true := by simpa using c27))
          clear c27
          have H' := Aside0.mk H
          clear H
          obtain ⟨Ao29, co29, eo29⟩ := Kd.R_slice HO_6.out
          subst eo29
          go_wp2_with (first | (go_at_call 35; (with_reducible refine (laws_hasInt.calls k2 _ _ t484 x8_2 t493 _ ?side1 ?side2 A25.out).mono ?_); (case side1 => exact pS ((Kd.R_reads' HO_6.out).2.2)); (case side2 => exact (Kd.R_reads' HO_6.out).2.1); rintro e w' ⟨rfl, ⟨nd, rfl⟩⟩; (try first | exact ⟨rfl, _, World.drewN_drewN _ _ _⟩ | exact ⟨rfl, _, Eq.trans (World.drewN_drewN _ _ _) (congrArg (World.drewN _) (Nat.add_assoc _ _ _))⟩); have p494 : 0 ≤ (x8_2 : Int) := of_decide_eq_true pA; have q494 : x8_2 < (t477.length : Int) := of_decide_eq_true pA; obtain ⟨ad494, e494, hx494_0, hx494_1, hx494_2, hx494_3⟩ := at_T41 (Kd.R_reads' HO_3.out).2.2 x8_2 p494 q494; cases e494; replace p494 := eq_true p494; replace q494 := eq_true q494))
          repeat (go_quiet (first | (go_at_call 35; (with_reducible refine (laws_hasInt.calls k2 _ _ t484 x8_2 t493 _ ?side1 ?side2 A25.out).mono ?_); (case side1 => exact pS ((Kd.R_reads' HO_6.out).2.2)); (case side2 => exact (Kd.R_reads' HO_6.out).2.1); rintro e w' ⟨rfl, ⟨nd, rfl⟩⟩; (try first | exact ⟨rfl, _, World.drewN_drewN _ _ _⟩ | exact ⟨rfl, _, Eq.trans (World.drewN_drewN _ _ _) (congrArg (World.drewN _) (Nat.add_assoc _ _ _))⟩); have p494 : 0 ≤ (x8_2 : Int) := of_decide_eq_true pA; have q494 : x8_2 < (t477.length : Int) := of_decide_eq_true pA; obtain ⟨ad494, e494, hx494_0, hx494_1, hx494_2, hx494_3⟩ := at_T41 (Kd.R_reads' HO_3.out).2.2 x8_2 p494 q494; cases e494; replace p494 := eq_true p494; replace q494 := eq_true q494)); try go_wp2_with (first | (go_at_call 35; (with_reducible refine (laws_hasInt.calls k2 _ _ t484 x8_2 t493 _ ?side1 ?side2 A25.out).mono ?_); (case side1 => exact pS ((Kd.R_reads' HO_6.out).2.2)); (case side2 => exact (Kd.R_reads' HO_6.out).2.1); rintro e w' ⟨rfl, ⟨nd, rfl⟩⟩; (try first | exact ⟨rfl, _, World.drewN_drewN _ _ _⟩ | exact ⟨rfl, _, Eq.trans (World.drewN_drewN _ _ _) (congrArg (World.drewN _) (Nat.add_assoc _ _ _))⟩); have p494 : 0 ≤ (x8_2 : Int) := of_decide_eq_true pA; have q494 : x8_2 < (t477.length : Int) := of_decide_eq_true pA; obtain ⟨ad494, e494, hx494_0, hx494_1, hx494_2, hx494_3⟩ := at_T41 (Kd.R_reads' HO_3.out).2.2 x8_2 p494 q494; cases e494; replace p494 := eq_true p494; replace q494 := eq_true q494)))
          go_roundg k2
          case measure => have := HJ5.out; have := HK2.out; omega
          case rel => exact ⟨(wrap64 (x8_2 + 1)), pF, H', ⟨by have := HJ5.out; have := HK2.out; omega⟩, ⟨pR HO_3⟩, ⟨pR HO_6⟩, ⟨pB⟩⟩
        ·rw [if_neg c26] at H
         exact absurd H (by simp)
       ·rw [if_neg c24] at H
        have c24b0 : decide (x8_2 < (t477.length : Int)) = false := decide_eq_false c24
        clear c24
        obtain rfl := Option.some.inj H
        obtain ⟨Ao30, co30, eo30⟩ := Kd.R_slice HO_6.out
        subst eo30
        go_wp2
        repeat (go_quiet (fail); try go_wp2)
        go_ret
        exact ⟨pE, pB⟩

/-- THE ONE PURE STATEMENT of laws_FnSwapsFor: yours. -/
def laws_FnSwapsFor.Pure : Prop := ∀ (l0 : List Int), l0.length ≤ maxLen → l0.length * 1 ≤ 140737488351232 → (∀ x ∈ l0, (Lit.int .u8 x).wf = true) → ∃ k, laws_FnSwapsFor.f k l0 = some true
theorem laws_FnSwapsFor.walk (P : laws_FnSwapsFor.Pure) (a0 : Option Addr) (len0 cap0 : Nat) (z0 : List Int) (w : World) (w0 : (a0 = none ∧ len0 = 0 ∧ cap0 = 0 ∧ z0 = []) ∨ ∃ x, a0 = some x ∧ len0 ≤ cap0 ∧ cap0 ≤ maxLen ∧ z0.length = cap0 ∧ (∀ i, i < z0.length → w.cell? (x.add i) = some (.int .u8 (z0.getD i 0))) ∧ ∀ n ∈ z0, (Lit.int .u8 n).wf = true) (y0 : len0 * 1 ≤ 140737488351232) :
  Calls Try.prog 8 #[.slice a0 len0 cap0] w fun e w' => e = .returned (.bool true) ∧ Below w.heap.size w w' := by
 obtain ⟨l0, rfl, hr0, hm0, hw0, hc0⟩ := ReadsInt.ofRowC w0
 obtain ⟨k, h⟩ := P l0 hm0 y0 hw0
 refine (laws_FnSwapsFor.calls k _ _ l0 true w (Kd.C_of_reads (d := (0 : Int)) (h1 := fun _ => rfl) hr0) hc0 h).mono ?_
 rintro e w' ⟨rfl, hd⟩
 exact ⟨rfl, hd⟩

end Go.Proofs.Ytglddjbcaknnaaa.Q
