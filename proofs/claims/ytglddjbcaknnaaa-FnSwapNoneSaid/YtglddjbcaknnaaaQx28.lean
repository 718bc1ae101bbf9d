-- Written by the kit's print.py for all laws of the seat at once (one namespace), by a program of this session.
import Derived.Test.YtglddjbcaknnaaaQx0
import Derived.Test.YtglddjbcaknnaaaQx21
import Derived.Test.YtglddjbcaknnaaaQx25
import Derived.Test.YtglddjbcaknnaaaQx26
import Derived.Test.YtglddjbcaknnaaaQx27
namespace Go.Proofs.Ytglddjbcaknnaaa.Q
open Go.RowKit Go.Proofs.YtglddjbcaknnaaaW.PrintWords Go.Proofs.YtglddjbcaknnaaaW.PrintLast Go.Proofs.YtglddjbcaknnaaaW.PrintMore
attribute [local go_sem] max2_int min2_int max_two min_two max_three min_three max_four min_four   -- for this text's walks alone
set_option linter.unusedVariables false
set_option linter.unusedSimpArgs false

/-! ### laws_FnSwapNone: function 10 -/
def laws_FnSwapNone.j0 : Nat → List (S41) → List (S62) → List Int → List Int → List Int → Bool → List Int → Bool → Bool → Option (Bool)
 | 0, _, _, _, _, _, _, _, _, _ => none
 | k + 1, x3, x4, x5, x6, x7, x8, x9, x10, x53 => if x53 = true then (if (x8 == x10) = true then ((laws_sameInts.f k x7 x9).bind fun t637 => (some t637)) else (some false)) else ((impl_SwapNeeds.f k x3 x4 x5 (([] : List Int))).bind fun bt641 => ((impl_SwapNeeds.f k x3 x4 x7 x6).bind fun bt645 => (if bt641.2 = true then (if bt645.2 = true then ((laws_sameInts.f k bt641.1 x5).bind fun t649 => (if t649 = true then ((laws_sameInts.f k bt645.1 x7).bind fun t650 => (some t650)) else (some false))) else (some false)) else (some false))))
def laws_FnSwapNone.f (k : Nat) (l0 : List Int) : Option (Bool) := if (l0.length : Int) > 1048576 then (some true) else ((spec_DrawSwapNeeds.f k l0).bind fun bt616 => ((impl_SwapNeeds.f k bt616.1 bt616.2.1 bt616.2.2.1 bt616.2.2.2).bind fun bt628 => ((spec_SwapNeeds.f k bt616.1 bt616.2.1 bt616.2.2.1 bt616.2.2.2).bind fun bt632 => (if (bt628.2 != bt632.2) = true then (laws_FnSwapNone.j0 k bt616.1 bt616.2.1 bt616.2.2.1 bt616.2.2.2 bt628.1 bt628.2 bt632.1 bt632.2 true) else ((laws_sameInts.f k bt628.1 bt632.1).bind fun t636 => (if t636 = true then (laws_FnSwapNone.j0 k bt616.1 bt616.2.1 bt616.2.2.1 bt616.2.2.2 bt628.1 bt628.2 bt632.1 bt632.2 (!bt628.2)) else (laws_FnSwapNone.j0 k bt616.1 bt616.2.1 bt616.2.2.1 bt616.2.2.2 bt628.1 bt628.2 bt632.1 bt632.2 true)))))))
theorem laws_FnSwapNone.mono_l : ∀ k, (∀ y0 y1 y2 y3 y4 y5 y6 y7 y8, LeO (laws_FnSwapNone.j0 k y0 y1 y2 y3 y4 y5 y6 y7 y8) (laws_FnSwapNone.j0 (k + 1) y0 y1 y2 y3 y4 y5 y6 y7 y8))
 | 0 => fun _ _ _ _ _ _ _ _ _ r h => by simp [laws_FnSwapNone.j0] at h
 | k + 1 => by
  have ih0 := laws_FnSwapNone.mono_l k
  ·intro y0 y1 y2 y3 y4 y5 y6 y7 y8
   unfold laws_FnSwapNone.j0
   repeat' first
   | (with_reducible exact ih0 _ _ _ _ _ _ _ _ _)
   | (with_reducible exact impl_SwapNeeds.mono _ _ _ _ _)
   | (with_reducible exact laws_sameInts.mono _ _ _)
   | (with_reducible exact spec_DrawSwapNeeds.mono _ _)
   | (with_reducible exact spec_SwapNeeds.mono _ _ _ _ _)
   | (with_reducible exact LeO.refl _)
   | (with_reducible exact LeO.none _)
   | (with_reducible refine LeO.ite ?_ ?_)
   | (with_reducible refine LeO.bind ?_ (fun _ => ?_))
   | exact ih0 _ _ _ _ _ _ _ _ _
   | exact impl_SwapNeeds.mono _ _ _ _ _
   | exact laws_sameInts.mono _ _ _
   | exact spec_DrawSwapNeeds.mono _ _
   | exact spec_SwapNeeds.mono _ _ _ _ _
   | exact LeO.none _
   | refine LeO.ite ?_ ?_
   | refine LeO.bind ?_ (fun _ => ?_)
theorem laws_FnSwapNone.mono : ∀ a0 k, LeO (laws_FnSwapNone.f k a0) (laws_FnSwapNone.f (k + 1) a0) := by
 intro a0 k
 have ih0 := laws_FnSwapNone.mono_l k
 unfold laws_FnSwapNone.f
 repeat' first
   | (with_reducible exact ih0 _ _ _ _ _ _ _ _ _)
   | (with_reducible exact impl_SwapNeeds.mono _ _ _ _ _)
   | (with_reducible exact laws_sameInts.mono _ _ _)
   | (with_reducible exact spec_DrawSwapNeeds.mono _ _)
   | (with_reducible exact spec_SwapNeeds.mono _ _ _ _ _)
   | (with_reducible exact LeO.refl _)
   | (with_reducible exact LeO.none _)
   | (with_reducible refine LeO.ite ?_ ?_)
   | (with_reducible refine LeO.bind ?_ (fun _ => ?_))
   | exact ih0 _ _ _ _ _ _ _ _ _
   | exact impl_SwapNeeds.mono _ _ _ _ _
   | exact laws_sameInts.mono _ _ _
   | exact spec_DrawSwapNeeds.mono _ _
   | exact spec_SwapNeeds.mono _ _ _ _ _
   | exact LeO.none _
   | refine LeO.ite ?_ ?_
   | refine LeO.bind ?_ (fun _ => ?_)
set_option maxHeartbeats 8000000 in
set_option maxRecDepth 100000 in
theorem laws_FnSwapNone.calls (k : Nat) (A0 : Option Addr) (c0 : Nat) (l0 : List Int) (r : Bool) (w : World) (hr0 : Kd.C (Kd.int .u8) w A0 l0.length l0) (hc0 : l0.length ≤ c0) (h : laws_FnSwapNone.f k l0 = some r) :
  Calls Try.prog 10 #[.slice A0 l0.length c0] w fun e w' => e = .returned (.bool r) ∧ Below w.heap.size w w' := by
 have HR0 := Aside0.mk hr0
 have HC0 := Aside0.mk hc0
 clear hr0 hc0
 have HB := Aside0.mk (Below.refl w.heap.size w)
 have H : (if (l0.length : Int) > 1048576 then (some true) else ((spec_DrawSwapNeeds.f k l0).bind fun bt616 => ((impl_SwapNeeds.f k bt616.1 bt616.2.1 bt616.2.2.1 bt616.2.2.2).bind fun bt628 => ((spec_SwapNeeds.f k bt616.1 bt616.2.1 bt616.2.2.1 bt616.2.2.2).bind fun bt632 => (if (bt628.2 != bt632.2) = true then (laws_FnSwapNone.j0 k bt616.1 bt616.2.1 bt616.2.2.1 bt616.2.2.2 bt628.1 bt628.2 bt632.1 bt632.2 true) else ((laws_sameInts.f k bt628.1 bt632.1).bind fun t636 => (if t636 = true then (laws_FnSwapNone.j0 k bt616.1 bt616.2.1 bt616.2.2.1 bt616.2.2.2 bt628.1 bt628.2 bt632.1 bt632.2 (!bt628.2)) else (laws_FnSwapNone.j0 k bt616.1 bt616.2.1 bt616.2.2.1 bt616.2.2.2 bt628.1 bt628.2 bt632.1 bt632.2 true)))))))) = some r := h
 clear h
 by_cases c2 : (l0.length : Int) > 1048576
 ·rw [if_pos c2] at H
  have c2b0 : decide (1048576 < (l0.length : Int)) = true := decide_eq_true c2
  have c2b1 : decide (1048576 < l0.length) = true := decide_eq_true (by omega)
  clear c2
  obtain rfl := Option.some.inj H
  go_enter Try.func10, Try.ntmps10
  go_wp2
  go_ret
  exact ⟨pE, pB⟩
 ·rw [if_neg c2] at H
  have c2b0 : decide (1048576 < (l0.length : Int)) = false := decide_eq_false c2
  have c2b1 : decide (1048576 < l0.length) = false := decide_eq_false (by omega)
  clear c2
  replace H := Option.bind_eq_some_iff.mp H
  obtain ⟨⟨t616, t617, t618, t619⟩, A30, H⟩ := H
  replace H : ((impl_SwapNeeds.f k t616 t617 t618 t619).bind fun bt628 => ((spec_SwapNeeds.f k t616 t617 t618 t619).bind fun bt632 => (if (bt628.2 != bt632.2) = true then (laws_FnSwapNone.j0 k t616 t617 t618 t619 bt628.1 bt628.2 bt632.1 bt632.2 true) else ((laws_sameInts.f k bt628.1 bt632.1).bind fun t636 => (if t636 = true then (laws_FnSwapNone.j0 k t616 t617 t618 t619 bt628.1 bt628.2 bt632.1 bt632.2 (!bt628.2)) else (laws_FnSwapNone.j0 k t616 t617 t618 t619 bt628.1 bt628.2 bt632.1 bt632.2 true)))))) = some r := H
  have A3 := Aside0.mk A30
  clear A30
  replace H := Option.bind_eq_some_iff.mp H
  obtain ⟨⟨t628, t629⟩, A40, H⟩ := H
  replace H : ((spec_SwapNeeds.f k t616 t617 t618 t619).bind fun bt632 => (if (t629 != bt632.2) = true then (laws_FnSwapNone.j0 k t616 t617 t618 t619 t628 t629 bt632.1 bt632.2 true) else ((laws_sameInts.f k t628 bt632.1).bind fun t636 => (if t636 = true then (laws_FnSwapNone.j0 k t616 t617 t618 t619 t628 t629 bt632.1 bt632.2 (!t629)) else (laws_FnSwapNone.j0 k t616 t617 t618 t619 t628 t629 bt632.1 bt632.2 true))))) = some r := H
  have A4 := Aside0.mk A40
  clear A40
  replace H := Option.bind_eq_some_iff.mp H
  obtain ⟨⟨t632, t633⟩, A50, H⟩ := H
  replace H : (if (t629 != t633) = true then (laws_FnSwapNone.j0 k t616 t617 t618 t619 t628 t629 t632 t633 true) else ((laws_sameInts.f k t628 t632).bind fun t636 => (if t636 = true then (laws_FnSwapNone.j0 k t616 t617 t618 t619 t628 t629 t632 t633 (!t629)) else (laws_FnSwapNone.j0 k t616 t617 t618 t619 t628 t629 t632 t633 true)))) = some r := H
  have A5 := Aside0.mk A50
  clear A50
  have HC6 := Aside0.mk H
  clear H
  go_enter Try.func10, Try.ntmps10
  go_upto_region 6 with (first | ((with_reducible refine gate_callee (f := 40) rfl ?_); refine goesL_ (some 20) rfl rfl Try.func40 pL rfl #[.slice A0 l0.length c0] rfl pM ?_; (with_reducible refine (spec_DrawSwapNeeds.calls k _ _ l0 t616 t617 t618 t619 _ ?side1 ?side2 A3.out).mono ?_); (case side1 => exact pS (HR0.out)); (case side2 => exact HC0.out); rintro e w7 ⟨v620, v622, v624, v626, rfl, ho0, ho1, ho2, ho3, hb⟩; refine ⟨_, rfl, ?_⟩; have n0_ := Aside0.mk (Kd.R_lower ho0 (below_size pB)); have n1_ := Aside0.mk (Kd.R_lower ho1 (below_size pB)); have n2_ := Aside0.mk (Kd.R_lower ho2 (below_size pB)); have n3_ := Aside0.mk (Kd.R_lower ho3 (below_size pB)); have n4_ := Aside0.mk (below_step pB hb); clear HB; have HO621 := n0_; have HO623 := n1_; have HO625 := n2_; have HO627 := n3_; have HB := n4_; clear n0_ n1_ n2_ n3_ n4_; (try clear hb); (try clear hb2); (try clear hk); (try clear hi); (try clear ho0); (try clear ho1); (try clear ho2); (try clear ho3); obtain ⟨Ao8, co8, eo8⟩ := Kd.R_slice HO621.out; subst eo8; obtain ⟨Ao9, co9, eo9⟩ := Kd.R_slice HO623.out; subst eo9; obtain ⟨Ao10, co10, eo10⟩ := Kd.R_slice HO625.out; subst eo10; obtain ⟨Ao11, co11, eo11⟩ := Kd.R_slice HO627.out; subst eo11) | ((with_reducible refine gate_callee (f := 41) rfl ?_); refine goesL_ (some 30) rfl rfl Try.func41 pL rfl #[.slice Ao8 t616.length co8, .slice Ao9 t617.length co9, .slice Ao10 t618.length co10, .slice Ao11 t619.length co11] rfl pM ?_; (with_reducible refine (impl_SwapNeeds.calls k _ _ t616 _ _ t617 _ _ t618 _ _ t619 t628 t629 _ ?side1 ?side2 ?side3 ?side4 ?side5 ?side6 ?side7 ?side8 A4.out).mono ?_); (case side1 => exact pS ((Kd.R_reads' HO621.out).2.2)); (case side2 => exact (Kd.R_reads' HO621.out).2.1); (case side3 => exact pS ((Kd.R_reads' HO623.out).2.2)); (case side4 => exact (Kd.R_reads' HO623.out).2.1); (case side5 => exact pS ((Kd.R_reads' HO625.out).2.2)); (case side6 => exact (Kd.R_reads' HO625.out).2.1); (case side7 => exact pS ((Kd.R_reads' HO627.out).2.2)); (case side8 => exact (Kd.R_reads' HO627.out).2.1); rintro e w12 ⟨v630, rfl, ho0, hb⟩; refine ⟨_, rfl, ?_⟩; have n0_ := Aside0.mk (Kd.R_below (pR HO621) hb); have n1_ := Aside0.mk (Kd.R_below (pR HO623) hb); have n2_ := Aside0.mk (Kd.R_elder' (pR HO625) (Kd.R_base ho0) hb); have n3_ := Aside0.mk (Kd.R_elder' (pR HO627) (Kd.R_base ho0) hb); have n4_ := Aside0.mk (Kd.R_lower (Kd.R_new' (Kd.R_new' ho0 (Kd.R_lt (pR HO625))) (Kd.R_lt (pR HO627))) (below_size pB)); have n5_ := Aside0.mk (below_step pB hb); clear HO621; clear HO623; clear HO625; clear HO627; clear HB; have HO621 := n0_; have HO623 := n1_; have HO625 := n2_; have HO627 := n3_; have HO631 := n4_; have HB := n5_; clear n0_ n1_ n2_ n3_ n4_ n5_; (try clear hb); (try clear hb2); (try clear hk); (try clear hi); (try clear ho0)) | ((with_reducible refine gate_callee (f := 42) rfl ?_); refine goesL_ (some 38) rfl rfl Try.func42 pL rfl #[.slice Ao8 t616.length co8, .slice Ao9 t617.length co9, .slice Ao10 t618.length co10, .slice Ao11 t619.length co11] rfl pM ?_; (with_reducible refine (spec_SwapNeeds.calls k _ _ t616 _ _ t617 _ _ t618 _ _ t619 t632 t633 _ ?side1 ?side2 ?side3 ?side4 ?side5 ?side6 ?side7 ?side8 A5.out).mono ?_); (case side1 => exact pS ((Kd.R_reads' HO621.out).2.2)); (case side2 => exact (Kd.R_reads' HO621.out).2.1); (case side3 => exact pS ((Kd.R_reads' HO623.out).2.2)); (case side4 => exact (Kd.R_reads' HO623.out).2.1); (case side5 => exact pS ((Kd.R_reads' HO625.out).2.2)); (case side6 => exact (Kd.R_reads' HO625.out).2.1); (case side7 => exact pS ((Kd.R_reads' HO627.out).2.2)); (case side8 => exact (Kd.R_reads' HO627.out).2.1); rintro e w13 ⟨v634, rfl, ho0, hb⟩; refine ⟨_, rfl, ?_⟩; have n0_ := Aside0.mk (Kd.R_below (pR HO621) hb); have n1_ := Aside0.mk (Kd.R_below (pR HO623) hb); have n2_ := Aside0.mk (Kd.R_elder' (pR HO625) (Kd.R_base ho0) hb); have n3_ := Aside0.mk (Kd.R_elder' (pR HO627) (Kd.R_base ho0) hb); have n4_ := Aside0.mk (Kd.R_elder' (pR HO631) (Kd.R_base ho0) hb); have n5_ := Aside0.mk (Kd.R_lower (Kd.R_new' (Kd.R_new' (Kd.R_new' ho0 (Kd.R_lt (pR HO625))) (Kd.R_lt (pR HO627))) (Kd.R_lt (pR HO631))) (below_size pB)); have n6_ := Aside0.mk (below_step pB hb); clear HO621; clear HO623; clear HO625; clear HO627; clear HO631; clear HB; have HO621 := n0_; have HO623 := n1_; have HO625 := n2_; have HO627 := n3_; have HO631 := n4_; have HO635 := n5_; have HB := n6_; clear n0_ n1_ n2_ n3_ n4_ n5_ n6_; (try clear hb); (try clear hb2); (try clear hk); (try clear hi); (try clear ho0)))
  (try simp only [Act.put, List.setIfInBounds_toArray, List.set_cons_zero, List.set_cons_succ])
  go_cut [53] (fun v53 wc => ∃ (kq : Nat) (x53_5 : Bool), v53 = .bool x53_5 ∧ Aside0 (laws_FnSwapNone.j0 kq t616 t617 t618 t619 t628 t629 t632 t633 x53_5 = some r) ∧ Aside0 (kq ≤ k) ∧ Aside0 (Kd.R k41 41 wc w.heap.size (fun _ => True) (.slice Ao8 t616.length co8) t616) ∧ Aside0 (Kd.R k62 62 wc w.heap.size (fun _ => True) (.slice Ao9 t617.length co9) t617) ∧ Aside0 (Kd.R (Kd.int .i64) 3 wc w.heap.size (fun k_ => some k_ ≠ ((.slice Ao11 t619.length co11) : Value).ownBlock ∧ some k_ ≠ (v630 : Value).ownBlock ∧ some k_ ≠ (v634 : Value).ownBlock) (.slice Ao10 t618.length co10) t618) ∧ Aside0 (Kd.R (Kd.int .i64) 3 wc w.heap.size (fun k_ => some k_ ≠ ((.slice Ao10 t618.length co10) : Value).ownBlock ∧ some k_ ≠ (v630 : Value).ownBlock ∧ some k_ ≠ (v634 : Value).ownBlock) (.slice Ao11 t619.length co11) t619) ∧ Aside0 (Kd.R (Kd.int .i64) 3 wc w.heap.size (fun k_ => some k_ ≠ ((.slice Ao10 t618.length co10) : Value).ownBlock ∧ some k_ ≠ ((.slice Ao11 t619.length co11) : Value).ownBlock ∧ some k_ ≠ (v634 : Value).ownBlock) v630 t628) ∧ Aside0 (Kd.R (Kd.int .i64) 3 wc w.heap.size (fun k_ => some k_ ≠ ((.slice Ao10 t618.length co10) : Value).ownBlock ∧ some k_ ≠ ((.slice Ao11 t619.length co11) : Value).ownBlock ∧ some k_ ≠ (v630 : Value).ownBlock) v634 t632) ∧ Aside0 (Below w.heap.size w wc))
  case first =>
   have H := HC6.out
   clear HC6
   by_cases c14 : (t629 != t633) = true
   ·rw [if_pos c14] at H
    have c14b0 : (t629 != t633) = true := c14
    (try (have c14b1 : decide (t629 = t633) = false := by simpa using c14))
    (try (have c14b2 : (t629 == t633) = false := by simpa using c14))
    (try (have c14b3 : ¬ (t629 = t633) := by simpa using c14))
    clear c14
    (first | rw [c14b0] | (simp only [i64_w, i32_w]; rw [c14b0]) | skip)
    have H' := Aside0.mk H
    clear H
    go_wp2
    go_meet
    case rel => exact ⟨_, (true), pF, H', ⟨by first | omega | exact Nat.le_refl _⟩, ⟨pR HO621⟩, ⟨pR HO623⟩, ⟨by (with_reducible repeat (first | apply Kd.R_alloc | apply Kd.R_drewN | apply Kd.R_drew)); exact Kd.R_mono HO625.out (fun _ hk => ⟨hk.1.1, ⟨hk.1.2, hk.2⟩⟩)⟩, ⟨by (with_reducible repeat (first | apply Kd.R_alloc | apply Kd.R_drewN | apply Kd.R_drew)); exact Kd.R_mono HO627.out (fun _ hk => ⟨hk.1.1, ⟨hk.1.2, hk.2⟩⟩)⟩, ⟨by (with_reducible repeat (first | apply Kd.R_alloc | apply Kd.R_drewN | apply Kd.R_drew)); exact Kd.R_mono HO631.out (fun _ hk => ⟨hk.1.1.2, ⟨hk.1.2, hk.2⟩⟩)⟩, ⟨by (with_reducible repeat (first | apply Kd.R_alloc | apply Kd.R_drewN | apply Kd.R_drew)); exact Kd.R_mono HO635.out (fun _ hk => ⟨hk.1.1.2, ⟨hk.1.2, hk.2⟩⟩)⟩, ⟨pB⟩⟩
   ·rw [if_neg c14] at H
    have c14b0 : (t629 != t633) = false := by simpa using c14
    (try (have c14b1 : decide (t629 = t633) = true := by simpa using c14))
    (try (have c14b2 : (t629 == t633) = true := by simpa using c14))
    clear c14
    (first | rw [c14b0] | (simp only [i64_w, i32_w]; rw [c14b0]) | skip)
    replace H := Option.bind_eq_some_iff.mp H
    obtain ⟨t636, A150, H⟩ := H
    replace H : (if t636 = true then (laws_FnSwapNone.j0 k t616 t617 t618 t619 t628 t629 t632 t633 (!t629)) else (laws_FnSwapNone.j0 k t616 t617 t618 t619 t628 t629 t632 t633 true)) = some r := H
    have A15 := Aside0.mk A150
    clear A150
    by_cases c16 : t636 = true
    ·subst c16
     have H1 : (laws_FnSwapNone.j0 k t616 t617 t618 t619 t628 t629 t632 t633 (!t629)) = some r := by rw [if_pos rfl] at H; exact H
     clear H
     have H := H1
     clear H1
     have H' := Aside0.mk H
     clear H
     obtain ⟨Ao17, co17, eo17⟩ := Kd.R_slice HO631.out
     subst eo17
     obtain ⟨Ao18, co18, eo18⟩ := Kd.R_slice HO635.out
     subst eo18
     go_wp2_with (first | (go_at_call 34; (with_reducible refine (laws_sameInts.calls k _ _ t628 _ _ t632 true _ ?side1 ?side2 ?side3 ?side4 A15.out).mono ?_); (case side1 => exact pS ((Kd.R_reads' HO631.out).2.2)); (case side2 => exact (Kd.R_reads' HO631.out).2.1); (case side3 => exact pS ((Kd.R_reads' HO635.out).2.2)); (case side4 => exact (Kd.R_reads' HO635.out).2.1); rintro e w' ⟨rfl, ⟨nd, rfl⟩⟩))
     go_meet
     case rel => exact ⟨_, (!t629), pF, H', ⟨by first | omega | exact Nat.le_refl _⟩, ⟨pR HO621⟩, ⟨pR HO623⟩, ⟨by (with_reducible repeat (first | apply Kd.R_alloc | apply Kd.R_drewN | apply Kd.R_drew)); exact Kd.R_mono HO625.out (fun _ hk => ⟨hk.1.1, ⟨hk.1.2, hk.2⟩⟩)⟩, ⟨by (with_reducible repeat (first | apply Kd.R_alloc | apply Kd.R_drewN | apply Kd.R_drew)); exact Kd.R_mono HO627.out (fun _ hk => ⟨hk.1.1, ⟨hk.1.2, hk.2⟩⟩)⟩, ⟨by (with_reducible repeat (first | apply Kd.R_alloc | apply Kd.R_drewN | apply Kd.R_drew)); exact Kd.R_mono HO631.out (fun _ hk => ⟨hk.1.1.2, ⟨hk.1.2, hk.2⟩⟩)⟩, ⟨by (with_reducible repeat (first | apply Kd.R_alloc | apply Kd.R_drewN | apply Kd.R_drew)); exact Kd.R_mono HO635.out (fun _ hk => ⟨hk.1.1.2, ⟨hk.1.2, hk.2⟩⟩)⟩, ⟨pB⟩⟩
    ·replace c16 := Bool.eq_false_iff.mpr c16
     subst c16
     have H1 : (laws_FnSwapNone.j0 k t616 t617 t618 t619 t628 t629 t632 t633 true) = some r := by rw [if_neg (show ¬ (false = true) by decide)] at H; exact H
     clear H
     have H := H1
     clear H1
     have H' := Aside0.mk H
     clear H
     obtain ⟨Ao19, co19, eo19⟩ := Kd.R_slice HO631.out
     subst eo19
     obtain ⟨Ao20, co20, eo20⟩ := Kd.R_slice HO635.out
     subst eo20
     go_wp2_with (first | (go_at_call 34; (with_reducible refine (laws_sameInts.calls k _ _ t628 _ _ t632 false _ ?side1 ?side2 ?side3 ?side4 A15.out).mono ?_); (case side1 => exact pS ((Kd.R_reads' HO631.out).2.2)); (case side2 => exact (Kd.R_reads' HO631.out).2.1); (case side3 => exact pS ((Kd.R_reads' HO635.out).2.2)); (case side4 => exact (Kd.R_reads' HO635.out).2.1); rintro e w' ⟨rfl, ⟨nd, rfl⟩⟩))
     go_meet
     case rel => exact ⟨_, (true), pF, H', ⟨by first | omega | exact Nat.le_refl _⟩, ⟨pR HO621⟩, ⟨pR HO623⟩, ⟨by (with_reducible repeat (first | apply Kd.R_alloc | apply Kd.R_drewN | apply Kd.R_drew)); exact Kd.R_mono HO625.out (fun _ hk => ⟨hk.1.1, ⟨hk.1.2, hk.2⟩⟩)⟩, ⟨by (with_reducible repeat (first | apply Kd.R_alloc | apply Kd.R_drewN | apply Kd.R_drew)); exact Kd.R_mono HO627.out (fun _ hk => ⟨hk.1.1, ⟨hk.1.2, hk.2⟩⟩)⟩, ⟨by (with_reducible repeat (first | apply Kd.R_alloc | apply Kd.R_drewN | apply Kd.R_drew)); exact Kd.R_mono HO631.out (fun _ hk => ⟨hk.1.1.2, ⟨hk.1.2, hk.2⟩⟩)⟩, ⟨by (with_reducible repeat (first | apply Kd.R_alloc | apply Kd.R_drewN | apply Kd.R_drew)); exact Kd.R_mono HO635.out (fun _ hk => ⟨hk.1.1.2, ⟨hk.1.2, hk.2⟩⟩)⟩, ⟨pB⟩⟩
  case rest =>
   clear HC6
   try clear c1
   try clear c2
   try clear c2b0
   try clear c2b1
   try clear p2
   try clear c4
   try clear c10
   try clear c14
   try clear c14b0
   try clear c14b1
   try clear c14b2
   try clear c16
   obtain ⟨kq, x53_5, rfl, HA, HJ5, HO_3, HO_4, HO_5, HO_6, HO_7, HO_9, HB⟩ := hcut
   cases kq with
   | zero => exact absurd HA.out (by simp [laws_FnSwapNone.j0])
   | succ kj5 =>
    have H := HA.out
    clear HA
    simp only [laws_FnSwapNone.j0] at H
    by_cases c21 : x53_5 = true
    ·subst c21
     have H1 : (if (t629 == t633) = true then ((laws_sameInts.f kj5 t628 t632).bind fun t637 => (some t637)) else (some false)) = some r := by rw [if_pos rfl] at H; exact H
     clear H
     have H := H1
     clear H1
     by_cases c22 : (t629 == t633) = true
     ·rw [if_pos c22] at H
      have c22b0 : (t629 == t633) = true := c22
      (try (have c22b1 : decide (t629 = t633) = true := by simpa using c22))
      (try (have c22b2 : (t629 == t633) = true := by simpa using c22))
      clear c22
      replace H := Option.bind_eq_some_iff.mp H
      obtain ⟨t637, A230, H⟩ := H
      replace H : (some t637) = some r := H
      have A23 := Aside0.mk A230
      clear A230
      obtain rfl := Option.some.inj H
      obtain ⟨Ao24, co24, eo24⟩ := Kd.R_slice HO_7.out
      subst eo24
      obtain ⟨Ao25, co25, eo25⟩ := Kd.R_slice HO_9.out
      subst eo25
      go_wp2_with (first | (go_at_call 34; (with_reducible refine (laws_sameInts.calls kj5 _ _ t628 _ _ t632 t637 _ ?side1 ?side2 ?side3 ?side4 A23.out).mono ?_); (case side1 => exact pS ((Kd.R_reads' HO_7.out).2.2)); (case side2 => exact (Kd.R_reads' HO_7.out).2.1); (case side3 => exact pS ((Kd.R_reads' HO_9.out).2.2)); (case side4 => exact (Kd.R_reads' HO_9.out).2.1); rintro e w' ⟨rfl, ⟨nd, rfl⟩⟩))
      go_ret
      exact ⟨pE, pB⟩
     ·rw [if_neg c22] at H
      have c22b0 : (t629 == t633) = false := by simpa using c22
      (try (have c22b1 : decide (t629 = t633) = false := by simpa using c22))
      (try (have c22b2 : (t629 == t633) = false := by simpa using c22))
      (try (have c22b3 : ¬ (t629 = t633) := by simpa using c22))
      clear c22
      obtain rfl := Option.some.inj H
      go_wp2
      go_ret
      exact ⟨pE, pB⟩
    ·replace c21 := Bool.eq_false_iff.mpr c21
     subst c21
     have H1 : ((impl_SwapNeeds.f kj5 t616 t617 t618 (([] : List Int))).bind fun bt641 => ((impl_SwapNeeds.f kj5 t616 t617 t628 t619).bind fun bt645 => (if bt641.2 = true then (if bt645.2 = true then ((laws_sameInts.f kj5 bt641.1 t618).bind fun t649 => (if t649 = true then ((laws_sameInts.f kj5 bt645.1 t628).bind fun t650 => (some t650)) else (some false))) else (some false)) else (some false)))) = some r := by rw [if_neg (show ¬ (false = true) by decide)] at H; exact H
     clear H
     have H := H1
     clear H1
     obtain ⟨y638, hy638⟩ : ∃ y_ : List Int, y_ = (([] : List Int)) := ⟨_, rfl⟩
     replace H : ((impl_SwapNeeds.f kj5 t616 t617 t618 y638).bind fun bt641 => ((impl_SwapNeeds.f kj5 t616 t617 t628 t619).bind fun bt645 => (if bt641.2 = true then (if bt645.2 = true then ((laws_sameInts.f kj5 bt641.1 t618).bind fun t649 => (if t649 = true then ((laws_sameInts.f kj5 bt645.1 t628).bind fun t650 => (some t650)) else (some false))) else (some false)) else (some false)))) = some r := by first | (rw [hy638]; with_reducible exact H) | (have H2_ := (Option.bind_some _ _).symm.trans H; rw [hy638]; with_reducible exact H2_) | (have H2_ := (Option.bind_some _ _).symm.trans H; with_reducible exact H2_) | with_reducible exact H | (rw [hy638]; exact H) | exact H
     have Ny638 := Aside0.mk hy638
     clear hy638
     replace H := Option.bind_eq_some_iff.mp H
     obtain ⟨⟨t641, t642⟩, A260, H⟩ := H
     replace H : ((impl_SwapNeeds.f kj5 t616 t617 t628 t619).bind fun bt645 => (if t642 = true then (if bt645.2 = true then ((laws_sameInts.f kj5 t641 t618).bind fun t649 => (if t649 = true then ((laws_sameInts.f kj5 bt645.1 t628).bind fun t650 => (some t650)) else (some false))) else (some false)) else (some false))) = some r := H
     have A26 := Aside0.mk A260
     clear A260
     replace H := Option.bind_eq_some_iff.mp H
     obtain ⟨⟨t645, t646⟩, A270, H⟩ := H
     replace H : (if t642 = true then (if t646 = true then ((laws_sameInts.f kj5 t641 t618).bind fun t649 => (if t649 = true then ((laws_sameInts.f kj5 t645 t628).bind fun t650 => (some t650)) else (some false))) else (some false)) else (some false)) = some r := H
     have A27 := Aside0.mk A270
     clear A270
     by_cases c28 : t642 = true
     ·subst c28
      have H1 : (if t646 = true then ((laws_sameInts.f kj5 t641 t618).bind fun t649 => (if t649 = true then ((laws_sameInts.f kj5 t645 t628).bind fun t650 => (some t650)) else (some false))) else (some false)) = some r := by rw [if_pos rfl] at H; exact H
      clear H
      have H := H1
      clear H1
      by_cases c29 : t646 = true
      ·subst c29
       have H1 : ((laws_sameInts.f kj5 t641 t618).bind fun t649 => (if t649 = true then ((laws_sameInts.f kj5 t645 t628).bind fun t650 => (some t650)) else (some false))) = some r := by rw [if_pos rfl] at H; exact H
       clear H
       have H := H1
       clear H1
       replace H := Option.bind_eq_some_iff.mp H
       obtain ⟨t649, A300, H⟩ := H
       replace H : (if t649 = true then ((laws_sameInts.f kj5 t645 t628).bind fun t650 => (some t650)) else (some false)) = some r := H
       have A30 := Aside0.mk A300
       clear A300
       by_cases c31 : t649 = true
       ·subst c31
        have H1 : ((laws_sameInts.f kj5 t645 t628).bind fun t650 => (some t650)) = some r := by rw [if_pos rfl] at H; exact H
        clear H
        have H := H1
        clear H1
        replace H := Option.bind_eq_some_iff.mp H
        obtain ⟨t650, A320, H⟩ := H
        replace H : (some t650) = some r := H
        have A32 := Aside0.mk A320
        clear A320
        obtain rfl := Option.some.inj H
        go_wp2_with (first | ((with_reducible refine gate_dst (N := 66) rfl ?_); refine Kd.R_lit (Kd.int .i64) _ 3 ?hg (N := 66) ?hd (xs := ([] : List Int)) (inner := []) (ok := fun _ => True) (okp := fun _ => True) ?hr ?hp (fun _ hk => hk) trivial (Below.refl _ _) (Nat.le_refl _) (by simp) ?_; (case hd => rfl); (case hg => rfl); (case hr => first | (go_simp; done) | (go_simp; rfl)); (case hp => exact (Reps.none _ _)); intro v639 w33 ho34 hb hg_ hnew_; clear hg_ hnew_; (first | rw [← Ny638.out] at ho34 | (simp only [Int.reduceToNat] at ho34; rw [← Ny638.out] at ho34)); have n0_ := Aside0.mk (Kd.R_below (pR HO_3) hb); have n1_ := Aside0.mk (Kd.R_below (pR HO_4) hb); have n2_ := Aside0.mk (Kd.R_elder' (pR HO_5) (Kd.R_base ho34) hb); have n3_ := Aside0.mk (Kd.R_elder' (pR HO_6) (Kd.R_base ho34) hb); have n4_ := Aside0.mk (Kd.R_elder' (pR HO_7) (Kd.R_base ho34) hb); have n5_ := Aside0.mk (Kd.R_elder' (pR HO_9) (Kd.R_base ho34) hb); have n6_ := Aside0.mk (Kd.R_lower (Kd.R_new' (Kd.R_new' (Kd.R_new' (Kd.R_new' ho34 (Kd.R_lt (pR HO_5))) (Kd.R_lt (pR HO_6))) (Kd.R_lt (pR HO_7))) (Kd.R_lt (pR HO_9))) (below_size pB)); have n7_ := Aside0.mk (below_step pB hb); clear HO_3; clear HO_4; clear HO_5; clear HO_6; clear HO_7; clear HO_9; clear HB; have HO_3 := n0_; have HO_4 := n1_; have HO_5 := n2_; have HO_6 := n3_; have HO_7 := n4_; have HO_9 := n5_; have HO640 := n6_; have HB := n7_; clear n0_ n1_ n2_ n3_ n4_ n5_ n6_ n7_; clear hb ho34; obtain ⟨Ao35, co35, eo35⟩ := Kd.R_slice HO640.out; subst eo35) | ((with_reducible refine gate_callee (f := 41) rfl ?_); refine goesL_ (some 67) rfl rfl Try.func41 pL rfl #[.slice Ao8 t616.length co8, .slice Ao9 t617.length co9, .slice Ao10 t618.length co10, .slice Ao35 y638.length co35] rfl pM ?_; (with_reducible refine (impl_SwapNeeds.calls kj5 _ _ t616 _ _ t617 _ _ t618 _ _ y638 t641 true _ ?side1 ?side2 ?side3 ?side4 ?side5 ?side6 ?side7 ?side8 A26.out).mono ?_); (case side1 => exact pS ((Kd.R_reads' HO_3.out).2.2)); (case side2 => exact (Kd.R_reads' HO_3.out).2.1); (case side3 => exact pS ((Kd.R_reads' HO_4.out).2.2)); (case side4 => exact (Kd.R_reads' HO_4.out).2.1); (case side5 => exact pS ((Kd.R_reads' HO_5.out).2.2)); (case side6 => exact (Kd.R_reads' HO_5.out).2.1); (case side7 => exact pS ((Kd.R_reads' HO640.out).2.2)); (case side8 => exact (Kd.R_reads' HO640.out).2.1); rintro e w36 ⟨v643, rfl, ho0, hb⟩; refine ⟨_, rfl, ?_⟩; have n0_ := Aside0.mk (Kd.R_below (pR HO_3) hb); have n1_ := Aside0.mk (Kd.R_below (pR HO_4) hb); have n2_ := Aside0.mk (Kd.R_elder' (pR HO_5) (Kd.R_base ho0) hb); have n3_ := Aside0.mk (Kd.R_elder' (pR HO_6) (Kd.R_base ho0) hb); have n4_ := Aside0.mk (Kd.R_elder' (pR HO_7) (Kd.R_base ho0) hb); have n5_ := Aside0.mk (Kd.R_elder' (pR HO_9) (Kd.R_base ho0) hb); have n6_ := Aside0.mk (Kd.R_elder' (pR HO640) (Kd.R_base ho0) hb); have n7_ := Aside0.mk (Kd.R_lower (Kd.R_new' (Kd.R_new' (Kd.R_new' (Kd.R_new' (Kd.R_new' ho0 (Kd.R_lt (pR HO_5))) (Kd.R_lt (pR HO_6))) (Kd.R_lt (pR HO_7))) (Kd.R_lt (pR HO_9))) (Kd.R_lt (pR HO640))) (below_size pB)); have n8_ := Aside0.mk (below_step pB hb); clear HO_3; clear HO_4; clear HO_5; clear HO_6; clear HO_7; clear HO_9; clear HO640; clear HB; have HO_3 := n0_; have HO_4 := n1_; have HO_5 := n2_; have HO_6 := n3_; have HO_7 := n4_; have HO_9 := n5_; have HO640 := n6_; have HO644 := n7_; have HB := n8_; clear n0_ n1_ n2_ n3_ n4_ n5_ n6_ n7_ n8_; (try clear hb); (try clear hb2); (try clear hk); (try clear hi); (try clear ho0); obtain ⟨Ao37, co37, eo37⟩ := Kd.R_slice HO_7.out; subst eo37) | ((with_reducible refine gate_callee (f := 41) rfl ?_); refine goesL_ (some 75) rfl rfl Try.func41 pL rfl #[.slice Ao8 t616.length co8, .slice Ao9 t617.length co9, .slice Ao37 t628.length co37, .slice Ao11 t619.length co11] rfl pM ?_; (with_reducible refine (impl_SwapNeeds.calls kj5 _ _ t616 _ _ t617 _ _ t628 _ _ t619 t645 true _ ?side1 ?side2 ?side3 ?side4 ?side5 ?side6 ?side7 ?side8 A27.out).mono ?_); (case side1 => exact pS ((Kd.R_reads' HO_3.out).2.2)); (case side2 => exact (Kd.R_reads' HO_3.out).2.1); (case side3 => exact pS ((Kd.R_reads' HO_4.out).2.2)); (case side4 => exact (Kd.R_reads' HO_4.out).2.1); (case side5 => exact pS ((Kd.R_reads' HO_7.out).2.2)); (case side6 => exact (Kd.R_reads' HO_7.out).2.1); (case side7 => exact pS ((Kd.R_reads' HO_6.out).2.2)); (case side8 => exact (Kd.R_reads' HO_6.out).2.1); rintro e w38 ⟨v647, rfl, ho0, hb⟩; refine ⟨_, rfl, ?_⟩; have n0_ := Aside0.mk (Kd.R_below (pR HO_3) hb); have n1_ := Aside0.mk (Kd.R_below (pR HO_4) hb); have n2_ := Aside0.mk (Kd.R_elder' (pR HO_5) (Kd.R_base ho0) hb); have n3_ := Aside0.mk (Kd.R_elder' (pR HO_6) (Kd.R_base ho0) hb); have n4_ := Aside0.mk (Kd.R_elder' (pR HO_7) (Kd.R_base ho0) hb); have n5_ := Aside0.mk (Kd.R_elder' (pR HO_9) (Kd.R_base ho0) hb); have n6_ := Aside0.mk (Kd.R_elder' (pR HO640) (Kd.R_base ho0) hb); have n7_ := Aside0.mk (Kd.R_elder' (pR HO644) (Kd.R_base ho0) hb); have n8_ := Aside0.mk (Kd.R_lower (Kd.R_new' (Kd.R_new' (Kd.R_new' (Kd.R_new' (Kd.R_new' (Kd.R_new' ho0 (Kd.R_lt (pR HO_5))) (Kd.R_lt (pR HO_6))) (Kd.R_lt (pR HO_7))) (Kd.R_lt (pR HO_9))) (Kd.R_lt (pR HO640))) (Kd.R_lt (pR HO644))) (below_size pB)); have n9_ := Aside0.mk (below_step pB hb); clear HO_3; clear HO_4; clear HO_5; clear HO_6; clear HO_7; clear HO_9; clear HO640; clear HO644; clear HB; have HO_3 := n0_; have HO_4 := n1_; have HO_5 := n2_; have HO_6 := n3_; have HO_7 := n4_; have HO_9 := n5_; have HO640 := n6_; have HO644 := n7_; have HO648 := n8_; have HB := n9_; clear n0_ n1_ n2_ n3_ n4_ n5_ n6_ n7_ n8_ n9_; (try clear hb); (try clear hb2); (try clear hk); (try clear hi); (try clear ho0); obtain ⟨Ao39, co39, eo39⟩ := Kd.R_slice HO644.out; subst eo39) | (go_at_call 34; (with_reducible refine (laws_sameInts.calls kj5 _ _ t641 _ _ t618 true _ ?side1 ?side2 ?side3 ?side4 A30.out).mono ?_); (case side1 => exact pS ((Kd.R_reads' HO644.out).2.2)); (case side2 => exact (Kd.R_reads' HO644.out).2.1); (case side3 => exact pS ((Kd.R_reads' HO_5.out).2.2)); (case side4 => exact (Kd.R_reads' HO_5.out).2.1); rintro e w' ⟨rfl, ⟨nd, rfl⟩⟩; obtain ⟨Ao40, co40, eo40⟩ := Kd.R_slice HO648.out; subst eo40) | (go_at_call 34; (with_reducible refine (laws_sameInts.calls kj5 _ _ t645 _ _ t628 t650 _ ?side1 ?side2 ?side3 ?side4 A32.out).mono ?_); (case side1 => exact pS ((Kd.R_reads' HO648.out).2.2)); (case side2 => exact (Kd.R_reads' HO648.out).2.1); (case side3 => exact pS ((Kd.R_reads' HO_7.out).2.2)); (case side4 => exact (Kd.R_reads' HO_7.out).2.1); rintro e w' ⟨rfl, ⟨nd, rfl⟩⟩))
        go_ret
        exact ⟨pE, pB⟩
       ·replace c31 := Bool.eq_false_iff.mpr c31
        subst c31
        have H1 : (some false) = some r := by rw [if_neg (show ¬ (false = true) by decide)] at H; exact H
        clear H
        have H := H1
        clear H1
        obtain rfl := Option.some.inj H
        go_wp2_with (first | ((with_reducible refine gate_dst (N := 66) rfl ?_); refine Kd.R_lit (Kd.int .i64) _ 3 ?hg (N := 66) ?hd (xs := ([] : List Int)) (inner := []) (ok := fun _ => True) (okp := fun _ => True) ?hr ?hp (fun _ hk => hk) trivial (Below.refl _ _) (Nat.le_refl _) (by simp) ?_; (case hd => rfl); (case hg => rfl); (case hr => first | (go_simp; done) | (go_simp; rfl)); (case hp => exact (Reps.none _ _)); intro v639 w41 ho42 hb hg_ hnew_; clear hg_ hnew_; (first | rw [← Ny638.out] at ho42 | (simp only [Int.reduceToNat] at ho42; rw [← Ny638.out] at ho42)); have n0_ := Aside0.mk (Kd.R_below (pR HO_3) hb); have n1_ := Aside0.mk (Kd.R_below (pR HO_4) hb); have n2_ := Aside0.mk (Kd.R_elder' (pR HO_5) (Kd.R_base ho42) hb); have n3_ := Aside0.mk (Kd.R_elder' (pR HO_6) (Kd.R_base ho42) hb); have n4_ := Aside0.mk (Kd.R_elder' (pR HO_7) (Kd.R_base ho42) hb); have n5_ := Aside0.mk (Kd.R_elder' (pR HO_9) (Kd.R_base ho42) hb); have n6_ := Aside0.mk (Kd.R_lower (Kd.R_new' (Kd.R_new' (Kd.R_new' (Kd.R_new' ho42 (Kd.R_lt (pR HO_5))) (Kd.R_lt (pR HO_6))) (Kd.R_lt (pR HO_7))) (Kd.R_lt (pR HO_9))) (below_size pB)); have n7_ := Aside0.mk (below_step pB hb); clear HO_3; clear HO_4; clear HO_5; clear HO_6; clear HO_7; clear HO_9; clear HB; have HO_3 := n0_; have HO_4 := n1_; have HO_5 := n2_; have HO_6 := n3_; have HO_7 := n4_; have HO_9 := n5_; have HO640 := n6_; have HB := n7_; clear n0_ n1_ n2_ n3_ n4_ n5_ n6_ n7_; clear hb ho42; obtain ⟨Ao43, co43, eo43⟩ := Kd.R_slice HO640.out; subst eo43) | ((with_reducible refine gate_callee (f := 41) rfl ?_); refine goesL_ (some 67) rfl rfl Try.func41 pL rfl #[.slice Ao8 t616.length co8, .slice Ao9 t617.length co9, .slice Ao10 t618.length co10, .slice Ao43 y638.length co43] rfl pM ?_; (with_reducible refine (impl_SwapNeeds.calls kj5 _ _ t616 _ _ t617 _ _ t618 _ _ y638 t641 true _ ?side1 ?side2 ?side3 ?side4 ?side5 ?side6 ?side7 ?side8 A26.out).mono ?_); (case side1 => exact pS ((Kd.R_reads' HO_3.out).2.2)); (case side2 => exact (Kd.R_reads' HO_3.out).2.1); (case side3 => exact pS ((Kd.R_reads' HO_4.out).2.2)); (case side4 => exact (Kd.R_reads' HO_4.out).2.1); (case side5 => exact pS ((Kd.R_reads' HO_5.out).2.2)); (case side6 => exact (Kd.R_reads' HO_5.out).2.1); (case side7 => exact pS ((Kd.R_reads' HO640.out).2.2)); (case side8 => exact (Kd.R_reads' HO640.out).2.1); rintro e w44 ⟨v643, rfl, ho0, hb⟩; refine ⟨_, rfl, ?_⟩; have n0_ := Aside0.mk (Kd.R_below (pR HO_3) hb); have n1_ := Aside0.mk (Kd.R_below (pR HO_4) hb); have n2_ := Aside0.mk (Kd.R_elder' (pR HO_5) (Kd.R_base ho0) hb); have n3_ := Aside0.mk (Kd.R_elder' (pR HO_6) (Kd.R_base ho0) hb); have n4_ := Aside0.mk (Kd.R_elder' (pR HO_7) (Kd.R_base ho0) hb); have n5_ := Aside0.mk (Kd.R_elder' (pR HO_9) (Kd.R_base ho0) hb); have n6_ := Aside0.mk (Kd.R_elder' (pR HO640) (Kd.R_base ho0) hb); have n7_ := Aside0.mk (Kd.R_lower (Kd.R_new' (Kd.R_new' (Kd.R_new' (Kd.R_new' (Kd.R_new' ho0 (Kd.R_lt (pR HO_5))) (Kd.R_lt (pR HO_6))) (Kd.R_lt (pR HO_7))) (Kd.R_lt (pR HO_9))) (Kd.R_lt (pR HO640))) (below_size pB)); have n8_ := Aside0.mk (below_step pB hb); clear HO_3; clear HO_4; clear HO_5; clear HO_6; clear HO_7; clear HO_9; clear HO640; clear HB; have HO_3 := n0_; have HO_4 := n1_; have HO_5 := n2_; have HO_6 := n3_; have HO_7 := n4_; have HO_9 := n5_; have HO640 := n6_; have HO644 := n7_; have HB := n8_; clear n0_ n1_ n2_ n3_ n4_ n5_ n6_ n7_ n8_; (try clear hb); (try clear hb2); (try clear hk); (try clear hi); (try clear ho0); obtain ⟨Ao45, co45, eo45⟩ := Kd.R_slice HO_7.out; subst eo45) | ((with_reducible refine gate_callee (f := 41) rfl ?_); refine goesL_ (some 75) rfl rfl Try.func41 pL rfl #[.slice Ao8 t616.length co8, .slice Ao9 t617.length co9, .slice Ao45 t628.length co45, .slice Ao11 t619.length co11] rfl pM ?_; (with_reducible refine (impl_SwapNeeds.calls kj5 _ _ t616 _ _ t617 _ _ t628 _ _ t619 t645 true _ ?side1 ?side2 ?side3 ?side4 ?side5 ?side6 ?side7 ?side8 A27.out).mono ?_); (case side1 => exact pS ((Kd.R_reads' HO_3.out).2.2)); (case side2 => exact (Kd.R_reads' HO_3.out).2.1); (case side3 => exact pS ((Kd.R_reads' HO_4.out).2.2)); (case side4 => exact (Kd.R_reads' HO_4.out).2.1); (case side5 => exact pS ((Kd.R_reads' HO_7.out).2.2)); (case side6 => exact (Kd.R_reads' HO_7.out).2.1); (case side7 => exact pS ((Kd.R_reads' HO_6.out).2.2)); (case side8 => exact (Kd.R_reads' HO_6.out).2.1); rintro e w46 ⟨v647, rfl, ho0, hb⟩; refine ⟨_, rfl, ?_⟩; have n0_ := Aside0.mk (Kd.R_below (pR HO_3) hb); have n1_ := Aside0.mk (Kd.R_below (pR HO_4) hb); have n2_ := Aside0.mk (Kd.R_elder' (pR HO_5) (Kd.R_base ho0) hb); have n3_ := Aside0.mk (Kd.R_elder' (pR HO_6) (Kd.R_base ho0) hb); have n4_ := Aside0.mk (Kd.R_elder' (pR HO_7) (Kd.R_base ho0) hb); have n5_ := Aside0.mk (Kd.R_elder' (pR HO_9) (Kd.R_base ho0) hb); have n6_ := Aside0.mk (Kd.R_elder' (pR HO640) (Kd.R_base ho0) hb); have n7_ := Aside0.mk (Kd.R_elder' (pR HO644) (Kd.R_base ho0) hb); have n8_ := Aside0.mk (Kd.R_lower (Kd.R_new' (Kd.R_new' (Kd.R_new' (Kd.R_new' (Kd.R_new' (Kd.R_new' ho0 (Kd.R_lt (pR HO_5))) (Kd.R_lt (pR HO_6))) (Kd.R_lt (pR HO_7))) (Kd.R_lt (pR HO_9))) (Kd.R_lt (pR HO640))) (Kd.R_lt (pR HO644))) (below_size pB)); have n9_ := Aside0.mk (below_step pB hb); clear HO_3; clear HO_4; clear HO_5; clear HO_6; clear HO_7; clear HO_9; clear HO640; clear HO644; clear HB; have HO_3 := n0_; have HO_4 := n1_; have HO_5 := n2_; have HO_6 := n3_; have HO_7 := n4_; have HO_9 := n5_; have HO640 := n6_; have HO644 := n7_; have HO648 := n8_; have HB := n9_; clear n0_ n1_ n2_ n3_ n4_ n5_ n6_ n7_ n8_ n9_; (try clear hb); (try clear hb2); (try clear hk); (try clear hi); (try clear ho0); obtain ⟨Ao47, co47, eo47⟩ := Kd.R_slice HO644.out; subst eo47) | (go_at_call 34; (with_reducible refine (laws_sameInts.calls kj5 _ _ t641 _ _ t618 false _ ?side1 ?side2 ?side3 ?side4 A30.out).mono ?_); (case side1 => exact pS ((Kd.R_reads' HO644.out).2.2)); (case side2 => exact (Kd.R_reads' HO644.out).2.1); (case side3 => exact pS ((Kd.R_reads' HO_5.out).2.2)); (case side4 => exact (Kd.R_reads' HO_5.out).2.1); rintro e w' ⟨rfl, ⟨nd, rfl⟩⟩))
        go_ret
        exact ⟨pE, pB⟩
      ·replace c29 := Bool.eq_false_iff.mpr c29
       subst c29
       have H1 : (some false) = some r := by rw [if_neg (show ¬ (false = true) by decide)] at H; exact H
       clear H
       have H := H1
       clear H1
       obtain rfl := Option.some.inj H
       go_wp2_with (first | ((with_reducible refine gate_dst (N := 66) rfl ?_); refine Kd.R_lit (Kd.int .i64) _ 3 ?hg (N := 66) ?hd (xs := ([] : List Int)) (inner := []) (ok := fun _ => True) (okp := fun _ => True) ?hr ?hp (fun _ hk => hk) trivial (Below.refl _ _) (Nat.le_refl _) (by simp) ?_; (case hd => rfl); (case hg => rfl); (case hr => first | (go_simp; done) | (go_simp; rfl)); (case hp => exact (Reps.none _ _)); intro v639 w48 ho49 hb hg_ hnew_; clear hg_ hnew_; (first | rw [← Ny638.out] at ho49 | (simp only [Int.reduceToNat] at ho49; rw [← Ny638.out] at ho49)); have n0_ := Aside0.mk (Kd.R_below (pR HO_3) hb); have n1_ := Aside0.mk (Kd.R_below (pR HO_4) hb); have n2_ := Aside0.mk (Kd.R_elder' (pR HO_5) (Kd.R_base ho49) hb); have n3_ := Aside0.mk (Kd.R_elder' (pR HO_6) (Kd.R_base ho49) hb); have n4_ := Aside0.mk (Kd.R_elder' (pR HO_7) (Kd.R_base ho49) hb); have n5_ := Aside0.mk (Kd.R_elder' (pR HO_9) (Kd.R_base ho49) hb); have n6_ := Aside0.mk (Kd.R_lower (Kd.R_new' (Kd.R_new' (Kd.R_new' (Kd.R_new' ho49 (Kd.R_lt (pR HO_5))) (Kd.R_lt (pR HO_6))) (Kd.R_lt (pR HO_7))) (Kd.R_lt (pR HO_9))) (below_size pB)); have n7_ := Aside0.mk (below_step pB hb); clear HO_3; clear HO_4; clear HO_5; clear HO_6; clear HO_7; clear HO_9; clear HB; have HO_3 := n0_; have HO_4 := n1_; have HO_5 := n2_; have HO_6 := n3_; have HO_7 := n4_; have HO_9 := n5_; have HO640 := n6_; have HB := n7_; clear n0_ n1_ n2_ n3_ n4_ n5_ n6_ n7_; clear hb ho49; obtain ⟨Ao50, co50, eo50⟩ := Kd.R_slice HO640.out; subst eo50) | ((with_reducible refine gate_callee (f := 41) rfl ?_); refine goesL_ (some 67) rfl rfl Try.func41 pL rfl #[.slice Ao8 t616.length co8, .slice Ao9 t617.length co9, .slice Ao10 t618.length co10, .slice Ao50 y638.length co50] rfl pM ?_; (with_reducible refine (impl_SwapNeeds.calls kj5 _ _ t616 _ _ t617 _ _ t618 _ _ y638 t641 true _ ?side1 ?side2 ?side3 ?side4 ?side5 ?side6 ?side7 ?side8 A26.out).mono ?_); (case side1 => exact pS ((Kd.R_reads' HO_3.out).2.2)); (case side2 => exact (Kd.R_reads' HO_3.out).2.1); (case side3 => exact pS ((Kd.R_reads' HO_4.out).2.2)); (case side4 => exact (Kd.R_reads' HO_4.out).2.1); (case side5 => exact pS ((Kd.R_reads' HO_5.out).2.2)); (case side6 => exact (Kd.R_reads' HO_5.out).2.1); (case side7 => exact pS ((Kd.R_reads' HO640.out).2.2)); (case side8 => exact (Kd.R_reads' HO640.out).2.1); rintro e w51 ⟨v643, rfl, ho0, hb⟩; refine ⟨_, rfl, ?_⟩; have n0_ := Aside0.mk (Kd.R_below (pR HO_3) hb); have n1_ := Aside0.mk (Kd.R_below (pR HO_4) hb); have n2_ := Aside0.mk (Kd.R_elder' (pR HO_5) (Kd.R_base ho0) hb); have n3_ := Aside0.mk (Kd.R_elder' (pR HO_6) (Kd.R_base ho0) hb); have n4_ := Aside0.mk (Kd.R_elder' (pR HO_7) (Kd.R_base ho0) hb); have n5_ := Aside0.mk (Kd.R_elder' (pR HO_9) (Kd.R_base ho0) hb); have n6_ := Aside0.mk (Kd.R_elder' (pR HO640) (Kd.R_base ho0) hb); have n7_ := Aside0.mk (Kd.R_lower (Kd.R_new' (Kd.R_new' (Kd.R_new' (Kd.R_new' (Kd.R_new' ho0 (Kd.R_lt (pR HO_5))) (Kd.R_lt (pR HO_6))) (Kd.R_lt (pR HO_7))) (Kd.R_lt (pR HO_9))) (Kd.R_lt (pR HO640))) (below_size pB)); have n8_ := Aside0.mk (below_step pB hb); clear HO_3; clear HO_4; clear HO_5; clear HO_6; clear HO_7; clear HO_9; clear HO640; clear HB; have HO_3 := n0_; have HO_4 := n1_; have HO_5 := n2_; have HO_6 := n3_; have HO_7 := n4_; have HO_9 := n5_; have HO640 := n6_; have HO644 := n7_; have HB := n8_; clear n0_ n1_ n2_ n3_ n4_ n5_ n6_ n7_ n8_; (try clear hb); (try clear hb2); (try clear hk); (try clear hi); (try clear ho0); obtain ⟨Ao52, co52, eo52⟩ := Kd.R_slice HO_7.out; subst eo52) | ((with_reducible refine gate_callee (f := 41) rfl ?_); refine goesL_ (some 75) rfl rfl Try.func41 pL rfl #[.slice Ao8 t616.length co8, .slice Ao9 t617.length co9, .slice Ao52 t628.length co52, .slice Ao11 t619.length co11] rfl pM ?_; (with_reducible refine (impl_SwapNeeds.calls kj5 _ _ t616 _ _ t617 _ _ t628 _ _ t619 t645 false _ ?side1 ?side2 ?side3 ?side4 ?side5 ?side6 ?side7 ?side8 A27.out).mono ?_); (case side1 => exact pS ((Kd.R_reads' HO_3.out).2.2)); (case side2 => exact (Kd.R_reads' HO_3.out).2.1); (case side3 => exact pS ((Kd.R_reads' HO_4.out).2.2)); (case side4 => exact (Kd.R_reads' HO_4.out).2.1); (case side5 => exact pS ((Kd.R_reads' HO_7.out).2.2)); (case side6 => exact (Kd.R_reads' HO_7.out).2.1); (case side7 => exact pS ((Kd.R_reads' HO_6.out).2.2)); (case side8 => exact (Kd.R_reads' HO_6.out).2.1); rintro e w53 ⟨v647, rfl, ho0, hb⟩; refine ⟨_, rfl, ?_⟩; have n0_ := Aside0.mk (Kd.R_below (pR HO_3) hb); have n1_ := Aside0.mk (Kd.R_below (pR HO_4) hb); have n2_ := Aside0.mk (Kd.R_elder' (pR HO_5) (Kd.R_base ho0) hb); have n3_ := Aside0.mk (Kd.R_elder' (pR HO_6) (Kd.R_base ho0) hb); have n4_ := Aside0.mk (Kd.R_elder' (pR HO_7) (Kd.R_base ho0) hb); have n5_ := Aside0.mk (Kd.R_elder' (pR HO_9) (Kd.R_base ho0) hb); have n6_ := Aside0.mk (Kd.R_elder' (pR HO640) (Kd.R_base ho0) hb); have n7_ := Aside0.mk (Kd.R_elder' (pR HO644) (Kd.R_base ho0) hb); have n8_ := Aside0.mk (Kd.R_lower (Kd.R_new' (Kd.R_new' (Kd.R_new' (Kd.R_new' (Kd.R_new' (Kd.R_new' ho0 (Kd.R_lt (pR HO_5))) (Kd.R_lt (pR HO_6))) (Kd.R_lt (pR HO_7))) (Kd.R_lt (pR HO_9))) (Kd.R_lt (pR HO640))) (Kd.R_lt (pR HO644))) (below_size pB)); have n9_ := Aside0.mk (below_step pB hb); clear HO_3; clear HO_4; clear HO_5; clear HO_6; clear HO_7; clear HO_9; clear HO640; clear HO644; clear HB; have HO_3 := n0_; have HO_4 := n1_; have HO_5 := n2_; have HO_6 := n3_; have HO_7 := n4_; have HO_9 := n5_; have HO640 := n6_; have HO644 := n7_; have HO648 := n8_; have HB := n9_; clear n0_ n1_ n2_ n3_ n4_ n5_ n6_ n7_ n8_ n9_; (try clear hb); (try clear hb2); (try clear hk); (try clear hi); (try clear ho0)))
       go_ret
       exact ⟨pE, pB⟩
     ·replace c28 := Bool.eq_false_iff.mpr c28
      subst c28
      have H1 : (some false) = some r := by rw [if_neg (show ¬ (false = true) by decide)] at H; exact H
      clear H
      have H := H1
      clear H1
      obtain rfl := Option.some.inj H
      go_wp2_with (first | ((with_reducible refine gate_dst (N := 66) rfl ?_); refine Kd.R_lit (Kd.int .i64) _ 3 ?hg (N := 66) ?hd (xs := ([] : List Int)) (inner := []) (ok := fun _ => True) (okp := fun _ => True) ?hr ?hp (fun _ hk => hk) trivial (Below.refl _ _) (Nat.le_refl _) (by simp) ?_; (case hd => rfl); (case hg => rfl); (case hr => first | (go_simp; done) | (go_simp; rfl)); (case hp => exact (Reps.none _ _)); intro v639 w54 ho55 hb hg_ hnew_; clear hg_ hnew_; (first | rw [← Ny638.out] at ho55 | (simp only [Int.reduceToNat] at ho55; rw [← Ny638.out] at ho55)); have n0_ := Aside0.mk (Kd.R_below (pR HO_3) hb); have n1_ := Aside0.mk (Kd.R_below (pR HO_4) hb); have n2_ := Aside0.mk (Kd.R_elder' (pR HO_5) (Kd.R_base ho55) hb); have n3_ := Aside0.mk (Kd.R_elder' (pR HO_6) (Kd.R_base ho55) hb); have n4_ := Aside0.mk (Kd.R_elder' (pR HO_7) (Kd.R_base ho55) hb); have n5_ := Aside0.mk (Kd.R_elder' (pR HO_9) (Kd.R_base ho55) hb); have n6_ := Aside0.mk (Kd.R_lower (Kd.R_new' (Kd.R_new' (Kd.R_new' (Kd.R_new' ho55 (Kd.R_lt (pR HO_5))) (Kd.R_lt (pR HO_6))) (Kd.R_lt (pR HO_7))) (Kd.R_lt (pR HO_9))) (below_size pB)); have n7_ := Aside0.mk (below_step pB hb); clear HO_3; clear HO_4; clear HO_5; clear HO_6; clear HO_7; clear HO_9; clear HB; have HO_3 := n0_; have HO_4 := n1_; have HO_5 := n2_; have HO_6 := n3_; have HO_7 := n4_; have HO_9 := n5_; have HO640 := n6_; have HB := n7_; clear n0_ n1_ n2_ n3_ n4_ n5_ n6_ n7_; clear hb ho55; obtain ⟨Ao56, co56, eo56⟩ := Kd.R_slice HO640.out; subst eo56) | ((with_reducible refine gate_callee (f := 41) rfl ?_); refine goesL_ (some 67) rfl rfl Try.func41 pL rfl #[.slice Ao8 t616.length co8, .slice Ao9 t617.length co9, .slice Ao10 t618.length co10, .slice Ao56 y638.length co56] rfl pM ?_; (with_reducible refine (impl_SwapNeeds.calls kj5 _ _ t616 _ _ t617 _ _ t618 _ _ y638 t641 false _ ?side1 ?side2 ?side3 ?side4 ?side5 ?side6 ?side7 ?side8 A26.out).mono ?_); (case side1 => exact pS ((Kd.R_reads' HO_3.out).2.2)); (case side2 => exact (Kd.R_reads' HO_3.out).2.1); (case side3 => exact pS ((Kd.R_reads' HO_4.out).2.2)); (case side4 => exact (Kd.R_reads' HO_4.out).2.1); (case side5 => exact pS ((Kd.R_reads' HO_5.out).2.2)); (case side6 => exact (Kd.R_reads' HO_5.out).2.1); (case side7 => exact pS ((Kd.R_reads' HO640.out).2.2)); (case side8 => exact (Kd.R_reads' HO640.out).2.1); rintro e w57 ⟨v643, rfl, ho0, hb⟩; refine ⟨_, rfl, ?_⟩; have n0_ := Aside0.mk (Kd.R_below (pR HO_3) hb); have n1_ := Aside0.mk (Kd.R_below (pR HO_4) hb); have n2_ := Aside0.mk (Kd.R_elder' (pR HO_5) (Kd.R_base ho0) hb); have n3_ := Aside0.mk (Kd.R_elder' (pR HO_6) (Kd.R_base ho0) hb); have n4_ := Aside0.mk (Kd.R_elder' (pR HO_7) (Kd.R_base ho0) hb); have n5_ := Aside0.mk (Kd.R_elder' (pR HO_9) (Kd.R_base ho0) hb); have n6_ := Aside0.mk (Kd.R_elder' (pR HO640) (Kd.R_base ho0) hb); have n7_ := Aside0.mk (Kd.R_lower (Kd.R_new' (Kd.R_new' (Kd.R_new' (Kd.R_new' (Kd.R_new' ho0 (Kd.R_lt (pR HO_5))) (Kd.R_lt (pR HO_6))) (Kd.R_lt (pR HO_7))) (Kd.R_lt (pR HO_9))) (Kd.R_lt (pR HO640))) (below_size pB)); have n8_ := Aside0.mk (below_step pB hb); clear HO_3; clear HO_4; clear HO_5; clear HO_6; clear HO_7; clear HO_9; clear HO640; clear HB; have HO_3 := n0_; have HO_4 := n1_; have HO_5 := n2_; have HO_6 := n3_; have HO_7 := n4_; have HO_9 := n5_; have HO640 := n6_; have HO644 := n7_; have HB := n8_; clear n0_ n1_ n2_ n3_ n4_ n5_ n6_ n7_ n8_; (try clear hb); (try clear hb2); (try clear hk); (try clear hi); (try clear ho0); obtain ⟨Ao58, co58, eo58⟩ := Kd.R_slice HO_7.out; subst eo58) | ((with_reducible refine gate_callee (f := 41) rfl ?_); refine goesL_ (some 75) rfl rfl Try.func41 pL rfl #[.slice Ao8 t616.length co8, .slice Ao9 t617.length co9, .slice Ao58 t628.length co58, .slice Ao11 t619.length co11] rfl pM ?_; (with_reducible refine (impl_SwapNeeds.calls kj5 _ _ t616 _ _ t617 _ _ t628 _ _ t619 t645 t646 _ ?side1 ?side2 ?side3 ?side4 ?side5 ?side6 ?side7 ?side8 A27.out).mono ?_); (case side1 => exact pS ((Kd.R_reads' HO_3.out).2.2)); (case side2 => exact (Kd.R_reads' HO_3.out).2.1); (case side3 => exact pS ((Kd.R_reads' HO_4.out).2.2)); (case side4 => exact (Kd.R_reads' HO_4.out).2.1); (case side5 => exact pS ((Kd.R_reads' HO_7.out).2.2)); (case side6 => exact (Kd.R_reads' HO_7.out).2.1); (case side7 => exact pS ((Kd.R_reads' HO_6.out).2.2)); (case side8 => exact (Kd.R_reads' HO_6.out).2.1); rintro e w59 ⟨v647, rfl, ho0, hb⟩; refine ⟨_, rfl, ?_⟩; have n0_ := Aside0.mk (Kd.R_below (pR HO_3) hb); have n1_ := Aside0.mk (Kd.R_below (pR HO_4) hb); have n2_ := Aside0.mk (Kd.R_elder' (pR HO_5) (Kd.R_base ho0) hb); have n3_ := Aside0.mk (Kd.R_elder' (pR HO_6) (Kd.R_base ho0) hb); have n4_ := Aside0.mk (Kd.R_elder' (pR HO_7) (Kd.R_base ho0) hb); have n5_ := Aside0.mk (Kd.R_elder' (pR HO_9) (Kd.R_base ho0) hb); have n6_ := Aside0.mk (Kd.R_elder' (pR HO640) (Kd.R_base ho0) hb); have n7_ := Aside0.mk (Kd.R_elder' (pR HO644) (Kd.R_base ho0) hb); have n8_ := Aside0.mk (Kd.R_lower (Kd.R_new' (Kd.R_new' (Kd.R_new' (Kd.R_new' (Kd.R_new' (Kd.R_new' ho0 (Kd.R_lt (pR HO_5))) (Kd.R_lt (pR HO_6))) (Kd.R_lt (pR HO_7))) (Kd.R_lt (pR HO_9))) (Kd.R_lt (pR HO640))) (Kd.R_lt (pR HO644))) (below_size pB)); have n9_ := Aside0.mk (below_step pB hb); clear HO_3; clear HO_4; clear HO_5; clear HO_6; clear HO_7; clear HO_9; clear HO640; clear HO644; clear HB; have HO_3 := n0_; have HO_4 := n1_; have HO_5 := n2_; have HO_6 := n3_; have HO_7 := n4_; have HO_9 := n5_; have HO640 := n6_; have HO644 := n7_; have HO648 := n8_; have HB := n9_; clear n0_ n1_ n2_ n3_ n4_ n5_ n6_ n7_ n8_ n9_; (try clear hb); (try clear hb2); (try clear hk); (try clear hi); (try clear ho0)))
      go_ret
      exact ⟨pE, pB⟩

/-- THE ONE PURE STATEMENT of laws_FnSwapNone: yours. -/
def laws_FnSwapNone.Pure : Prop := ∀ (l0 : List Int), l0.length ≤ maxLen → l0.length * 1 ≤ 140737488351232 → (∀ x ∈ l0, (Lit.int .u8 x).wf = true) → ∃ k, laws_FnSwapNone.f k l0 = some true
theorem laws_FnSwapNone.walk (P : laws_FnSwapNone.Pure) (a0 : Option Addr) (len0 cap0 : Nat) (z0 : List Int) (w : World) (w0 : (a0 = none ∧ len0 = 0 ∧ cap0 = 0 ∧ z0 = []) ∨ ∃ x, a0 = some x ∧ len0 ≤ cap0 ∧ cap0 ≤ maxLen ∧ z0.length = cap0 ∧ (∀ i, i < z0.length → w.cell? (x.add i) = some (.int .u8 (z0.getD i 0))) ∧ ∀ n ∈ z0, (Lit.int .u8 n).wf = true) (y0 : len0 * 1 ≤ 140737488351232) :
  Calls Try.prog 10 #[.slice a0 len0 cap0] w fun e w' => e = .returned (.bool true) ∧ Below w.heap.size w w' := by
 obtain ⟨l0, rfl, hr0, hm0, hw0, hc0⟩ := ReadsInt.ofRowC w0
 obtain ⟨k, h⟩ := P l0 hm0 y0 hw0
 refine (laws_FnSwapNone.calls k _ _ l0 true w (Kd.C_of_reads (d := (0 : Int)) (h1 := fun _ => rfl) hr0) hc0 h).mono ?_
 rintro e w' ⟨rfl, hd⟩
 exact ⟨rfl, hd⟩

end Go.Proofs.Ytglddjbcaknnaaa.Q
