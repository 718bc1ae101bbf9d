-- Written by the kit's print.py for all laws of the seat at once (one namespace), by a program of this session.
import Derived.Test.YtehenjjaekkcfaaQx0
import Derived.Test.YtehenjjaekkcfaaQx19
import Derived.Test.YtehenjjaekkcfaaQx21
import Derived.Test.YtehenjjaekkcfaaQx22
import Derived.Test.YtehenjjaekkcfaaQx29
namespace Go.Proofs.Ytehenjjaekkcfaa.Q
open Go.RowKit Go.Proofs.YtehenjjaekkcfaaW.PrintWords Go.Proofs.YtehenjjaekkcfaaW.PrintLast Go.Proofs.YtehenjjaekkcfaaW.PrintMore
attribute [local go_sem] max2_int min2_int max_two min_two max_three min_three max_four min_four   -- for this text's walks alone
set_option linter.unusedVariables false
set_option linter.unusedSimpArgs false

/-! ### laws_FnServeRoomFound: function 14 -/
mutual
def laws_FnServeRoomFound.j0 : Nat → List (S43) → List (S32) → List Int → Bool → Bool → Bool → Option (Bool)
 | 0, _, _, _, _, _, _ => none
 | k + 1, x3, x4, x5, x6, x7, x34 => if x34 = true then (some (x6 == x7)) else ((impl_ServeRoom.f k x3 x4).bind fun bt835 => (laws_FnServeRoomFound.l0 k x5 bt835.1 bt835.2 0))
def laws_FnServeRoomFound.l0 : Nat → List Int → List Int → Bool → Int → Option (Bool)
 | 0, _, _, _, _ => none
 | k + 1, x5, x8, x9, x10 => if x10 < (x8.length : Int) then (laws_FnServeRoomFound.j2 k x5 x8 x9 x10 (decide (x10 < (x5.length : Int)))) else (laws_FnServeRoomFound.j2 k x5 x8 x9 x10 false)
def laws_FnServeRoomFound.j2 : Nat → List Int → List Int → Bool → Int → Bool → Option (Bool)
 | 0, _, _, _, _, _ => none
 | k + 1, x5, x8, x9, x10, x53 => if x53 = true then (if 0 ≤ x10 then (if x10 < (x8.length : Int) then (if x10 < (x5.length : Int) then (if (rd x8 x10) = (rd x5 x10) then (laws_FnServeRoomFound.l0 k x5 x8 x9 (wrap64 (x10 + 1))) else (if x9 = true then (some (decide ((rd x8 x10) < (rd x5 x10)))) else (some false))) else (none)) else (none)) else (none)) else (if x9 = true then (some ((x8.length : Int) == (x5.length : Int))) else (some false))
end
def laws_FnServeRoomFound.f (k : Nat) (l0 : List Int) : Option (Bool) := if (l0.length : Int) > 1048576 then (some true) else ((spec_DrawServeFits.f k l0).bind fun bt824 => ((impl_ServeFits.f k bt824.1 bt824.2.1 bt824.2.2).bind fun t833 => ((spec_ServeFits.f k bt824.1 bt824.2.1 bt824.2.2).bind fun t834 => (if (t833 != t834) = true then (laws_FnServeRoomFound.j0 k bt824.1 bt824.2.1 bt824.2.2 t833 t834 true) else (laws_FnServeRoomFound.j0 k bt824.1 bt824.2.1 bt824.2.2 t833 t834 (!t833))))))
theorem laws_FnServeRoomFound.mono_l : ∀ k, (∀ y0 y1 y2 y3 y4 y5, LeO (laws_FnServeRoomFound.j0 k y0 y1 y2 y3 y4 y5) (laws_FnServeRoomFound.j0 (k + 1) y0 y1 y2 y3 y4 y5)) ∧ (∀ y0 y1 y2 y3, LeO (laws_FnServeRoomFound.l0 k y0 y1 y2 y3) (laws_FnServeRoomFound.l0 (k + 1) y0 y1 y2 y3)) ∧ (∀ y0 y1 y2 y3 y4, LeO (laws_FnServeRoomFound.j2 k y0 y1 y2 y3 y4) (laws_FnServeRoomFound.j2 (k + 1) y0 y1 y2 y3 y4))
 | 0 => ⟨fun _ _ _ _ _ _ r h => by simp [laws_FnServeRoomFound.j0] at h, fun _ _ _ _ r h => by simp [laws_FnServeRoomFound.l0] at h, fun _ _ _ _ _ r h => by simp [laws_FnServeRoomFound.j2] at h⟩
 | k + 1 => by
  obtain ⟨ih0, ih1, ih2⟩ := laws_FnServeRoomFound.mono_l k
  refine ⟨?_, ?_, ?_⟩
  ·intro y0 y1 y2 y3 y4 y5
   unfold laws_FnServeRoomFound.j0
   repeat' first
   | (with_reducible exact ih0 _ _ _ _ _ _)
   | (with_reducible exact ih1 _ _ _ _)
   | (with_reducible exact ih2 _ _ _ _ _)
   | (with_reducible exact impl_ServeFits.mono _ _ _ _)
   | (with_reducible exact impl_ServeRoom.mono _ _ _)
   | (with_reducible exact spec_DrawServeFits.mono _ _)
   | (with_reducible exact spec_ServeFits.mono _ _ _ _)
   | (with_reducible exact LeO.refl _)
   | (with_reducible exact LeO.none _)
   | (with_reducible refine LeO.ite ?_ ?_)
   | (with_reducible refine LeO.bind ?_ (fun _ => ?_))
   | exact ih0 _ _ _ _ _ _
   | exact ih1 _ _ _ _
   | exact ih2 _ _ _ _ _
   | exact impl_ServeFits.mono _ _ _ _
   | exact impl_ServeRoom.mono _ _ _
   | exact spec_DrawServeFits.mono _ _
   | exact spec_ServeFits.mono _ _ _ _
   | exact LeO.none _
   | refine LeO.ite ?_ ?_
   | refine LeO.bind ?_ (fun _ => ?_)
  ·intro y0 y1 y2 y3
   unfold laws_FnServeRoomFound.l0
   repeat' first
   | (with_reducible exact ih0 _ _ _ _ _ _)
   | (with_reducible exact ih1 _ _ _ _)
   | (with_reducible exact ih2 _ _ _ _ _)
   | (with_reducible exact impl_ServeFits.mono _ _ _ _)
   | (with_reducible exact impl_ServeRoom.mono _ _ _)
   | (with_reducible exact spec_DrawServeFits.mono _ _)
   | (with_reducible exact spec_ServeFits.mono _ _ _ _)
   | (with_reducible exact LeO.refl _)
   | (with_reducible exact LeO.none _)
   | (with_reducible refine LeO.ite ?_ ?_)
   | (with_reducible refine LeO.bind ?_ (fun _ => ?_))
   | exact ih0 _ _ _ _ _ _
   | exact ih1 _ _ _ _
   | exact ih2 _ _ _ _ _
   | exact impl_ServeFits.mono _ _ _ _
   | exact impl_ServeRoom.mono _ _ _
   | exact spec_DrawServeFits.mono _ _
   | exact spec_ServeFits.mono _ _ _ _
   | exact LeO.none _
   | refine LeO.ite ?_ ?_
   | refine LeO.bind ?_ (fun _ => ?_)
  ·intro y0 y1 y2 y3 y4
   unfold laws_FnServeRoomFound.j2
   repeat' first
   | (with_reducible exact ih0 _ _ _ _ _ _)
   | (with_reducible exact ih1 _ _ _ _)
   | (with_reducible exact ih2 _ _ _ _ _)
   | (with_reducible exact impl_ServeFits.mono _ _ _ _)
   | (with_reducible exact impl_ServeRoom.mono _ _ _)
   | (with_reducible exact spec_DrawServeFits.mono _ _)
   | (with_reducible exact spec_ServeFits.mono _ _ _ _)
   | (with_reducible exact LeO.refl _)
   | (with_reducible exact LeO.none _)
   | (with_reducible refine LeO.ite ?_ ?_)
   | (with_reducible refine LeO.bind ?_ (fun _ => ?_))
   | exact ih0 _ _ _ _ _ _
   | exact ih1 _ _ _ _
   | exact ih2 _ _ _ _ _
   | exact impl_ServeFits.mono _ _ _ _
   | exact impl_ServeRoom.mono _ _ _
   | exact spec_DrawServeFits.mono _ _
   | exact spec_ServeFits.mono _ _ _ _
   | exact LeO.none _
   | refine LeO.ite ?_ ?_
   | refine LeO.bind ?_ (fun _ => ?_)
theorem laws_FnServeRoomFound.mono : ∀ a0 k, LeO (laws_FnServeRoomFound.f k a0) (laws_FnServeRoomFound.f (k + 1) a0) := by
 intro a0 k
 obtain ⟨ih0, ih1, ih2⟩ := laws_FnServeRoomFound.mono_l k
 unfold laws_FnServeRoomFound.f
 repeat' first
   | (with_reducible exact ih0 _ _ _ _ _ _)
   | (with_reducible exact ih1 _ _ _ _)
   | (with_reducible exact ih2 _ _ _ _ _)
   | (with_reducible exact impl_ServeFits.mono _ _ _ _)
   | (with_reducible exact impl_ServeRoom.mono _ _ _)
   | (with_reducible exact spec_DrawServeFits.mono _ _)
   | (with_reducible exact spec_ServeFits.mono _ _ _ _)
   | (with_reducible exact LeO.refl _)
   | (with_reducible exact LeO.none _)
   | (with_reducible refine LeO.ite ?_ ?_)
   | (with_reducible refine LeO.bind ?_ (fun _ => ?_))
   | exact ih0 _ _ _ _ _ _
   | exact ih1 _ _ _ _
   | exact ih2 _ _ _ _ _
   | exact impl_ServeFits.mono _ _ _ _
   | exact impl_ServeRoom.mono _ _ _
   | exact spec_DrawServeFits.mono _ _
   | exact spec_ServeFits.mono _ _ _ _
   | exact LeO.none _
   | refine LeO.ite ?_ ?_
   | refine LeO.bind ?_ (fun _ => ?_)
set_option maxHeartbeats 8000000 in
set_option maxRecDepth 100000 in
theorem laws_FnServeRoomFound.calls (k : Nat) (A0 : Option Addr) (c0 : Nat) (l0 : List Int) (r : Bool) (w : World) (hr0 : Kd.C (Kd.int .u8) w A0 l0.length l0) (hc0 : l0.length ≤ c0) (h : laws_FnServeRoomFound.f k l0 = some r) :
  Calls Try.prog 14 #[.slice A0 l0.length c0] w fun e w' => e = .returned (.bool r) ∧ Below w.heap.size w w' := by
 have HR0 := Aside0.mk hr0
 have HC0 := Aside0.mk hc0
 clear hr0 hc0
 have HB := Aside0.mk (Below.refl w.heap.size w)
 have H : (if (l0.length : Int) > 1048576 then (some true) else ((spec_DrawServeFits.f k l0).bind fun bt824 => ((impl_ServeFits.f k bt824.1 bt824.2.1 bt824.2.2).bind fun t833 => ((spec_ServeFits.f k bt824.1 bt824.2.1 bt824.2.2).bind fun t834 => (if (t833 != t834) = true then (laws_FnServeRoomFound.j0 k bt824.1 bt824.2.1 bt824.2.2 t833 t834 true) else (laws_FnServeRoomFound.j0 k bt824.1 bt824.2.1 bt824.2.2 t833 t834 (!t833))))))) = some r := h
 clear h
 by_cases c2 : (l0.length : Int) > 1048576
 ·rw [if_pos c2] at H
  have c2b0 : decide (1048576 < (l0.length : Int)) = true := decide_eq_true c2
  have c2b1 : decide (1048576 < l0.length) = true := decide_eq_true (by omega)
  clear c2
  obtain rfl := Option.some.inj H
  go_enter Try.func14, Try.ntmps14
  go_wp2
  repeat (go_quiet (fail); try go_wp2)
  go_ret
  exact ⟨pE, pB⟩
 ·rw [if_neg c2] at H
  have c2b0 : decide (1048576 < (l0.length : Int)) = false := decide_eq_false c2
  have c2b1 : decide (1048576 < l0.length) = false := decide_eq_false (by omega)
  clear c2
  replace H := Option.bind_eq_some_iff.mp H
  obtain ⟨⟨t824, t825, t826⟩, A30, H⟩ := H
  replace H : ((impl_ServeFits.f k t824 t825 t826).bind fun t833 => ((spec_ServeFits.f k t824 t825 t826).bind fun t834 => (if (t833 != t834) = true then (laws_FnServeRoomFound.j0 k t824 t825 t826 t833 t834 true) else (laws_FnServeRoomFound.j0 k t824 t825 t826 t833 t834 (!t833))))) = some r := H
  have A3 := Aside0.mk A30
  clear A30
  replace H := Option.bind_eq_some_iff.mp H
  obtain ⟨t833, A40, H⟩ := H
  replace H : ((spec_ServeFits.f k t824 t825 t826).bind fun t834 => (if (t833 != t834) = true then (laws_FnServeRoomFound.j0 k t824 t825 t826 t833 t834 true) else (laws_FnServeRoomFound.j0 k t824 t825 t826 t833 t834 (!t833)))) = some r := H
  have A4 := Aside0.mk A40
  clear A40
  replace H := Option.bind_eq_some_iff.mp H
  obtain ⟨t834, A50, H⟩ := H
  replace H : (if (t833 != t834) = true then (laws_FnServeRoomFound.j0 k t824 t825 t826 t833 t834 true) else (laws_FnServeRoomFound.j0 k t824 t825 t826 t833 t834 (!t833))) = some r := H
  have A5 := Aside0.mk A50
  clear A50
  have HC6 := Aside0.mk H
  clear H
  go_enter Try.func14, Try.ntmps14
  go_upto_region 6 with (first | (go_at_call 45; (with_reducible refine (spec_DrawServeFits.calls k _ _ l0 t824 t825 t826 _ ?side1 ?side2 A3.out).mono ?_); (case side1 => exact pS (HR0.out)); (case side2 => exact HC0.out); rintro e w7 ⟨v827, v829, v831, rfl, ho0, ho1, ho2, hb⟩; have n0_ := Aside0.mk (Kd.R_lower ho0 (below_size pB)); have n1_ := Aside0.mk (Kd.R_lower ho1 (below_size pB)); have n2_ := Aside0.mk (Kd.R_lower ho2 (below_size pB)); have n3_ := Aside0.mk (below_step pB hb); clear HB; have HO828 := n0_; have HO830 := n1_; have HO832 := n2_; have HB := n3_; clear n0_ n1_ n2_ n3_; (try clear hb); (try clear hb2); (try clear hk); (try clear hi); (try clear ho0); (try clear ho1); (try clear ho2); obtain ⟨Ao8, co8, eo8⟩ := Kd.R_slice HO828.out; subst eo8; obtain ⟨Ao9, co9, eo9⟩ := Kd.R_slice HO830.out; subst eo9; obtain ⟨Ao10, co10, eo10⟩ := Kd.R_slice HO832.out; subst eo10) | (go_at_call 35; (with_reducible refine (impl_ServeFits.calls k _ _ t824 _ _ t825 _ _ t826 t833 _ ?side1 ?side2 ?side3 ?side4 ?side5 ?side6 A4.out).mono ?_); (case side1 => exact pS ((Kd.R_reads' HO828.out).2.2)); (case side2 => exact (Kd.R_reads' HO828.out).2.1); (case side3 => exact pS ((Kd.R_reads' HO830.out).2.2)); (case side4 => exact (Kd.R_reads' HO830.out).2.1); (case side5 => exact pS ((Kd.R_reads' HO832.out).2.2)); (case side6 => exact (Kd.R_reads' HO832.out).2.1); rintro e w11 ⟨rfl, hb⟩; have n0_ := Aside0.mk (Kd.R_below (pR HO828) hb); have n1_ := Aside0.mk (Kd.R_below (pR HO830) hb); have n2_ := Aside0.mk (Kd.R_below (pR HO832) hb); have n3_ := Aside0.mk (below_step pB hb); clear HO828; clear HO830; clear HO832; clear HB; have HO828 := n0_; have HO830 := n1_; have HO832 := n2_; have HB := n3_; clear n0_ n1_ n2_ n3_; (try clear hb); (try clear hb2); (try clear hk); (try clear hi)) | (go_at_call 32; (with_reducible refine (spec_ServeFits.calls k _ _ t824 _ _ t825 _ _ t826 t834 _ ?side1 ?side2 ?side3 ?side4 ?side5 ?side6 A5.out).mono ?_); (case side1 => exact pS ((Kd.R_reads' HO828.out).2.2)); (case side2 => exact (Kd.R_reads' HO828.out).2.1); (case side3 => exact pS ((Kd.R_reads' HO830.out).2.2)); (case side4 => exact (Kd.R_reads' HO830.out).2.1); (case side5 => exact pS ((Kd.R_reads' HO832.out).2.2)); (case side6 => exact (Kd.R_reads' HO832.out).2.1); rintro e w12 ⟨rfl, hb⟩; have n0_ := Aside0.mk (Kd.R_below (pR HO828) hb); have n1_ := Aside0.mk (Kd.R_below (pR HO830) hb); have n2_ := Aside0.mk (Kd.R_below (pR HO832) hb); have n3_ := Aside0.mk (below_step pB hb); clear HO828; clear HO830; clear HO832; clear HB; have HO828 := n0_; have HO830 := n1_; have HO832 := n2_; have HB := n3_; clear n0_ n1_ n2_ n3_; (try clear hb); (try clear hb2); (try clear hk); (try clear hi)))
  repeat (go_quiet (first | (go_at_call 45; (with_reducible refine (spec_DrawServeFits.calls k _ _ l0 t824 t825 t826 _ ?side1 ?side2 A3.out).mono ?_); (case side1 => exact pS (HR0.out)); (case side2 => exact HC0.out); rintro e w7 ⟨v827, v829, v831, rfl, ho0, ho1, ho2, hb⟩; have n0_ := Aside0.mk (Kd.R_lower ho0 (below_size pB)); have n1_ := Aside0.mk (Kd.R_lower ho1 (below_size pB)); have n2_ := Aside0.mk (Kd.R_lower ho2 (below_size pB)); have n3_ := Aside0.mk (below_step pB hb); clear HB; have HO828 := n0_; have HO830 := n1_; have HO832 := n2_; have HB := n3_; clear n0_ n1_ n2_ n3_; (try clear hb); (try clear hb2); (try clear hk); (try clear hi); (try clear ho0); (try clear ho1); (try clear ho2); obtain ⟨Ao8, co8, eo8⟩ := Kd.R_slice HO828.out; subst eo8; obtain ⟨Ao9, co9, eo9⟩ := Kd.R_slice HO830.out; subst eo9; obtain ⟨Ao10, co10, eo10⟩ := Kd.R_slice HO832.out; subst eo10) | (go_at_call 35; (with_reducible refine (impl_ServeFits.calls k _ _ t824 _ _ t825 _ _ t826 t833 _ ?side1 ?side2 ?side3 ?side4 ?side5 ?side6 A4.out).mono ?_); (case side1 => exact pS ((Kd.R_reads' HO828.out).2.2)); (case side2 => exact (Kd.R_reads' HO828.out).2.1); (case side3 => exact pS ((Kd.R_reads' HO830.out).2.2)); (case side4 => exact (Kd.R_reads' HO830.out).2.1); (case side5 => exact pS ((Kd.R_reads' HO832.out).2.2)); (case side6 => exact (Kd.R_reads' HO832.out).2.1); rintro e w11 ⟨rfl, hb⟩; have n0_ := Aside0.mk (Kd.R_below (pR HO828) hb); have n1_ := Aside0.mk (Kd.R_below (pR HO830) hb); have n2_ := Aside0.mk (Kd.R_below (pR HO832) hb); have n3_ := Aside0.mk (below_step pB hb); clear HO828; clear HO830; clear HO832; clear HB; have HO828 := n0_; have HO830 := n1_; have HO832 := n2_; have HB := n3_; clear n0_ n1_ n2_ n3_; (try clear hb); (try clear hb2); (try clear hk); (try clear hi)) | (go_at_call 32; (with_reducible refine (spec_ServeFits.calls k _ _ t824 _ _ t825 _ _ t826 t834 _ ?side1 ?side2 ?side3 ?side4 ?side5 ?side6 A5.out).mono ?_); (case side1 => exact pS ((Kd.R_reads' HO828.out).2.2)); (case side2 => exact (Kd.R_reads' HO828.out).2.1); (case side3 => exact pS ((Kd.R_reads' HO830.out).2.2)); (case side4 => exact (Kd.R_reads' HO830.out).2.1); (case side5 => exact pS ((Kd.R_reads' HO832.out).2.2)); (case side6 => exact (Kd.R_reads' HO832.out).2.1); rintro e w12 ⟨rfl, hb⟩; have n0_ := Aside0.mk (Kd.R_below (pR HO828) hb); have n1_ := Aside0.mk (Kd.R_below (pR HO830) hb); have n2_ := Aside0.mk (Kd.R_below (pR HO832) hb); have n3_ := Aside0.mk (below_step pB hb); clear HO828; clear HO830; clear HO832; clear HB; have HO828 := n0_; have HO830 := n1_; have HO832 := n2_; have HB := n3_; clear n0_ n1_ n2_ n3_; (try clear hb); (try clear hb2); (try clear hk); (try clear hi))); go_upto_region 6 with (first | (go_at_call 45; (with_reducible refine (spec_DrawServeFits.calls k _ _ l0 t824 t825 t826 _ ?side1 ?side2 A3.out).mono ?_); (case side1 => exact pS (HR0.out)); (case side2 => exact HC0.out); rintro e w7 ⟨v827, v829, v831, rfl, ho0, ho1, ho2, hb⟩; have n0_ := Aside0.mk (Kd.R_lower ho0 (below_size pB)); have n1_ := Aside0.mk (Kd.R_lower ho1 (below_size pB)); have n2_ := Aside0.mk (Kd.R_lower ho2 (below_size pB)); have n3_ := Aside0.mk (below_step pB hb); clear HB; have HO828 := n0_; have HO830 := n1_; have HO832 := n2_; have HB := n3_; clear n0_ n1_ n2_ n3_; (try clear hb); (try clear hb2); (try clear hk); (try clear hi); (try clear ho0); (try clear ho1); (try clear ho2); obtain ⟨Ao8, co8, eo8⟩ := Kd.R_slice HO828.out; subst eo8; obtain ⟨Ao9, co9, eo9⟩ := Kd.R_slice HO830.out; subst eo9; obtain ⟨Ao10, co10, eo10⟩ := Kd.R_slice HO832.out; subst eo10) | (go_at_call 35; (with_reducible refine (impl_ServeFits.calls k _ _ t824 _ _ t825 _ _ t826 t833 _ ?side1 ?side2 ?side3 ?side4 ?side5 ?side6 A4.out).mono ?_); (case side1 => exact pS ((Kd.R_reads' HO828.out).2.2)); (case side2 => exact (Kd.R_reads' HO828.out).2.1); (case side3 => exact pS ((Kd.R_reads' HO830.out).2.2)); (case side4 => exact (Kd.R_reads' HO830.out).2.1); (case side5 => exact pS ((Kd.R_reads' HO832.out).2.2)); (case side6 => exact (Kd.R_reads' HO832.out).2.1); rintro e w11 ⟨rfl, hb⟩; have n0_ := Aside0.mk (Kd.R_below (pR HO828) hb); have n1_ := Aside0.mk (Kd.R_below (pR HO830) hb); have n2_ := Aside0.mk (Kd.R_below (pR HO832) hb); have n3_ := Aside0.mk (below_step pB hb); clear HO828; clear HO830; clear HO832; clear HB; have HO828 := n0_; have HO830 := n1_; have HO832 := n2_; have HB := n3_; clear n0_ n1_ n2_ n3_; (try clear hb); (try clear hb2); (try clear hk); (try clear hi)) | (go_at_call 32; (with_reducible refine (spec_ServeFits.calls k _ _ t824 _ _ t825 _ _ t826 t834 _ ?side1 ?side2 ?side3 ?side4 ?side5 ?side6 A5.out).mono ?_); (case side1 => exact pS ((Kd.R_reads' HO828.out).2.2)); (case side2 => exact (Kd.R_reads' HO828.out).2.1); (case side3 => exact pS ((Kd.R_reads' HO830.out).2.2)); (case side4 => exact (Kd.R_reads' HO830.out).2.1); (case side5 => exact pS ((Kd.R_reads' HO832.out).2.2)); (case side6 => exact (Kd.R_reads' HO832.out).2.1); rintro e w12 ⟨rfl, hb⟩; have n0_ := Aside0.mk (Kd.R_below (pR HO828) hb); have n1_ := Aside0.mk (Kd.R_below (pR HO830) hb); have n2_ := Aside0.mk (Kd.R_below (pR HO832) hb); have n3_ := Aside0.mk (below_step pB hb); clear HO828; clear HO830; clear HO832; clear HB; have HO828 := n0_; have HO830 := n1_; have HO832 := n2_; have HB := n3_; clear n0_ n1_ n2_ n3_; (try clear hb); (try clear hb2); (try clear hk); (try clear hi))))
  (try simp only [Act.put, List.setIfInBounds_toArray, List.set_cons_zero, List.set_cons_succ])
  go_cut [34] (fun v34 wc => ∃ (kq : Nat) (x34_5 : Bool), v34 = .bool x34_5 ∧ Aside0 (laws_FnServeRoomFound.j0 kq t824 t825 t826 t833 t834 x34_5 = some r) ∧ Aside0 (kq ≤ k) ∧ Aside0 (Kd.R k43 43 wc w.heap.size (fun _ => True) (.slice Ao8 t824.length co8) t824) ∧ Aside0 (Kd.R k32 32 wc w.heap.size (fun _ => True) (.slice Ao9 t825.length co9) t825) ∧ Aside0 (Kd.R (Kd.int .i64) 3 wc w.heap.size (fun _ => True) (.slice Ao10 t826.length co10) t826) ∧ Aside0 (Below w.heap.size w wc))
  case first =>
   have H := HC6.out
   clear HC6
   by_cases c13 : (t833 != t834) = true
   ·rw [if_pos c13] at H
    have c13b0 : (t833 != t834) = true := c13
    (try (have c13b1 : decide (t833 = t834) = false := by simpa using c13))
    (try (have c13b2 : (t833 == t834) = false := by simpa using c13))
    (try (have c13b3 : ¬ (t833 = t834) := by simpa using c13))
    clear c13
    (first | rw [c13b0] | (simp only [i64_w, i32_w]; rw [c13b0]) | skip)
    have H' := Aside0.mk H
    clear H
    go_wp2
    repeat (go_quiet (fail); try go_wp2)
    go_meet
    case rel => exact ⟨_, (true), pF, H', ⟨by first | omega | exact Nat.le_refl _⟩, ⟨pR HO828⟩, ⟨pR HO830⟩, ⟨pR HO832⟩, ⟨pB⟩⟩
   ·rw [if_neg c13] at H
    have c13b0 : (t833 != t834) = false := by simpa using c13
    (try (have c13b1 : decide (t833 = t834) = true := by simpa using c13))
    (try (have c13b2 : (t833 == t834) = true := by simpa using c13))
    clear c13
    (first | rw [c13b0] | (simp only [i64_w, i32_w]; rw [c13b0]) | skip)
    have H' := Aside0.mk H
    clear H
    go_wp2
    repeat (go_quiet (fail); try go_wp2)
    go_meet
    case rel => exact ⟨_, (!t833), pF, H', ⟨by first | omega | exact Nat.le_refl _⟩, ⟨pR HO828⟩, ⟨pR HO830⟩, ⟨pR HO832⟩, ⟨pB⟩⟩
  case rest =>
   clear HC6
   try clear c1
   try clear c2
   try clear c2b0
   try clear c2b1
   try clear p2
   try clear c13
   try clear c13b0
   try clear c13b1
   try clear c13b2
   obtain ⟨kq, x34_5, rfl, HA, HJ5, HO_3, HO_4, HO_5, HB⟩ := hcut
   cases kq with
   | zero => exact absurd HA.out (by simp [laws_FnServeRoomFound.j0])
   | succ kj5 =>
    have H := HA.out
    clear HA
    simp only [laws_FnServeRoomFound.j0] at H
    by_cases c14 : x34_5 = true
    ·subst c14
     have H1 : (some (t833 == t834)) = some r := by rw [if_pos rfl] at H; exact H
     clear H
     have H := H1
     clear H1
     obtain rfl := Option.some.inj H
     go_wp2
     repeat (go_quiet (fail); try go_wp2)
     go_ret
     exact ⟨pE, pB⟩
    ·replace c14 := Bool.eq_false_iff.mpr c14
     subst c14
     have H1 : ((impl_ServeRoom.f kj5 t824 t825).bind fun bt835 => (laws_FnServeRoomFound.l0 kj5 t826 bt835.1 bt835.2 0)) = some r := by rw [if_neg (show ¬ (false = true) by decide)] at H; exact H
     clear H
     have H := H1
     clear H1
     replace H := Option.bind_eq_some_iff.mp H
     obtain ⟨⟨t835, t836⟩, A150, H⟩ := H
     replace H : (laws_FnServeRoomFound.l0 kj5 t826 t835 t836 0) = some r := H
     have A15 := Aside0.mk A150
     clear A150
     have H' := Aside0.mk H
     clear H
     go_wp2_with (first | (go_at_call 38; (with_reducible refine (impl_ServeRoom.calls kj5 _ _ t824 _ _ t825 t835 t836 _ ?side1 ?side2 ?side3 ?side4 A15.out).mono ?_); (case side1 => exact pS ((Kd.R_reads' HO_3.out).2.2)); (case side2 => exact (Kd.R_reads' HO_3.out).2.1); (case side3 => exact pS ((Kd.R_reads' HO_4.out).2.2)); (case side4 => exact (Kd.R_reads' HO_4.out).2.1); rintro e w16 ⟨v837, rfl, ho0, hb⟩; have n0_ := Aside0.mk (Kd.R_below (pR HO_3) hb); have n1_ := Aside0.mk (Kd.R_below (pR HO_4) hb); have n2_ := Aside0.mk (Kd.R_elder' (pR HO_5) (Kd.R_base ho0) hb); have n3_ := Aside0.mk (Kd.R_lower (Kd.R_new' ho0 (Kd.R_lt (pR HO_5))) (below_size pB)); have n4_ := Aside0.mk (below_step pB hb); clear HO_3; clear HO_4; clear HO_5; clear HB; have HO_3 := n0_; have HO_4 := n1_; have HO_5 := n2_; have HO838 := n3_; have HB := n4_; clear n0_ n1_ n2_ n3_ n4_; (try clear hb); (try clear hb2); (try clear hk); (try clear hi); (try clear ho0)))
     repeat (go_quiet (first | (go_at_call 38; (with_reducible refine (impl_ServeRoom.calls kj5 _ _ t824 _ _ t825 t835 t836 _ ?side1 ?side2 ?side3 ?side4 A15.out).mono ?_); (case side1 => exact pS ((Kd.R_reads' HO_3.out).2.2)); (case side2 => exact (Kd.R_reads' HO_3.out).2.1); (case side3 => exact pS ((Kd.R_reads' HO_4.out).2.2)); (case side4 => exact (Kd.R_reads' HO_4.out).2.1); rintro e w16 ⟨v837, rfl, ho0, hb⟩; have n0_ := Aside0.mk (Kd.R_below (pR HO_3) hb); have n1_ := Aside0.mk (Kd.R_below (pR HO_4) hb); have n2_ := Aside0.mk (Kd.R_elder' (pR HO_5) (Kd.R_base ho0) hb); have n3_ := Aside0.mk (Kd.R_lower (Kd.R_new' ho0 (Kd.R_lt (pR HO_5))) (below_size pB)); have n4_ := Aside0.mk (below_step pB hb); clear HO_3; clear HO_4; clear HO_5; clear HB; have HO_3 := n0_; have HO_4 := n1_; have HO_5 := n2_; have HO838 := n3_; have HB := n4_; clear n0_ n1_ n2_ n3_ n4_; (try clear hb); (try clear hb2); (try clear hk); (try clear hi); (try clear ho0))); try go_wp2_with (first | (go_at_call 38; (with_reducible refine (impl_ServeRoom.calls kj5 _ _ t824 _ _ t825 t835 t836 _ ?side1 ?side2 ?side3 ?side4 A15.out).mono ?_); (case side1 => exact pS ((Kd.R_reads' HO_3.out).2.2)); (case side2 => exact (Kd.R_reads' HO_3.out).2.1); (case side3 => exact pS ((Kd.R_reads' HO_4.out).2.2)); (case side4 => exact (Kd.R_reads' HO_4.out).2.1); rintro e w16 ⟨v837, rfl, ho0, hb⟩; have n0_ := Aside0.mk (Kd.R_below (pR HO_3) hb); have n1_ := Aside0.mk (Kd.R_below (pR HO_4) hb); have n2_ := Aside0.mk (Kd.R_elder' (pR HO_5) (Kd.R_base ho0) hb); have n3_ := Aside0.mk (Kd.R_lower (Kd.R_new' ho0 (Kd.R_lt (pR HO_5))) (below_size pB)); have n4_ := Aside0.mk (below_step pB hb); clear HO_3; clear HO_4; clear HO_5; clear HB; have HO_3 := n0_; have HO_4 := n1_; have HO_5 := n2_; have HO838 := n3_; have HB := n4_; clear n0_ n1_ n2_ n3_ n4_; (try clear hb); (try clear hb2); (try clear hk); (try clear hi); (try clear ho0))))
     go_loopg [10] kj5 (fun kq v10 w' => ∃ (x10_2 : Int), v10 = .int .i64 x10_2 ∧ Aside0 (laws_FnServeRoomFound.l0 kq t826 t835 t836 x10_2 = some r) ∧ Aside0 (kq ≤ kj5) ∧ Aside0 (Kd.R (Kd.int .i64) 3 w' w.heap.size (fun k_ => some k_ ≠ (v837 : Value).ownBlock) (.slice Ao10 t826.length co10) t826) ∧ Aside0 (Kd.R (Kd.int .i64) 3 w' w.heap.size (fun k_ => some k_ ≠ ((.slice Ao10 t826.length co10) : Value).ownBlock) v837 t835) ∧ Aside0 (Below w.heap.size w w'))
     case atStart => exact ⟨(0), pF, H', ⟨Nat.le_refl _⟩, ⟨by (with_reducible repeat (first | apply Kd.R_alloc | apply Kd.R_drewN | apply Kd.R_drew)); exact Kd.R_mono HO_5.out (fun _ hk => hk.2)⟩, ⟨by (with_reducible repeat (first | apply Kd.R_alloc | apply Kd.R_drewN | apply Kd.R_drew)); exact Kd.R_mono HO838.out (fun _ hk => hk.2)⟩, ⟨pB⟩⟩
     case round =>
      clear H'
      try clear c1
      try clear c2
      try clear c2b0
      try clear c2b1
      try clear p2
      try clear c13
      try clear c13b0
      try clear c13b1
      try clear c13b2
      try clear c14
      try clear p2
      obtain ⟨x10_2, rfl, HA, HK2, HO_5, HO_8, HB⟩ := hrel
      cases gk with
      | zero => exact absurd HA.out (by simp [laws_FnServeRoomFound.l0])
      | succ k2 =>
       have H := HA.out
       clear HA
       simp only [laws_FnServeRoomFound.l0] at H
       have HC17 := Aside0.mk H
       clear H
       go_upto_region 10 with (fail)
       repeat (go_quiet (fail); go_upto_region 10 with (fail))
       go_cut [53] (fun v53 wc => ∃ (kq : Nat) (x53_16 : Bool), v53 = .bool x53_16 ∧ Aside0 (laws_FnServeRoomFound.j2 kq t826 t835 t836 x10_2 x53_16 = some r) ∧ Aside0 (kq ≤ k2) ∧ Aside0 (Kd.R (Kd.int .i64) 3 wc w.heap.size (fun k_ => some k_ ≠ (v837 : Value).ownBlock) (.slice Ao10 t826.length co10) t826) ∧ Aside0 (Kd.R (Kd.int .i64) 3 wc w.heap.size (fun k_ => some k_ ≠ ((.slice Ao10 t826.length co10) : Value).ownBlock) v837 t835) ∧ Aside0 (Below w.heap.size w wc))
       case first =>
        have H := HC17.out
        clear HC17
        by_cases c18 : x10_2 < (t835.length : Int)
        ·rw [if_pos c18] at H
         have c18b0 : decide (x10_2 < (t835.length : Int)) = true := decide_eq_true c18
         clear c18
         (first | rw [c18b0] | (simp only [i64_w, i32_w]; rw [c18b0]) | skip)
         have H' := Aside0.mk H
         clear H
         obtain ⟨Ao19, co19, eo19⟩ := Kd.R_slice HO_8.out
         subst eo19
         go_wp2
         repeat (go_quiet (fail); try go_wp2)
         go_meet
         case rel => exact ⟨_, (decide (x10_2 < (t826.length : Int))), pF, H', ⟨by have := HJ5.out; have := HK2.out; first | omega | exact Nat.le_refl _⟩, ⟨pR HO_5⟩, ⟨pR HO_8⟩, ⟨pB⟩⟩
        ·rw [if_neg c18] at H
         have c18b0 : decide (x10_2 < (t835.length : Int)) = false := decide_eq_false c18
         clear c18
         (first | rw [c18b0] | (simp only [i64_w, i32_w]; rw [c18b0]) | skip)
         have H' := Aside0.mk H
         clear H
         obtain ⟨Ao20, co20, eo20⟩ := Kd.R_slice HO_8.out
         subst eo20
         go_wp2
         repeat (go_quiet (fail); try go_wp2)
         go_meet
         case rel => exact ⟨_, (false), pF, H', ⟨by have := HJ5.out; have := HK2.out; first | omega | exact Nat.le_refl _⟩, ⟨pR HO_5⟩, ⟨pR HO_8⟩, ⟨pB⟩⟩
       case rest =>
        clear HC17
        try clear c1
        try clear c2
        try clear c2b0
        try clear c2b1
        try clear p2
        try clear c13
        try clear c13b0
        try clear c13b1
        try clear c13b2
        try clear c14
        try clear c18
        try clear c18b0
        try clear p2
        obtain ⟨kq, x53_16, rfl, HA, HJ16, HO_5, HO_8, HB⟩ := hcut
        cases kq with
        | zero => exact absurd HA.out (by simp [laws_FnServeRoomFound.j2])
        | succ kj16 =>
         have H := HA.out
         clear HA
         simp only [laws_FnServeRoomFound.j2] at H
         by_cases c21 : x53_16 = true
         ·subst c21
          have H1 : (if 0 ≤ x10_2 then (if x10_2 < (t835.length : Int) then (if x10_2 < (t826.length : Int) then (if (rd t835 x10_2) = (rd t826 x10_2) then (laws_FnServeRoomFound.l0 kj16 t826 t835 t836 (wrap64 (x10_2 + 1))) else (if t836 = true then (some (decide ((rd t835 x10_2) < (rd t826 x10_2)))) else (some false))) else (none)) else (none)) else (none)) = some r := by rw [if_pos rfl] at H; exact H
          clear H
          have H := H1
          clear H1
          by_cases c22 : 0 ≤ x10_2
          ·rw [if_pos c22] at H
           have c22b0 : decide (0 ≤ x10_2) = true := decide_eq_true c22
           clear c22
           by_cases c23 : x10_2 < (t835.length : Int)
           ·rw [if_pos c23] at H
            have c23b0 : decide (x10_2 < (t835.length : Int)) = true := decide_eq_true c23
            clear c23
            by_cases c24 : x10_2 < (t826.length : Int)
            ·rw [if_pos c24] at H
             have c24b0 : decide (x10_2 < (t826.length : Int)) = true := decide_eq_true c24
             clear c24
             by_cases c25 : (rd t835 x10_2) = (rd t826 x10_2)
             ·rw [if_pos c25] at H
              have c25b0 : ((rd t835 x10_2) == (rd t826 x10_2)) = true := beq_iff_eq.mpr c25
              have c25b1 : ((rd t835 x10_2) != (rd t826 x10_2)) = false := bne_eq_false_iff_eq.mpr c25
              clear c25
              have H' := Aside0.mk H
              clear H
              obtain ⟨Ao26, co26, eo26⟩ := Kd.R_slice HO_8.out
              subst eo26
              have p839 : 0 ≤ (x10_2 : Int) := of_decide_eq_true pA
              have q839 : x10_2 < (t835.length : Int) := of_decide_eq_true pA
              obtain ⟨ad839, e839, hx839_0⟩ := Kd.at_int (Kd.R_reads' HO_8.out).2.2 x10_2 p839 q839
              cases e839
              replace p839 := eq_true p839
              replace q839 := eq_true q839
              have p840 : 0 ≤ (x10_2 : Int) := of_decide_eq_true pA
              have q840 : x10_2 < (t826.length : Int) := of_decide_eq_true pA
              obtain ⟨ad840, e840, hx840_0⟩ := Kd.at_int (Kd.R_reads' HO_5.out).2.2 x10_2 p840 q840
              cases e840
              replace p840 := eq_true p840
              replace q840 := eq_true q840
              go_wp2
              repeat (go_quiet (fail); try go_wp2)
              go_roundg kj16
              case measure => have := HJ5.out; have := HK2.out; have := HJ16.out; omega
              case rel => exact ⟨(wrap64 (x10_2 + 1)), pF, H', ⟨by have := HJ5.out; have := HK2.out; have := HJ16.out; omega⟩, ⟨pR HO_5⟩, ⟨pR HO_8⟩, ⟨pB⟩⟩
             ·rw [if_neg c25] at H
              have c25b0 : ((rd t835 x10_2) == (rd t826 x10_2)) = false := beq_eq_false_iff_ne.mpr c25
              have c25b1 : ((rd t835 x10_2) != (rd t826 x10_2)) = true := bne_iff_ne.mpr c25
              by_cases c27 : t836 = true
              ·subst c27
               have H1 : (some (decide ((rd t835 x10_2) < (rd t826 x10_2)))) = some r := by rw [if_pos rfl] at H; exact H
               clear H
               have H := H1
               clear H1
               obtain rfl := Option.some.inj H
               obtain ⟨Ao28, co28, eo28⟩ := Kd.R_slice HO_8.out
               subst eo28
               have p839 : 0 ≤ (x10_2 : Int) := of_decide_eq_true pA
               have q839 : x10_2 < (t835.length : Int) := of_decide_eq_true pA
               obtain ⟨ad839, e839, hx839_0⟩ := Kd.at_int (Kd.R_reads' HO_8.out).2.2 x10_2 p839 q839
               cases e839
               replace p839 := eq_true p839
               replace q839 := eq_true q839
               have p840 : 0 ≤ (x10_2 : Int) := of_decide_eq_true pA
               have q840 : x10_2 < (t826.length : Int) := of_decide_eq_true pA
               obtain ⟨ad840, e840, hx840_0⟩ := Kd.at_int (Kd.R_reads' HO_5.out).2.2 x10_2 p840 q840
               cases e840
               replace p840 := eq_true p840
               replace q840 := eq_true q840
               have p841 : 0 ≤ (x10_2 : Int) := of_decide_eq_true pA
               have q841 : x10_2 < (t835.length : Int) := of_decide_eq_true pA
               obtain ⟨ad841, e841, hx841_0⟩ := Kd.at_int (Kd.R_reads' HO_8.out).2.2 x10_2 p841 q841
               obtain rfl : ad839 = ad841 := (by injection e841)
               replace p841 := eq_true p841
               replace q841 := eq_true q841
               have p842 : 0 ≤ (x10_2 : Int) := of_decide_eq_true pA
               have q842 : x10_2 < (t826.length : Int) := of_decide_eq_true pA
               obtain ⟨ad842, e842, hx842_0⟩ := Kd.at_int (Kd.R_reads' HO_5.out).2.2 x10_2 p842 q842
               obtain rfl : ad840 = ad842 := (by injection e842)
               replace p842 := eq_true p842
               replace q842 := eq_true q842
               go_wp2
               repeat (go_quiet (fail); try go_wp2)
               go_ret
               exact ⟨pE, pB⟩
              ·replace c27 := Bool.eq_false_iff.mpr c27
               subst c27
               have H1 : (some false) = some r := by rw [if_neg (show ¬ (false = true) by decide)] at H; exact H
               clear H
               have H := H1
               clear H1
               obtain rfl := Option.some.inj H
               obtain ⟨Ao29, co29, eo29⟩ := Kd.R_slice HO_8.out
               subst eo29
               have p839 : 0 ≤ (x10_2 : Int) := of_decide_eq_true pA
               have q839 : x10_2 < (t835.length : Int) := of_decide_eq_true pA
               obtain ⟨ad839, e839, hx839_0⟩ := Kd.at_int (Kd.R_reads' HO_8.out).2.2 x10_2 p839 q839
               cases e839
               replace p839 := eq_true p839
               replace q839 := eq_true q839
               have p840 : 0 ≤ (x10_2 : Int) := of_decide_eq_true pA
               have q840 : x10_2 < (t826.length : Int) := of_decide_eq_true pA
               obtain ⟨ad840, e840, hx840_0⟩ := Kd.at_int (Kd.R_reads' HO_5.out).2.2 x10_2 p840 q840
               cases e840
               replace p840 := eq_true p840
               replace q840 := eq_true q840
               go_wp2
               repeat (go_quiet (fail); try go_wp2)
               go_ret
               exact ⟨pE, pB⟩
            ·rw [if_neg c24] at H
             exact absurd H (by simp)
           ·rw [if_neg c23] at H
            exact absurd H (by simp)
          ·rw [if_neg c22] at H
           exact absurd H (by simp)
         ·replace c21 := Bool.eq_false_iff.mpr c21
          subst c21
          have H1 : (if t836 = true then (some ((t835.length : Int) == (t826.length : Int))) else (some false)) = some r := by rw [if_neg (show ¬ (false = true) by decide)] at H; exact H
          clear H
          have H := H1
          clear H1
          by_cases c30 : t836 = true
          ·subst c30
           have H1 : (some ((t835.length : Int) == (t826.length : Int))) = some r := by rw [if_pos rfl] at H; exact H
           clear H
           have H := H1
           clear H1
           obtain rfl := Option.some.inj H
           obtain ⟨Ao31, co31, eo31⟩ := Kd.R_slice HO_8.out
           subst eo31
           go_wp2
           repeat (go_quiet (fail); try go_wp2)
           go_ret
           exact ⟨pE, pB⟩
          ·replace c30 := Bool.eq_false_iff.mpr c30
           subst c30
           have H1 : (some false) = some r := by rw [if_neg (show ¬ (false = true) by decide)] at H; exact H
           clear H
           have H := H1
           clear H1
           obtain rfl := Option.some.inj H
           go_wp2
           repeat (go_quiet (fail); try go_wp2)
           go_ret
           exact ⟨pE, pB⟩

/-- THE ONE PURE STATEMENT of laws_FnServeRoomFound: yours. -/
def laws_FnServeRoomFound.Pure : Prop := ∀ (l0 : List Int), l0.length ≤ maxLen → l0.length * 1 ≤ 140737488351232 → (∀ x ∈ l0, (Lit.int .u8 x).wf = true) → ∃ k, laws_FnServeRoomFound.f k l0 = some true
theorem laws_FnServeRoomFound.walk (P : laws_FnServeRoomFound.Pure) (a0 : Option Addr) (len0 cap0 : Nat) (z0 : List Int) (w : World) (w0 : (a0 = none ∧ len0 = 0 ∧ cap0 = 0 ∧ z0 = []) ∨ ∃ x, a0 = some x ∧ len0 ≤ cap0 ∧ cap0 ≤ maxLen ∧ z0.length = cap0 ∧ (∀ i, i < z0.length → w.cell? (x.add i) = some (.int .u8 (z0.getD i 0))) ∧ ∀ n ∈ z0, (Lit.int .u8 n).wf = true) (y0 : len0 * 1 ≤ 140737488351232) :
  Calls Try.prog 14 #[.slice a0 len0 cap0] w fun e w' => e = .returned (.bool true) ∧ Below w.heap.size w w' := by
 obtain ⟨l0, rfl, hr0, hm0, hw0, hc0⟩ := ReadsInt.ofRowC w0
 obtain ⟨k, h⟩ := P l0 hm0 y0 hw0
 refine (laws_FnServeRoomFound.calls k _ _ l0 true w (Kd.C_of_reads (d := (0 : Int)) (h1 := fun _ => rfl) hr0) hc0 h).mono ?_
 rintro e w' ⟨rfl, hd⟩
 exact ⟨rfl, hd⟩

end Go.Proofs.Ytehenjjaekkcfaa.Q
