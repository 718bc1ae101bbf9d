-- Written by the kit's print.py for all laws of the seat at once (one namespace), by a program of this session.
import Derived.Test.YtgfclechgalpmaaQx0
import Derived.Test.YtgfclechgalpmaaQx4
import Derived.Test.YtgfclechgalpmaaQx14
import Derived.Test.YtgfclechgalpmaaQx15
import Derived.Test.YtgfclechgalpmaaQx18
namespace Go.Proofs.Ytgfclechgalpmaa.Q
open Go.RowKit Go.Proofs.YtgfclechgalpmaaW.PrintWords Go.Proofs.YtgfclechgalpmaaW.PrintLast Go.Proofs.YtgfclechgalpmaaW.PrintMore
attribute [local go_sem] max2_int min2_int max_two min_two max_three min_three max_four min_four   -- for this text's walks alone
set_option linter.unusedVariables false
set_option linter.unusedSimpArgs false

/-! ### spec_DrawGuestsValid: function 25 -/
def spec_DrawGuestsValid.f (k : Nat) (l0 : List Int) : Option ((List (S30))) := (spec_l6Open.f l0).bind fun bt240 => ((spec_l91Guests.f k bt240.1 bt240.2).bind fun bt243 => (some bt243.1))
theorem spec_DrawGuestsValid.mono : ∀ a0 k, LeO (spec_DrawGuestsValid.f k a0) (spec_DrawGuestsValid.f (k + 1) a0) := by
 intro a0 k
 unfold spec_DrawGuestsValid.f
 repeat' first
   | (with_reducible exact spec_l91Guests.mono _ _ _)
   | (with_reducible exact LeO.refl _)
   | (with_reducible exact LeO.none _)
   | (with_reducible refine LeO.ite ?_ ?_)
   | (with_reducible refine LeO.bind ?_ (fun _ => ?_))
   | exact spec_l91Guests.mono _ _ _
   | exact LeO.none _
   | refine LeO.ite ?_ ?_
   | refine LeO.bind ?_ (fun _ => ?_)
set_option maxHeartbeats 8000000 in
set_option maxRecDepth 100000 in
theorem spec_DrawGuestsValid.calls (k : Nat) (A0 : Option Addr) (c0 : Nat) (l0 : List Int) (r : List (S30)) (w : World) (hr0 : Kd.C (Kd.int .u8) w A0 l0.length l0) (hc0 : l0.length ≤ c0) (h : spec_DrawGuestsValid.f k l0 = some r) :
  Calls Try.prog 25 #[.slice A0 l0.length c0] w fun e w' => ∃ v0_ : Value, e = .returned (v0_) ∧ Kd.R k30 30 w' w.heap.size (fun _ => True) v0_ r ∧ Below w.heap.size w w' := by
 have HR0 := Aside0.mk hr0
 have HC0 := Aside0.mk hc0
 clear hr0 hc0
 have HB := Aside0.mk (Below.refl w.heap.size w)
 have H : ((spec_l6Open.f l0).bind fun bt240 => ((spec_l91Guests.f k bt240.1 bt240.2).bind fun bt243 => (some bt243.1))) = some r := h
 clear h
 replace H := Option.bind_eq_some_iff.mp H
 obtain ⟨⟨t240, t241⟩, A20, H⟩ := H
 replace H : ((spec_l91Guests.f k t240 t241).bind fun bt243 => (some bt243.1)) = some r := H
 have A2 := Aside0.mk A20
 clear A20
 replace H := Option.bind_eq_some_iff.mp H
 obtain ⟨⟨t243, t246⟩, A30, H⟩ := H
 replace H : (some t243) = some r := H
 have A3 := Aside0.mk A30
 clear A30
 obtain rfl := Option.some.inj H
 go_enter Try.func25, Try.ntmps25
 go_wp2_with (first | ((with_reducible refine gate_callee (f := 42) rfl ?_); refine goesL_ (some 4) rfl rfl Try.func42 (by kernel_rfl) rfl #[.slice A0 l0.length c0] rfl (by (try simp only [List.map_toArray, List.map_cons, List.map_nil]); first | done | rfl | (simp only [List.length_drop, List.length_take]; rfl)) ?_; (with_reducible refine (spec_l6Open.calls _ _ l0 t240 t241 w _ ?side1 ?side2 ?side3 A2.out).mono ?_); (case side1 => repeat (first | (with_reducible first | exact HB.out | apply below_alloc | apply pw_below_drewN | apply below_drew1) | exact HB.out)); (case side2 => exact HR0.out); (case side3 => exact HC0.out); rintro e w4 ⟨g242, rfl, hi, hb, hb2⟩; refine ⟨_, rfl, ?_⟩; have n0_ := Aside0.mk (hb); have n1_ := Aside0.mk (hi); clear HB; have HB := n0_; have HI242 := n1_; clear n0_ n1_; (try clear hb); (try clear hb2); (try clear hk); (try clear hi)) | ((with_reducible refine gate_callee (f := 50) rfl ?_); refine goesL_ (some 5) rfl rfl Try.func50 (by kernel_rfl) rfl #[.pointer (some ⟨g242, 0, none⟩)] rfl (by (try simp only [List.map_toArray, List.map_cons, List.map_nil]); first | done | rfl | (simp only [List.length_drop, List.length_take]; rfl)) ?_; (with_reducible refine (spec_l91Guests.calls k g242 t240 t241 t243 t246 w _ ?side1 ?side2 A3.out).mono ?_); (case side1 => repeat (first | (with_reducible first | exact HI242.out | apply IsS65.alloc | apply IsS65.drewN | apply IsS65.drew | apply IsS65.set_1) | exact HI242.out)); (case side2 => repeat (first | (with_reducible first | exact HB.out | apply below_alloc | apply pw_below_drewN | apply below_drew1 | refine below_set ?_ (IsS65.ge HI242.out)) | exact HB.out)); rintro e w5 ⟨v244, rfl, ho0, hi, hb, hk⟩; refine ⟨_, rfl, ?_⟩; have n0_ := Aside0.mk (Kd.R_lower ho0 (below_size (by repeat (first | (with_reducible first | exact HB.out | apply below_alloc | apply pw_below_drewN | apply below_drew1 | refine below_set ?_ (IsS65.ge HI242.out)) | exact HB.out)))); have n1_ := Aside0.mk (hb); have n2_ := Aside0.mk (hi); clear HB; clear HI242; have HO245 := n0_; have HB := n1_; have HI242 := n2_; clear n0_ n1_ n2_; (try clear hb); (try clear hb2); (try clear hk); (try clear hi); (try clear ho0)))
 go_ret
 exact ⟨_, by first | rfl | (simp [errW_none, errW_some] <;> rfl) | (simp [*, errW_none, errW_some] <;> rfl), by (with_reducible repeat (first | apply Kd.R_alloc | apply Kd.R_drewN | apply Kd.R_drew)); exact HO245.out, by repeat (first | (with_reducible first | exact HB.out | apply below_alloc | apply pw_below_drewN | apply below_drew1 | refine below_set ?_ (IsS65.ge HI242.out)) | exact HB.out)⟩

/-! ### laws_FnGuestsPart: function 8 -/
mutual
def laws_FnGuestsPart.j0 : Nat → List Int → List Int → Bool → Option (Bool)
 | 0, _, _, _ => none
 | k + 1, x0, x1, x18 => if x18 = true then (some true) else ((spec_DrawGuestsValid.f k x0).bind fun t247 => ((impl_GuestsValid.f k t247).bind fun t250 => ((spec_GuestsValid.f k t247).bind fun t251 => (if (t250 != t251) = true then (laws_FnGuestsPart.j1 k x1 t247 t250 t251 true) else (if t250 = true then (laws_FnGuestsPart.j1 k x1 t247 t250 t251 ((t247.length : Int) == 0)) else (laws_FnGuestsPart.j1 k x1 t247 t250 t251 true))))))
def laws_FnGuestsPart.j1 : Nat → List Int → List (S30) → Bool → Bool → Bool → Option (Bool)
 | 0, _, _, _, _, _ => none
 | k + 1, x1, x5, x6, x7, x36 => if x36 = true then (some (x6 == x7)) else (if (x5.length : Int) = 0 then (none) else ((some (([] : List (S30)) : List (S30))).bind fun y252 => (if 0 ≤ ((x1.length : Int) % (x5.length : Int)) then (if ((x1.length : Int) % (x5.length : Int)) ≤ (x5.length : Int) then ((some (x5.take (((x1.length : Int) % (x5.length : Int)) : Int).toNat : List (S30))).bind fun y255 => (if y252.length + y255.length < 5864062014805 then ((some (y252 ++ y255 : List (S30))).bind fun y259 => (if 0 ≤ (wrap64 (((x1.length : Int) % (x5.length : Int)) + 1)) then (if (wrap64 (((x1.length : Int) % (x5.length : Int)) + 1)) ≤ (x5.length : Int) then ((some (x5.drop ((wrap64 (((x1.length : Int) % (x5.length : Int)) + 1)) : Int).toNat : List (S30))).bind fun y262 => (if y259.length + y262.length < 5864062014805 then ((some (([] : List (S30)) : List (S30))).bind fun y269 => (if y269.length + x5.length < 5864062014805 then ((some (y269 ++ x5 : List (S30))).bind fun y272 => (if ((x1.length : Int) % (x5.length : Int)) < (y272.length : Int) then ((impl_GuestsValid.f k (y259 ++ y262)).bind fun t276 => (if t276 = true then ((impl_GuestsValid.f k (y272.set (((x1.length : Int) % (x5.length : Int)) : Int).toNat (⟨(rd_T30 y272 ((x1.length : Int) % (x5.length : Int))).f0, 0, (rd_T30 y272 ((x1.length : Int) % (x5.length : Int))).f2⟩ : S30))).bind fun t277 => (some (!t277))) else (some false))) else (none))) else (none))) else (none))) else (none)) else (none))) else (none))) else (none)) else (none))))
end
def laws_FnGuestsPart.f (k : Nat) (l0 : List Int) (l1 : List Int) : Option (Bool) := if (l0.length : Int) > 1048576 then (laws_FnGuestsPart.j0 k l0 l1 true) else (laws_FnGuestsPart.j0 k l0 l1 (decide ((l1.length : Int) > 1048576)))
theorem laws_FnGuestsPart.mono_l : ∀ k, (∀ y0 y1 y2, LeO (laws_FnGuestsPart.j0 k y0 y1 y2) (laws_FnGuestsPart.j0 (k + 1) y0 y1 y2)) ∧ (∀ y0 y1 y2 y3 y4, LeO (laws_FnGuestsPart.j1 k y0 y1 y2 y3 y4) (laws_FnGuestsPart.j1 (k + 1) y0 y1 y2 y3 y4))
 | 0 => ⟨fun _ _ _ r h => by simp [laws_FnGuestsPart.j0] at h, fun _ _ _ _ _ r h => by simp [laws_FnGuestsPart.j1] at h⟩
 | k + 1 => by
  obtain ⟨ih0, ih1⟩ := laws_FnGuestsPart.mono_l k
  refine ⟨?_, ?_⟩
  ·intro y0 y1 y2
   unfold laws_FnGuestsPart.j0
   repeat' first
   | (with_reducible exact ih0 _ _ _)
   | (with_reducible exact ih1 _ _ _ _ _)
   | (with_reducible exact impl_GuestsValid.mono _ _)
   | (with_reducible exact spec_DrawGuestsValid.mono _ _)
   | (with_reducible exact spec_GuestsValid.mono _ _)
   | (with_reducible exact LeO.refl _)
   | (with_reducible exact LeO.none _)
   | (with_reducible refine LeO.ite ?_ ?_)
   | (with_reducible refine LeO.bind ?_ (fun _ => ?_))
   | exact ih0 _ _ _
   | exact ih1 _ _ _ _ _
   | exact impl_GuestsValid.mono _ _
   | exact spec_DrawGuestsValid.mono _ _
   | exact spec_GuestsValid.mono _ _
   | exact LeO.none _
   | refine LeO.ite ?_ ?_
   | refine LeO.bind ?_ (fun _ => ?_)
  ·intro y0 y1 y2 y3 y4
   unfold laws_FnGuestsPart.j1
   repeat' first
   | (with_reducible exact ih0 _ _ _)
   | (with_reducible exact ih1 _ _ _ _ _)
   | (with_reducible exact impl_GuestsValid.mono _ _)
   | (with_reducible exact spec_DrawGuestsValid.mono _ _)
   | (with_reducible exact spec_GuestsValid.mono _ _)
   | (with_reducible exact LeO.refl _)
   | (with_reducible exact LeO.none _)
   | (with_reducible refine LeO.ite ?_ ?_)
   | (with_reducible refine LeO.bind ?_ (fun _ => ?_))
   | exact ih0 _ _ _
   | exact ih1 _ _ _ _ _
   | exact impl_GuestsValid.mono _ _
   | exact spec_DrawGuestsValid.mono _ _
   | exact spec_GuestsValid.mono _ _
   | exact LeO.none _
   | refine LeO.ite ?_ ?_
   | refine LeO.bind ?_ (fun _ => ?_)
theorem laws_FnGuestsPart.mono : ∀ a0 a1 k, LeO (laws_FnGuestsPart.f k a0 a1) (laws_FnGuestsPart.f (k + 1) a0 a1) := by
 intro a0 a1 k
 obtain ⟨ih0, ih1⟩ := laws_FnGuestsPart.mono_l k
 unfold laws_FnGuestsPart.f
 repeat' first
   | (with_reducible exact ih0 _ _ _)
   | (with_reducible exact ih1 _ _ _ _ _)
   | (with_reducible exact impl_GuestsValid.mono _ _)
   | (with_reducible exact spec_DrawGuestsValid.mono _ _)
   | (with_reducible exact spec_GuestsValid.mono _ _)
   | (with_reducible exact LeO.refl _)
   | (with_reducible exact LeO.none _)
   | (with_reducible refine LeO.ite ?_ ?_)
   | (with_reducible refine LeO.bind ?_ (fun _ => ?_))
   | exact ih0 _ _ _
   | exact ih1 _ _ _ _ _
   | exact impl_GuestsValid.mono _ _
   | exact spec_DrawGuestsValid.mono _ _
   | exact spec_GuestsValid.mono _ _
   | exact LeO.none _
   | refine LeO.ite ?_ ?_
   | refine LeO.bind ?_ (fun _ => ?_)
def laws_FnGuestsPart.T9 : Bool × List (List Nat × List Nat) := (true, [([], []), ([], []), ([], []), ([1, 2], [1, 2]), ([0, 3], [0, 3]), ([], []), ([], []), ([6], [6]), ([5, 7], [5, 7]), ([4, 8, 4], [4, 8]), ([9, 9, 0, 1, 2, 3, 4, 5, 6, 7, 8, 9], [9])])
def laws_FnGuestsPart.B9 : List Nat := [0, 0, 0, 6, 15, 0, 0, 64, 224, 511, 1023]
theorem laws_FnGuestsPart.tab9 : rtab .any (opsOf Try.f8 9) = laws_FnGuestsPart.T9 := by kernel_rfl
theorem laws_FnGuestsPart.bits9 : waitsOk laws_FnGuestsPart.T9.2 laws_FnGuestsPart.B9 = true := by kernel_rfl
set_option maxHeartbeats 8000000 in
set_option maxRecDepth 100000 in
theorem laws_FnGuestsPart.calls (k : Nat) (A0 : Option Addr) (c0 : Nat) (l0 : List Int) (A1 : Option Addr) (c1 : Nat) (l1 : List Int) (r : Bool) (w : World) (hr0 : Kd.C (Kd.int .u8) w A0 l0.length l0) (hc0 : l0.length ≤ c0) (hr1 : Kd.C (Kd.int .u8) w A1 l1.length l1) (hc1 : l1.length ≤ c1) (h : laws_FnGuestsPart.f k l0 l1 = some r) :
  Calls Try.prog 8 #[.slice A0 l0.length c0, .slice A1 l1.length c1] w fun e w' => e = .returned (.bool r) ∧ Below w.heap.size w w' := by
 have HR0 := Aside0.mk hr0
 have HC0 := Aside0.mk hc0
 clear hr0 hc0
 have HR1 := Aside0.mk hr1
 have HC1 := Aside0.mk hc1
 clear hr1 hc1
 have HB := Aside0.mk (Below.refl w.heap.size w)
 have H : (if (l0.length : Int) > 1048576 then (laws_FnGuestsPart.j0 k l0 l1 true) else (laws_FnGuestsPart.j0 k l0 l1 (decide ((l1.length : Int) > 1048576)))) = some r := h
 clear h
 have HC3 := Aside0.mk H
 clear H
 go_enter Try.func8, Try.ntmps8
 go_upto_region 1 with (fail)
 go_cut [18] (fun v18 wc => ∃ (kq : Nat) (x18_2 : Bool), v18 = .bool x18_2 ∧ Aside0 (laws_FnGuestsPart.j0 kq l0 l1 x18_2 = some r) ∧ Aside0 (kq ≤ k) ∧ Aside0 (Below w.heap.size w wc))
 case first =>
  have H := HC3.out
  clear HC3
  by_cases c4 : (l0.length : Int) > 1048576
  ·rw [if_pos c4] at H
   have c4b0 : decide (1048576 < (l0.length : Int)) = true := decide_eq_true c4
   have c4b1 : decide (1048576 < l0.length) = true := decide_eq_true (by omega)
   clear c4
   (first | rw [c4b0] | (simp only [i64_w, i32_w]; rw [c4b0]) | skip)
   have H' := Aside0.mk H
   clear H
   go_wp2
   go_meet
   case rel => exact ⟨_, (true), (by first | rfl | (simp; done) | (simp [*]; done)), H', ⟨by first | omega | exact Nat.le_refl _⟩, ⟨by repeat (first | (with_reducible first | exact HB.out | apply below_alloc | apply pw_below_drewN | apply below_drew1) | exact HB.out)⟩⟩
  ·rw [if_neg c4] at H
   have c4b0 : decide (1048576 < (l0.length : Int)) = false := decide_eq_false c4
   have c4b1 : decide (1048576 < l0.length) = false := decide_eq_false (by omega)
   clear c4
   (first | rw [c4b0] | (simp only [i64_w, i32_w]; rw [c4b0]) | skip)
   have H' := Aside0.mk H
   clear H
   go_wp2
   go_meet
   case rel => exact ⟨_, (decide ((l1.length : Int) > 1048576)), (by first | rfl | (simp; done) | (simp [*]; done)), H', ⟨by first | omega | exact Nat.le_refl _⟩, ⟨by repeat (first | (with_reducible first | exact HB.out | apply below_alloc | apply pw_below_drewN | apply below_drew1) | exact HB.out)⟩⟩
 case rest =>
  clear HC3
  try clear c1
  try clear p2
  try clear c4
  try clear c4b0
  try clear c4b1
  obtain ⟨kq, x18_2, rfl, HA, HJ2, HB⟩ := hcut
  cases kq with
  | zero => exact absurd HA.out (by simp [laws_FnGuestsPart.j0])
  | succ kj2 =>
   have H := HA.out
   clear HA
   simp only [laws_FnGuestsPart.j0] at H
   by_cases c5 : x18_2 = true
   ·subst c5
    have H1 : (some true) = some r := by rw [if_pos rfl] at H; exact H
    clear H
    have H := H1
    clear H1
    obtain rfl := Option.some.inj H
    go_wp2
    go_ret
    exact ⟨by first | rfl | (simp [errW_none, errW_some] <;> rfl) | (simp [*, errW_none, errW_some] <;> rfl), by repeat (first | (with_reducible first | exact HB.out | apply below_alloc | apply pw_below_drewN | apply below_drew1) | exact HB.out)⟩
   ·replace c5 := Bool.eq_false_iff.mpr c5
    subst c5
    have H1 : ((spec_DrawGuestsValid.f kj2 l0).bind fun t247 => ((impl_GuestsValid.f kj2 t247).bind fun t250 => ((spec_GuestsValid.f kj2 t247).bind fun t251 => (if (t250 != t251) = true then (laws_FnGuestsPart.j1 kj2 l1 t247 t250 t251 true) else (if t250 = true then (laws_FnGuestsPart.j1 kj2 l1 t247 t250 t251 ((t247.length : Int) == 0)) else (laws_FnGuestsPart.j1 kj2 l1 t247 t250 t251 true)))))) = some r := by rw [if_neg (show ¬ (false = true) by decide)] at H; exact H
    clear H
    have H := H1
    clear H1
    replace H := Option.bind_eq_some_iff.mp H
    obtain ⟨t247, A60, H⟩ := H
    replace H : ((impl_GuestsValid.f kj2 t247).bind fun t250 => ((spec_GuestsValid.f kj2 t247).bind fun t251 => (if (t250 != t251) = true then (laws_FnGuestsPart.j1 kj2 l1 t247 t250 t251 true) else (if t250 = true then (laws_FnGuestsPart.j1 kj2 l1 t247 t250 t251 ((t247.length : Int) == 0)) else (laws_FnGuestsPart.j1 kj2 l1 t247 t250 t251 true))))) = some r := H
    have A6 := Aside0.mk A60
    clear A60
    replace H := Option.bind_eq_some_iff.mp H
    obtain ⟨t250, A70, H⟩ := H
    replace H : ((spec_GuestsValid.f kj2 t247).bind fun t251 => (if (t250 != t251) = true then (laws_FnGuestsPart.j1 kj2 l1 t247 t250 t251 true) else (if t250 = true then (laws_FnGuestsPart.j1 kj2 l1 t247 t250 t251 ((t247.length : Int) == 0)) else (laws_FnGuestsPart.j1 kj2 l1 t247 t250 t251 true)))) = some r := H
    have A7 := Aside0.mk A70
    clear A70
    replace H := Option.bind_eq_some_iff.mp H
    obtain ⟨t251, A80, H⟩ := H
    replace H : (if (t250 != t251) = true then (laws_FnGuestsPart.j1 kj2 l1 t247 t250 t251 true) else (if t250 = true then (laws_FnGuestsPart.j1 kj2 l1 t247 t250 t251 ((t247.length : Int) == 0)) else (laws_FnGuestsPart.j1 kj2 l1 t247 t250 t251 true))) = some r := H
    have A8 := Aside0.mk A80
    clear A80
    have HC9 := Aside0.mk H
    clear H
    go_upto_region 6 with (first | ((with_reducible refine gate_callee (f := 25) rfl ?_); refine goesL_ (some 20) rfl rfl Try.func25 (by kernel_rfl) rfl #[.slice A0 l0.length c0] rfl (by (try simp only [List.map_toArray, List.map_cons, List.map_nil]); first | done | rfl | (simp only [List.length_drop, List.length_take]; rfl)) ?_; (with_reducible refine (spec_DrawGuestsValid.calls kj2 _ _ l0 t247 _ ?side1 ?side2 A6.out).mono ?_); (case side1 => repeat (first | exact (Kd.C_below HR0.out HB.out) | (with_reducible refine Kd.C_alloc ?_ _) | (with_reducible refine Kd.C_drewN ?_ _) | (with_reducible refine Kd.C_drew ?_))); (case side2 => exact HC0.out); rintro e w10 ⟨v248, rfl, ho0, hb⟩; refine ⟨_, rfl, ?_⟩; have n0_ := Aside0.mk (Kd.R_lower ho0 (below_size (by repeat (first | (with_reducible first | exact HB.out | apply below_alloc | apply pw_below_drewN | apply below_drew1) | exact HB.out)))); have n1_ := Aside0.mk (below_step (by repeat (first | (with_reducible first | exact HB.out | apply below_alloc | apply pw_below_drewN | apply below_drew1) | exact HB.out)) hb); clear HB; have HO249 := n0_; have HB := n1_; clear n0_ n1_; (try clear hb); (try clear hb2); (try clear hk); (try clear hi); (try clear ho0); obtain ⟨Ao11, co11, eo11⟩ := Kd.R_slice HO249.out; subst eo11) | ((with_reducible refine gate_callee (f := 23) rfl ?_); refine goesL_ (some 22) rfl rfl Try.func23 (by kernel_rfl) rfl #[.slice Ao11 t247.length co11] rfl (by (try simp only [List.map_toArray, List.map_cons, List.map_nil]); first | done | rfl | (simp only [List.length_drop, List.length_take]; rfl)) ?_; (with_reducible refine (impl_GuestsValid.calls kj2 _ _ t247 t250 _ ?side1 ?side2 A7.out).mono ?_); (case side1 => repeat (first | exact (Kd.R_reads' HO249.out).2.2 | (with_reducible refine Kd.C_alloc ?_ _) | (with_reducible refine Kd.C_drewN ?_ _) | (with_reducible refine Kd.C_drew ?_))); (case side2 => exact (Kd.R_reads' HO249.out).2.1); rintro e w12 ⟨rfl, hb⟩; refine ⟨_, rfl, ?_⟩; have n0_ := Aside0.mk (Kd.R_below (by (with_reducible repeat (first | apply Kd.R_alloc | apply Kd.R_drewN | apply Kd.R_drew)); exact HO249.out) hb); have n1_ := Aside0.mk (below_step (by repeat (first | (with_reducible first | exact HB.out | apply below_alloc | apply pw_below_drewN | apply below_drew1) | exact HB.out)) hb); clear HO249; clear HB; have HO249 := n0_; have HB := n1_; clear n0_ n1_; (try clear hb); (try clear hb2); (try clear hk); (try clear hi)) | ((with_reducible refine gate_callee (f := 21) rfl ?_); refine goesL_ (some 24) rfl rfl Try.func21 (by kernel_rfl) rfl #[.slice Ao11 t247.length co11] rfl (by (try simp only [List.map_toArray, List.map_cons, List.map_nil]); first | done | rfl | (simp only [List.length_drop, List.length_take]; rfl)) ?_; (with_reducible refine (spec_GuestsValid.calls kj2 _ _ t247 t251 _ ?side1 ?side2 A8.out).mono ?_); (case side1 => repeat (first | exact (Kd.R_reads' HO249.out).2.2 | (with_reducible refine Kd.C_alloc ?_ _) | (with_reducible refine Kd.C_drewN ?_ _) | (with_reducible refine Kd.C_drew ?_))); (case side2 => exact (Kd.R_reads' HO249.out).2.1); rintro e w13 ⟨rfl, hb⟩; refine ⟨_, rfl, ?_⟩; have n0_ := Aside0.mk (Kd.R_below (by (with_reducible repeat (first | apply Kd.R_alloc | apply Kd.R_drewN | apply Kd.R_drew)); exact HO249.out) hb); have n1_ := Aside0.mk (below_step (by repeat (first | (with_reducible first | exact HB.out | apply below_alloc | apply pw_below_drewN | apply below_drew1) | exact HB.out)) hb); clear HO249; clear HB; have HO249 := n0_; have HB := n1_; clear n0_ n1_; (try clear hb); (try clear hb2); (try clear hk); (try clear hi)))
    (try simp only [Act.put, List.setIfInBounds_toArray, List.set_cons_zero, List.set_cons_succ])
    go_cut [36] (fun v36 wc => ∃ (kq : Nat) (x36_8 : Bool), v36 = .bool x36_8 ∧ Aside0 (laws_FnGuestsPart.j1 kq l1 t247 t250 t251 x36_8 = some r) ∧ Aside0 (kq ≤ kj2) ∧ Aside0 (Kd.R k30 30 wc w.heap.size (fun _ => True) (.slice Ao11 t247.length co11) t247) ∧ Aside0 (Below w.heap.size w wc))
    case first =>
     have H := HC9.out
     clear HC9
     by_cases c14 : (t250 != t251) = true
     ·rw [if_pos c14] at H
      have c14b0 : (t250 != t251) = true := c14
      (try (have c14b1 : decide (t250 = t251) = false := by simpa using c14))
      (try (have c14b2 : (t250 == t251) = false := by simpa using c14))
      (try (have c14b3 : ¬ (t250 = t251) := by simpa using c14))
      clear c14
      (first | rw [c14b0] | (simp only [i64_w, i32_w]; rw [c14b0]) | skip)
      have H' := Aside0.mk H
      clear H
      go_wp2
      go_meet
      case rel => exact ⟨_, (true), (by first | rfl | (simp; done) | (simp [*]; done)), H', ⟨by have := HJ2.out; first | omega | exact Nat.le_refl _⟩, ⟨by (with_reducible repeat (first | apply Kd.R_alloc | apply Kd.R_drewN | apply Kd.R_drew)); exact HO249.out⟩, ⟨by repeat (first | (with_reducible first | exact HB.out | apply below_alloc | apply pw_below_drewN | apply below_drew1) | exact HB.out)⟩⟩
     ·rw [if_neg c14] at H
      have c14b0 : (t250 != t251) = false := by simpa using c14
      (try (have c14b1 : decide (t250 = t251) = true := by simpa using c14))
      (try (have c14b2 : (t250 == t251) = true := by simpa using c14))
      clear c14
      (first | rw [c14b0] | (simp only [i64_w, i32_w]; rw [c14b0]) | skip)
      by_cases c15 : t250 = true
      ·subst c15
       have H1 : (laws_FnGuestsPart.j1 kj2 l1 t247 true t251 ((t247.length : Int) == 0)) = some r := by rw [if_pos rfl] at H; exact H
       clear H
       have H := H1
       clear H1
       have H' := Aside0.mk H
       clear H
       go_wp2
       go_meet
       case rel => exact ⟨_, (((t247.length : Int) == 0)), (by first | rfl | (simp; done) | (simp [*]; done)), H', ⟨by have := HJ2.out; first | omega | exact Nat.le_refl _⟩, ⟨by (with_reducible repeat (first | apply Kd.R_alloc | apply Kd.R_drewN | apply Kd.R_drew)); exact HO249.out⟩, ⟨by repeat (first | (with_reducible first | exact HB.out | apply below_alloc | apply pw_below_drewN | apply below_drew1) | exact HB.out)⟩⟩
      ·replace c15 := Bool.eq_false_iff.mpr c15
       subst c15
       have H1 : (laws_FnGuestsPart.j1 kj2 l1 t247 false t251 true) = some r := by rw [if_neg (show ¬ (false = true) by decide)] at H; exact H
       clear H
       have H := H1
       clear H1
       have H' := Aside0.mk H
       clear H
       go_wp2
       go_meet
       case rel => exact ⟨_, (true), (by first | rfl | (simp; done) | (simp [*]; done)), H', ⟨by have := HJ2.out; first | omega | exact Nat.le_refl _⟩, ⟨by (with_reducible repeat (first | apply Kd.R_alloc | apply Kd.R_drewN | apply Kd.R_drew)); exact HO249.out⟩, ⟨by repeat (first | (with_reducible first | exact HB.out | apply below_alloc | apply pw_below_drewN | apply below_drew1) | exact HB.out)⟩⟩
    case rest =>
     clear HC9
     try clear c1
     try clear c2
     try clear p2
     try clear c4
     try clear c4b0
     try clear c4b1
     try clear c5
     try clear c8
     try clear c14
     try clear c14b0
     try clear c14b1
     try clear c14b2
     try clear c15
     try clear p2
     obtain ⟨kq, x36_8, rfl, HA, HJ8, HO_5, HB⟩ := hcut
     cases kq with
     | zero => exact absurd HA.out (by simp [laws_FnGuestsPart.j1])
     | succ kj8 =>
      have H := HA.out
      clear HA
      simp only [laws_FnGuestsPart.j1] at H
      by_cases c16 : x36_8 = true
      ·subst c16
       have H1 : (some (t250 == t251)) = some r := by rw [if_pos rfl] at H; exact H
       clear H
       have H := H1
       clear H1
       obtain rfl := Option.some.inj H
       go_wp2
       go_ret
       exact ⟨by first | rfl | (simp [errW_none, errW_some] <;> rfl) | (simp [*, errW_none, errW_some] <;> rfl), by repeat (first | (with_reducible first | exact HB.out | apply below_alloc | apply pw_below_drewN | apply below_drew1) | exact HB.out)⟩
      ·replace c16 := Bool.eq_false_iff.mpr c16
       subst c16
       have H1 : (if (t247.length : Int) = 0 then (none) else ((some (([] : List (S30)) : List (S30))).bind fun y252 => (if 0 ≤ ((l1.length : Int) % (t247.length : Int)) then (if ((l1.length : Int) % (t247.length : Int)) ≤ (t247.length : Int) then ((some (t247.take (((l1.length : Int) % (t247.length : Int)) : Int).toNat : List (S30))).bind fun y255 => (if y252.length + y255.length < 5864062014805 then ((some (y252 ++ y255 : List (S30))).bind fun y259 => (if 0 ≤ (wrap64 (((l1.length : Int) % (t247.length : Int)) + 1)) then (if (wrap64 (((l1.length : Int) % (t247.length : Int)) + 1)) ≤ (t247.length : Int) then ((some (t247.drop ((wrap64 (((l1.length : Int) % (t247.length : Int)) + 1)) : Int).toNat : List (S30))).bind fun y262 => (if y259.length + y262.length < 5864062014805 then ((some (([] : List (S30)) : List (S30))).bind fun y269 => (if y269.length + t247.length < 5864062014805 then ((some (y269 ++ t247 : List (S30))).bind fun y272 => (if ((l1.length : Int) % (t247.length : Int)) < (y272.length : Int) then ((impl_GuestsValid.f kj8 (y259 ++ y262)).bind fun t276 => (if t276 = true then ((impl_GuestsValid.f kj8 (y272.set (((l1.length : Int) % (t247.length : Int)) : Int).toNat (⟨(rd_T30 y272 ((l1.length : Int) % (t247.length : Int))).f0, 0, (rd_T30 y272 ((l1.length : Int) % (t247.length : Int))).f2⟩ : S30))).bind fun t277 => (some (!t277))) else (some false))) else (none))) else (none))) else (none))) else (none)) else (none))) else (none))) else (none)) else (none)))) = some r := by rw [if_neg (show ¬ (false = true) by decide)] at H; exact H
       clear H
       have H := H1
       clear H1
       by_cases c17 : (t247.length : Int) = 0
       ·rw [if_pos c17] at H
        exact absurd H (by simp)
       ·rw [if_neg c17] at H
        have c17b0 : ((t247.length : Int) == 0) = false := beq_eq_false_iff_ne.mpr c17
        have c17b1 : ((t247.length : Int) != 0) = true := bne_iff_ne.mpr c17
        have c17b2 : ¬ (t247 = []) := fun h_ => c17 (by rw [h_]; rfl)
        obtain ⟨y252, hy252⟩ : ∃ y_ : List (S30), y_ = (([] : List (S30))) := ⟨_, rfl⟩
        replace H : (if 0 ≤ ((l1.length : Int) % (t247.length : Int)) then (if ((l1.length : Int) % (t247.length : Int)) ≤ (t247.length : Int) then ((some (t247.take (((l1.length : Int) % (t247.length : Int)) : Int).toNat : List (S30))).bind fun y255 => (if y252.length + y255.length < 5864062014805 then ((some (y252 ++ y255 : List (S30))).bind fun y259 => (if 0 ≤ (wrap64 (((l1.length : Int) % (t247.length : Int)) + 1)) then (if (wrap64 (((l1.length : Int) % (t247.length : Int)) + 1)) ≤ (t247.length : Int) then ((some (t247.drop ((wrap64 (((l1.length : Int) % (t247.length : Int)) + 1)) : Int).toNat : List (S30))).bind fun y262 => (if y259.length + y262.length < 5864062014805 then ((some (([] : List (S30)) : List (S30))).bind fun y269 => (if y269.length + t247.length < 5864062014805 then ((some (y269 ++ t247 : List (S30))).bind fun y272 => (if ((l1.length : Int) % (t247.length : Int)) < (y272.length : Int) then ((impl_GuestsValid.f kj8 (y259 ++ y262)).bind fun t276 => (if t276 = true then ((impl_GuestsValid.f kj8 (y272.set (((l1.length : Int) % (t247.length : Int)) : Int).toNat (⟨(rd_T30 y272 ((l1.length : Int) % (t247.length : Int))).f0, 0, (rd_T30 y272 ((l1.length : Int) % (t247.length : Int))).f2⟩ : S30))).bind fun t277 => (some (!t277))) else (some false))) else (none))) else (none))) else (none))) else (none)) else (none))) else (none))) else (none)) else (none)) = some r := by first | (rw [hy252]; with_reducible exact H) | (have H2_ := (Option.bind_some _ _).symm.trans H; rw [hy252]; with_reducible exact H2_) | (have H2_ := (Option.bind_some _ _).symm.trans H; with_reducible exact H2_) | with_reducible exact H | (rw [hy252]; exact H) | exact H
        have Ny252 := Aside0.mk hy252
        clear hy252
        obtain ⟨ji18, hji18⟩ : ∃ j_ : Int, ((l1.length : Int) % (t247.length : Int)) = j_ := ⟨_, rfl⟩
        replace H : (if 0 ≤ (ji18) then (if (ji18) ≤ (t247.length : Int) then ((some (t247.take ((ji18) : Int).toNat : List (S30))).bind fun y255 => (if y252.length + y255.length < 5864062014805 then ((some (y252 ++ y255 : List (S30))).bind fun y259 => (if 0 ≤ (wrap64 ((ji18) + 1)) then (if (wrap64 ((ji18) + 1)) ≤ (t247.length : Int) then ((some (t247.drop ((wrap64 ((ji18) + 1)) : Int).toNat : List (S30))).bind fun y262 => (if y259.length + y262.length < 5864062014805 then ((some (([] : List (S30)) : List (S30))).bind fun y269 => (if y269.length + t247.length < 5864062014805 then ((some (y269 ++ t247 : List (S30))).bind fun y272 => (if (ji18) < (y272.length : Int) then ((impl_GuestsValid.f kj8 (y259 ++ y262)).bind fun t276 => (if t276 = true then ((impl_GuestsValid.f kj8 (y272.set ((ji18) : Int).toNat (⟨(rd_T30 y272 (ji18)).f0, 0, (rd_T30 y272 (ji18)).f2⟩ : S30))).bind fun t277 => (some (!t277))) else (some false))) else (none))) else (none))) else (none))) else (none)) else (none))) else (none))) else (none)) else (none)) = some r := by first | (rw [hji18] at H; exact H) | (simp only [hji18] at H ⊢; exact H)
        by_cases c19 : 0 ≤ (ji18)
        ·rw [if_pos c19] at H
         have c19b0 := eq_true c19
         have c19b1 : decide (0 ≤ (ji18)) = true := decide_eq_true c19
         clear c19
         by_cases c20 : (ji18) ≤ (t247.length : Int)
         ·rw [if_pos c20] at H
          have c20b0 := eq_true c20
          have c20b1 : decide ((ji18) ≤ (t247.length : Int)) = true := decide_eq_true c20
          clear c20
          obtain ⟨y255, hy255⟩ : ∃ y_ : List (S30), y_ = (t247.take ((ji18) : Int).toNat) := ⟨_, rfl⟩
          replace H : (if y252.length + y255.length < 5864062014805 then ((some (y252 ++ y255 : List (S30))).bind fun y259 => (if 0 ≤ (wrap64 ((ji18) + 1)) then (if (wrap64 ((ji18) + 1)) ≤ (t247.length : Int) then ((some (t247.drop ((wrap64 ((ji18) + 1)) : Int).toNat : List (S30))).bind fun y262 => (if y259.length + y262.length < 5864062014805 then ((some (([] : List (S30)) : List (S30))).bind fun y269 => (if y269.length + t247.length < 5864062014805 then ((some (y269 ++ t247 : List (S30))).bind fun y272 => (if (ji18) < (y272.length : Int) then ((impl_GuestsValid.f kj8 (y259 ++ y262)).bind fun t276 => (if t276 = true then ((impl_GuestsValid.f kj8 (y272.set ((ji18) : Int).toNat (⟨(rd_T30 y272 (ji18)).f0, 0, (rd_T30 y272 (ji18)).f2⟩ : S30))).bind fun t277 => (some (!t277))) else (some false))) else (none))) else (none))) else (none))) else (none)) else (none))) else (none)) = some r := by first | (rw [hy255]; with_reducible exact H) | (have H2_ := (Option.bind_some _ _).symm.trans H; rw [hy255]; with_reducible exact H2_) | (have H2_ := (Option.bind_some _ _).symm.trans H; with_reducible exact H2_) | with_reducible exact H | (rw [hy255]; exact H) | exact H
          have Ny255 := Aside0.mk hy255
          clear hy255
          by_cases c21 : y252.length + y255.length < 5864062014805
          ·rw [if_pos c21] at H
           have LMc21 := Aside0.mk c21
           clear c21
           obtain ⟨y259, hy259⟩ : ∃ y_ : List (S30), y_ = (y252 ++ y255) := ⟨_, rfl⟩
           replace H : (if 0 ≤ (wrap64 ((ji18) + 1)) then (if (wrap64 ((ji18) + 1)) ≤ (t247.length : Int) then ((some (t247.drop ((wrap64 ((ji18) + 1)) : Int).toNat : List (S30))).bind fun y262 => (if y259.length + y262.length < 5864062014805 then ((some (([] : List (S30)) : List (S30))).bind fun y269 => (if y269.length + t247.length < 5864062014805 then ((some (y269 ++ t247 : List (S30))).bind fun y272 => (if (ji18) < (y272.length : Int) then ((impl_GuestsValid.f kj8 (y259 ++ y262)).bind fun t276 => (if t276 = true then ((impl_GuestsValid.f kj8 (y272.set ((ji18) : Int).toNat (⟨(rd_T30 y272 (ji18)).f0, 0, (rd_T30 y272 (ji18)).f2⟩ : S30))).bind fun t277 => (some (!t277))) else (some false))) else (none))) else (none))) else (none))) else (none)) else (none)) = some r := by first | (rw [hy259]; with_reducible exact H) | (have H2_ := (Option.bind_some _ _).symm.trans H; rw [hy259]; with_reducible exact H2_) | (have H2_ := (Option.bind_some _ _).symm.trans H; with_reducible exact H2_) | with_reducible exact H | (rw [hy259]; exact H) | exact H
           have Ny259 := Aside0.mk hy259
           clear hy259
           obtain ⟨ji22, hji22⟩ : ∃ j_ : Int, (wrap64 ((ji18) + 1)) = j_ := ⟨_, rfl⟩
           replace H : (if 0 ≤ (ji22) then (if (ji22) ≤ (t247.length : Int) then ((some (t247.drop ((ji22) : Int).toNat : List (S30))).bind fun y262 => (if y259.length + y262.length < 5864062014805 then ((some (([] : List (S30)) : List (S30))).bind fun y269 => (if y269.length + t247.length < 5864062014805 then ((some (y269 ++ t247 : List (S30))).bind fun y272 => (if (ji18) < (y272.length : Int) then ((impl_GuestsValid.f kj8 (y259 ++ y262)).bind fun t276 => (if t276 = true then ((impl_GuestsValid.f kj8 (y272.set ((ji18) : Int).toNat (⟨(rd_T30 y272 (ji18)).f0, 0, (rd_T30 y272 (ji18)).f2⟩ : S30))).bind fun t277 => (some (!t277))) else (some false))) else (none))) else (none))) else (none))) else (none)) else (none)) = some r := by first | (rw [hji22] at H; exact H) | (simp only [hji22] at H ⊢; exact H)
           have hji22w : (IntKind.i64.wrap ((ji18) + 1)) = ji22 := (i64_w _).trans hji22
           by_cases c23 : 0 ≤ (ji22)
           ·rw [if_pos c23] at H
            have c23b0 := eq_true c23
            have c23b1 : decide (0 ≤ (ji22)) = true := decide_eq_true c23
            clear c23
            by_cases c24 : (ji22) ≤ (t247.length : Int)
            ·rw [if_pos c24] at H
             have c24b0 := eq_true c24
             have c24b1 : decide ((ji22) ≤ (t247.length : Int)) = true := decide_eq_true c24
             clear c24
             obtain ⟨y262, hy262⟩ : ∃ y_ : List (S30), y_ = (t247.drop ((ji22) : Int).toNat) := ⟨_, rfl⟩
             replace H : (if y259.length + y262.length < 5864062014805 then ((some (([] : List (S30)) : List (S30))).bind fun y269 => (if y269.length + t247.length < 5864062014805 then ((some (y269 ++ t247 : List (S30))).bind fun y272 => (if (ji18) < (y272.length : Int) then ((impl_GuestsValid.f kj8 (y259 ++ y262)).bind fun t276 => (if t276 = true then ((impl_GuestsValid.f kj8 (y272.set ((ji18) : Int).toNat (⟨(rd_T30 y272 (ji18)).f0, 0, (rd_T30 y272 (ji18)).f2⟩ : S30))).bind fun t277 => (some (!t277))) else (some false))) else (none))) else (none))) else (none)) = some r := by first | (rw [hy262]; with_reducible exact H) | (have H2_ := (Option.bind_some _ _).symm.trans H; rw [hy262]; with_reducible exact H2_) | (have H2_ := (Option.bind_some _ _).symm.trans H; with_reducible exact H2_) | with_reducible exact H | (rw [hy262]; exact H) | exact H
             have Ny262 := Aside0.mk hy262
             clear hy262
             by_cases c25 : y259.length + y262.length < 5864062014805
             ·rw [if_pos c25] at H
              have LMc25 := Aside0.mk c25
              clear c25
              obtain ⟨y266, hy266⟩ : ∃ y_ : List (S30), y_ = (y259 ++ y262) := ⟨_, rfl⟩
              replace H : ((some (([] : List (S30)) : List (S30))).bind fun y269 => (if y269.length + t247.length < 5864062014805 then ((some (y269 ++ t247 : List (S30))).bind fun y272 => (if (ji18) < (y272.length : Int) then ((impl_GuestsValid.f kj8 y266).bind fun t276 => (if t276 = true then ((impl_GuestsValid.f kj8 (y272.set ((ji18) : Int).toNat (⟨(rd_T30 y272 (ji18)).f0, 0, (rd_T30 y272 (ji18)).f2⟩ : S30))).bind fun t277 => (some (!t277))) else (some false))) else (none))) else (none))) = some r := by first | (rw [hy266]; with_reducible exact H) | (have H2_ := (Option.bind_some _ _).symm.trans H; rw [hy266]; with_reducible exact H2_) | (have H2_ := (Option.bind_some _ _).symm.trans H; with_reducible exact H2_) | with_reducible exact H | (rw [hy266]; exact H) | exact H
              have Ny266 := Aside0.mk hy266
              clear hy266
              obtain ⟨y269, hy269⟩ : ∃ y_ : List (S30), y_ = (([] : List (S30))) := ⟨_, rfl⟩
              replace H : (if y269.length + t247.length < 5864062014805 then ((some (y269 ++ t247 : List (S30))).bind fun y272 => (if (ji18) < (y272.length : Int) then ((impl_GuestsValid.f kj8 y266).bind fun t276 => (if t276 = true then ((impl_GuestsValid.f kj8 (y272.set ((ji18) : Int).toNat (⟨(rd_T30 y272 (ji18)).f0, 0, (rd_T30 y272 (ji18)).f2⟩ : S30))).bind fun t277 => (some (!t277))) else (some false))) else (none))) else (none)) = some r := by first | (rw [hy269]; with_reducible exact H) | (have H2_ := (Option.bind_some _ _).symm.trans H; rw [hy269]; with_reducible exact H2_) | (have H2_ := (Option.bind_some _ _).symm.trans H; with_reducible exact H2_) | with_reducible exact H | (rw [hy269]; exact H) | exact H
              have Ny269 := Aside0.mk hy269
              clear hy269
              by_cases c26 : y269.length + t247.length < 5864062014805
              ·rw [if_pos c26] at H
               have LMc26 := Aside0.mk c26
               clear c26
               obtain ⟨y272, hy272⟩ : ∃ y_ : List (S30), y_ = (y269 ++ t247) := ⟨_, rfl⟩
               replace H : (if (ji18) < (y272.length : Int) then ((impl_GuestsValid.f kj8 y266).bind fun t276 => (if t276 = true then ((impl_GuestsValid.f kj8 (y272.set ((ji18) : Int).toNat (⟨(rd_T30 y272 (ji18)).f0, 0, (rd_T30 y272 (ji18)).f2⟩ : S30))).bind fun t277 => (some (!t277))) else (some false))) else (none)) = some r := by first | (rw [hy272]; with_reducible exact H) | (have H2_ := (Option.bind_some _ _).symm.trans H; rw [hy272]; with_reducible exact H2_) | (have H2_ := (Option.bind_some _ _).symm.trans H; with_reducible exact H2_) | with_reducible exact H | (rw [hy272]; exact H) | exact H
               have Ny272 := Aside0.mk hy272
               clear hy272
               by_cases c27 : (ji18) < (y272.length : Int)
               ·rw [if_pos c27] at H
                have c27b0 : decide ((ji18) < (y272.length : Int)) = true := decide_eq_true c27
                clear c27
                obtain ⟨y275, hy275⟩ : ∃ y_ : List (S30), y_ = (y272.set ((ji18) : Int).toNat (⟨(rd_T30 y272 (ji18)).f0, 0, (rd_T30 y272 (ji18)).f2⟩ : S30)) := ⟨_, rfl⟩
                replace H : ((impl_GuestsValid.f kj8 y266).bind fun t276 => (if t276 = true then ((impl_GuestsValid.f kj8 y275).bind fun t277 => (some (!t277))) else (some false))) = some r := by first | (rw [hy275]; with_reducible exact H) | (have H2_ := (Option.bind_some _ _).symm.trans H; rw [hy275]; with_reducible exact H2_) | (have H2_ := (Option.bind_some _ _).symm.trans H; with_reducible exact H2_) | with_reducible exact H | (rw [hy275]; exact H) | exact H
                have Ny275 := Aside0.mk hy275
                clear hy275
                replace H := Option.bind_eq_some_iff.mp H
                obtain ⟨t276, A290, H⟩ := H
                replace H : (if t276 = true then ((impl_GuestsValid.f kj8 y275).bind fun t277 => (some (!t277))) else (some false)) = some r := H
                have A29 := Aside0.mk A290
                clear A290
                by_cases c30 : t276 = true
                ·subst c30
                 have H1 : ((impl_GuestsValid.f kj8 y275).bind fun t277 => (some (!t277))) = some r := by rw [if_pos rfl] at H; exact H
                 clear H
                 have H := H1
                 clear H1
                 replace H := Option.bind_eq_some_iff.mp H
                 obtain ⟨t277, A310, H⟩ := H
                 replace H : (some (!t277)) = some r := H
                 have A31 := Aside0.mk A310
                 clear A310
                 obtain rfl := Option.some.inj H
                 try go_wp2
                 have n0_ := Aside0.mk (Kd.R_drew HO_5.out)
                 have n1_ := Aside0.mk (below_drew1 HB.out)
                 clear HO_5
                 clear HB
                 have HO_5 := n0_
                 have HB := n1_
                 clear n0_ n1_
                 have q33 : ((ji18) : Int) ≤ ((t247.length : Int) : Int) := of_decide_eq_true (by first | (with_reducible assumption) | assumption)
                 obtain ⟨i033, hi033, _, hsz33, _⟩ := info_parts info30
                 have hroom33 : t247.length ≤ co11 := (Kd.R_reads' HO_5.out).2.1
                 have hC33 : Kd.C k30 _ Ao11 t247.length t247 := (Kd.R_reads' HO_5.out).2.2
                 have hcut33 := cut_to (P := Try.prog) 36 30 .i64 Try.underlying36 hi033 Ao11 t247.length co11 (ji18) (of_decide_eq_true (by first | (with_reducible assumption) | assumption)) q33 hroom33
                 have hr33 := Kd.C_take (m := ((ji18) : Int).toNat) hC33 (by omega)
                 have hy33 : y255.length = ((ji18) : Int).toNat := (by rw [Ny255.out, List.length_take]; omega)
                 rw [← Ny255.out] at hr33
                 rw [← hy33] at hcut33
                 have HR258 := Aside0.mk hr33
                 have HC258 := Aside0.mk (show y255.length ≤ co11 from by omega)
                 clear hr33 hC33 hroom33 hi033 hsz33
                 have KY33 := Aside0.mk hy33
                 clear hy33
                 have KL33 := Aside0.mk (show ((ji18) : Int).toNat ≤ t247.length from by omega)
                 replace q33 := eq_true q33
                 have q34 : ((ji22) : Int) ≤ ((t247.length : Int) : Int) := of_decide_eq_true (by first | (with_reducible assumption) | assumption)
                 obtain ⟨i034, hi034, _, hsz34, _⟩ := info_parts info30
                 have hroom34 : t247.length ≤ co11 := (Kd.R_reads' HO_5.out).2.1
                 have hC34 : Kd.C k30 _ Ao11 t247.length t247 := (Kd.R_reads' HO_5.out).2.2
                 have q034 : (0 : Int) ≤ ((ji22) : Int) := of_decide_eq_true (by first | (with_reducible assumption) | assumption)
                 have hcut34 := cut_from (P := Try.prog) 36 30 .i64 Try.underlying36 hi034 3 hsz34 Ao11 t247.length co11 (ji22) q034 q34
                 have hr34 := Kd.C_drop (m := ((ji22) : Int).toNat) (c := co11) hC34 (by omega) hroom34
                 obtain ⟨A34, hA34⟩ : ∃ A1, A1 = (if co11 = ((ji22) : Int).toNat then Ao11 else (Ao11 : Option Addr).map (·.add (((ji22) : Int).toNat * 3))) := ⟨_, rfl⟩
                 obtain ⟨c34, hc34⟩ : ∃ c1, c1 = co11 - ((ji22) : Int).toNat := ⟨_, rfl⟩
                 have hy34 : y262.length = t247.length - ((ji22) : Int).toNat := (by rw [Ny262.out, List.length_drop] <;> omega)
                 rw [show (t247).drop ((ji22) : Int).toNat = y262 from Ny262.out.symm] at hr34
                 replace hr34 : Kd.C k30 _ A34 y262.length y262 := (by rw [hA34]; exact hr34)
                 rw [← hy34, ← hA34, ← hc34] at hcut34
                 have HR265 := Aside0.mk hr34
                 have HC265 := Aside0.mk (show y262.length ≤ c34 from by rw [hy34, hc34]; exact Nat.sub_le_sub_right hroom34 _)
                 clear hr34 hC34 hroom34 hi034 hsz34 hc34
                 have KY34 := Aside0.mk hy34
                 have KA34 := Aside0.mk hA34
                 clear hy34 hA34
                 have KL34 := Aside0.mk (show ((ji22) : Int).toNat ≤ t247.length from by omega)
                 replace q34 := eq_true q34
                 refine start_ (n := 11) (S := fun w' => True) (ds := []) #[false, false, false, false, false, false, false, false, false, false, false] (by kernel_rfl) rfl rfl trivial (fun hHeld => ?_); refine with_tabW laws_FnGuestsPart.tab9 laws_FnGuestsPart.bits9 (fun HT_ HW_ => ?_)
                 generalize wc.drew = w32 at HO_5 HB HR258 HR265 hHeld ⊢
                 refine pure_ (i := 1) (N := some 46) (v := ?_) (a' := ?_) #[false, true, false, false, false, false, false, false, false, false, false] rfl rfl (any_of HT_.out (by kernel_rfl)) (fun _ _ _ h => h) (Or.inl ⟨by rfl, ?_⟩) ?_ ?_
                 rotate_left
                 ·intro w'
                  go_simp
                  with_reducible rfl
                 rotate_left
                 ·simp only [Act.put, List.setIfInBounds_toArray, List.set_cons_zero, List.set_cons_succ, i64_w, i32_w]
                  rfl
                 refine pure_ (i := 2) (N := some 47) (v := ?_) (a' := ?_) #[false, true, true, false, false, false, false, false, false, false, false] rfl rfl (any_of HT_.out (by kernel_rfl)) (fun _ _ _ h => h) (Or.inl ⟨by rfl, ?_⟩) ?_ ?_
                 rotate_left
                 ·intro w'
                  go_simp
                  with_reducible rfl
                 rotate_left
                 ·simp only [Act.put, List.setIfInBounds_toArray, List.set_cons_zero, List.set_cons_succ, i64_w, i32_w]
                  rfl
                 refine pure_ (i := 3) (N := some 48) (v := ?_) (a' := ?_) #[false, true, true, true, false, false, false, false, false, false, false] rfl rfl (any_of HT_.out (by kernel_rfl)) (fun _ _ _ h => h) (Or.inl ⟨by rfl, ?_⟩) ?_ ?_
                 rotate_left
                 ·intro w'
                  go_simp
                  with_reducible rfl
                 rotate_left
                 ·simp only [Act.put, List.setIfInBounds_toArray, List.set_cons_zero, List.set_cons_succ, i64_w, i32_w]
                  rfl
                 refine pure_ (i := 5) (N := some 50) (v := ?_) (a' := ?_) #[false, true, true, true, false, true, false, false, false, false, false] rfl rfl (any_of HT_.out (by kernel_rfl)) (fun _ _ _ h => h) (Or.inl ⟨by rfl, ?_⟩) ?_ ?_
                 rotate_left
                 ·intro w'
                  go_simp
                  with_reducible rfl
                 rotate_left
                 ·simp only [Act.put, List.setIfInBounds_toArray, List.set_cons_zero, List.set_cons_succ, i64_w, i32_w]
                  rfl
                 refine pure_ (i := 6) (N := some 51) (v := ?_) (a' := ?_) #[false, true, true, true, false, true, true, false, false, false, false] rfl rfl (any_of HT_.out (by kernel_rfl)) (fun _ _ _ h => h) (Or.inl ⟨by rfl, ?_⟩) ?_ ?_
                 rotate_left
                 ·intro w'
                  go_simp
                  with_reducible rfl
                 rotate_left
                 ·simp only [Act.put, List.setIfInBounds_toArray, List.set_cons_zero, List.set_cons_succ, i64_w, i32_w]
                  rfl
                 refine pure_ (i := 7) (N := some 52) (v := ?_) (a' := ?_) #[false, true, true, true, false, true, true, true, false, false, false] rfl rfl (any_of HT_.out (by kernel_rfl)) (fun _ _ _ h => h) (Or.inl ⟨by rfl, ?_⟩) ?_ ?_
                 rotate_left
                 ·intro w'
                  go_simp
                  with_reducible rfl
                 rotate_left
                 ·simp only [Act.put, List.setIfInBounds_toArray, List.set_cons_zero, List.set_cons_succ, i64_w, i32_w]
                  rfl
                 refine pure_ (i := 8) (N := some 53) (v := ?_) (a' := ?_) #[false, true, true, true, false, true, true, true, true, false, false] rfl rfl (any_of HT_.out (by kernel_rfl)) (fun _ _ _ h => h) (Or.inl ⟨by rfl, ?_⟩) ?_ ?_
                 rotate_left
                 ·intro w'
                  go_simp
                  with_reducible rfl
                 rotate_left
                 ·simp only [Act.put, List.setIfInBounds_toArray, List.set_cons_zero, List.set_cons_succ, i64_w, i32_w]
                  rfl
                 refine one_ (i := 0) (N := some 45) #[true, true, true, true, false, true, true, true, true, false, false] rfl rfl (one_of HT_.out (by kernel_rfl)) (by decide) (fun K hK => ?_)
                 refine Kd.R_lit_step k30 _ 30 ?hg (N := 45) ?hd (xs := ([] : List (S30))) (inner := []) (ok := fun _ => True) (okp := fun _ => True) ?hr ?hp (fun _ hk => hk) trivial (Below.refl _ _) (Nat.le_refl _) (by simp) ?_; (case hd => rfl); (case hg => rfl); (case hr => first | (go_simp; done) | (go_simp; rfl)); (case hp => exact (Reps.none _ _))
                 intro v253 w35 ho36 hb hg_ hnew_
                 clear hg_ hnew_
                 (first | rw [← Ny252.out] at ho36 | (simp only [Int.reduceToNat] at ho36; rw [← Ny252.out] at ho36))
                 have n0_ := Aside0.mk (Kd.R_elder' (by (with_reducible repeat (first | apply Kd.R_alloc | apply Kd.R_drewN | apply Kd.R_drew)); exact HO_5.out) (Kd.R_base ho36) hb)
                 have n1_ := Aside0.mk (Kd.R_lower (Kd.R_new' ho36 (Kd.R_lt (by (with_reducible repeat (first | apply Kd.R_alloc | apply Kd.R_drewN | apply Kd.R_drew)); exact HO_5.out))) (below_size (by repeat (first | (with_reducible first | exact HB.out | apply below_alloc | apply pw_below_drewN | apply below_drew1) | exact HB.out))))
                 have n2_ := Aside0.mk (Kd.C_below (by repeat (first | (with_reducible exact HR258.out) | (with_reducible refine Kd.C_alloc ?_ _) | (with_reducible refine Kd.C_drewN ?_ _) | (with_reducible refine Kd.C_drew ?_) | exact HR258.out)) hb)
                 have n3_ := Aside0.mk (Kd.C_below (by repeat (first | (with_reducible exact HR265.out) | (with_reducible refine Kd.C_alloc ?_ _) | (with_reducible refine Kd.C_drewN ?_ _) | (with_reducible refine Kd.C_drew ?_) | exact HR265.out)) hb)
                 have n4_ := Aside0.mk (below_step (by repeat (first | (with_reducible first | exact HB.out | apply below_alloc | apply pw_below_drewN | apply below_drew1) | exact HB.out)) hb)
                 clear HO_5
                 clear HR258
                 clear HR265
                 clear HB
                 have HO_5 := n0_
                 have HO254 := n1_
                 have HR258 := n2_
                 have HR265 := n3_
                 have HB := n4_
                 clear n0_ n1_ n2_ n3_ n4_
                 clear hb ho36
                 refine hK.out _ _ trivial (fun hHeld => ?_)
                 clear hK K
                 refine norm_ (a' := ?_) ?_ ?_
                 rotate_left
                 ·show Act.put _ (some 45) _ = _
                  simp only [Act.put, List.setIfInBounds_toArray, List.set_cons_zero, List.set_cons_succ, i64_w, i32_w]
                  rfl
                 refine one_ (i := 4) (N := some 49) #[true, true, true, true, true, true, true, true, true, false, false] rfl rfl (one_of HT_.out (by kernel_rfl)) (by decide) (fun K hK => ?_)
                 refine Kd.R_append_rows_step k30 (w0 := w) w.heap.size (by rfl) (.tmp 45) (.tmp 48) 36 30 (.agg #[(.int .i64 0), (.int .i64 0), (.int .i64 0)]) 24 rfl Try.underlying36 info30 rfl (by decide) (by omega) v253 y252 y255 _ _ _ (fun k_ => some k_ ≠ (.slice Ao11 t247.length co11 : Value).ownBlock) (fun _ => False) rfl rfl ?aO ?aR (fun _ _ h => h) (fun _ h => h.elim) ?aF ?aB ?aS ?aL ?_
                 (case aR => repeat (first | exact (by repeat (first | (with_reducible exact HR258.out) | (with_reducible refine Kd.C_alloc ?_ _) | (with_reducible refine Kd.C_drewN ?_ _) | (with_reducible refine Kd.C_drew ?_) | exact HR258.out)) | (with_reducible refine Kd.C_alloc ?_ _) | (with_reducible refine Kd.C_drewN ?_ _) | (with_reducible refine Kd.C_drew ?_)))
                 (case aB => exact (by repeat (first | (with_reducible first | exact HB.out | apply below_alloc | apply pw_below_drewN | apply below_drew1) | exact HB.out)))
                 (case aF => exact (fun k_ hk => Kd.fresh' (Kd.R_lt (by (with_reducible repeat (first | apply Kd.R_alloc | apply Kd.R_drewN | apply Kd.R_drew)); exact HO_5.out)) k_ hk))
                 (case aO => exact (by (with_reducible repeat (first | apply Kd.R_alloc | apply Kd.R_drewN | apply Kd.R_drew)); exact Kd.R_mono HO254.out (fun _ hk => hk.2)))
                 (case aS => exact (below_size (by repeat (first | (with_reducible first | exact HB.out | apply below_alloc | apply pw_below_drewN | apply below_drew1) | exact HB.out))))
                 (case aL => have := LMc21.out; omega)
                 intro v260 w37 ho hb hg hat
                 rw [← Ny259.out] at ho
                 have n0_ := Aside0.mk (Kd.R_after (ok := (fun _ => True)) (by (with_reducible repeat (first | apply Kd.R_alloc | apply Kd.R_drewN | apply Kd.R_drew)); exact HO_5.out) hg hat)
                 have n1_ := Aside0.mk (hb)
                 have n2_ := Aside0.mk ((show Kd.C k30 w37 Ao11 y255.length y255 from by rw [Ny255.out]; exact Kd.C_take (m := ((ji18) : Int).toNat) ((Kd.R_reads' (Kd.R_after (ok := (fun _ => True)) (by (with_reducible repeat (first | apply Kd.R_alloc | apply Kd.R_drewN | apply Kd.R_drew)); exact HO_5.out) hg hat)).2.2) KL33.out))
                 have n3_ := Aside0.mk ((show Kd.C k30 w37 A34 y262.length y262 from by rw [Ny262.out, KA34.out]; exact Kd.C_drop (m := ((ji22) : Int).toNat) (c := co11) ((Kd.R_reads' (Kd.R_after (ok := (fun _ => True)) (by (with_reducible repeat (first | apply Kd.R_alloc | apply Kd.R_drewN | apply Kd.R_drew)); exact HO_5.out) hg hat)).2.2) KL34.out ((Kd.R_reads' (Kd.R_after (ok := (fun _ => True)) (by (with_reducible repeat (first | apply Kd.R_alloc | apply Kd.R_drewN | apply Kd.R_drew)); exact HO_5.out) hg hat)).2.1)))
                 have n4_ := Aside0.mk (ho)
                 clear HO_5
                 clear HB
                 clear HR258
                 clear HR265
                 clear HO254
                 have HO_5 := n0_
                 have HB := n1_
                 have HR258 := n2_
                 have HR265 := n3_
                 have HO261 := n4_
                 clear n0_ n1_ n2_ n3_ n4_
                 clear ho hb hg hat
                 refine hK.out _ _ trivial (fun hHeld => ?_)
                 clear hK K
                 refine norm_ (a' := ?_) ?_ ?_
                 rotate_left
                 ·show Act.put _ (some 49) _ = _
                  simp only [Act.put, List.setIfInBounds_toArray, List.set_cons_zero, List.set_cons_succ, i64_w, i32_w]
                  rfl
                 refine one_ (i := 9) (N := some 54) #[true, true, true, true, true, true, true, true, true, true, false] rfl rfl (one_of HT_.out (by kernel_rfl)) (by decide) (fun K hK => ?_)
                 refine Kd.R_append_rows_step k30 (w0 := w) w.heap.size (by rfl) (.tmp 49) (.tmp 53) 36 30 (.agg #[(.int .i64 0), (.int .i64 0), (.int .i64 0)]) 24 rfl Try.underlying36 info30 rfl (by decide) (by omega) v260 y259 y262 _ _ _ (fun k_ => some k_ ≠ (.slice Ao11 t247.length co11 : Value).ownBlock) (fun _ => False) rfl rfl ?aO ?aR (fun _ _ h => h) (fun _ h => h.elim) ?aF ?aB ?aS ?aL ?_
                 (case aR => repeat (first | exact (by repeat (first | (with_reducible exact HR265.out) | (with_reducible refine Kd.C_alloc ?_ _) | (with_reducible refine Kd.C_drewN ?_ _) | (with_reducible refine Kd.C_drew ?_) | exact HR265.out)) | (with_reducible refine Kd.C_alloc ?_ _) | (with_reducible refine Kd.C_drewN ?_ _) | (with_reducible refine Kd.C_drew ?_)))
                 (case aB => exact (by repeat (first | (with_reducible first | exact HB.out | apply below_alloc | apply pw_below_drewN | apply below_drew1) | exact HB.out)))
                 (case aF => exact (fun k_ hk => Kd.fresh' (Kd.R_lt (by (with_reducible repeat (first | apply Kd.R_alloc | apply Kd.R_drewN | apply Kd.R_drew)); exact HO_5.out)) k_ hk))
                 (case aO => exact (by (with_reducible repeat (first | apply Kd.R_alloc | apply Kd.R_drewN | apply Kd.R_drew)); exact HO261.out))
                 (case aS => exact (below_size (by repeat (first | (with_reducible first | exact HB.out | apply below_alloc | apply pw_below_drewN | apply below_drew1) | exact HB.out))))
                 (case aL => have := LMc25.out; omega)
                 intro v267 w38 ho hb hg hat
                 rw [← Ny266.out] at ho
                 have n0_ := Aside0.mk (Kd.R_after (ok := (fun _ => True)) (by (with_reducible repeat (first | apply Kd.R_alloc | apply Kd.R_drewN | apply Kd.R_drew)); exact HO_5.out) hg hat)
                 have n1_ := Aside0.mk (hb)
                 have n2_ := Aside0.mk ((show Kd.C k30 w38 Ao11 y255.length y255 from by rw [Ny255.out]; exact Kd.C_take (m := ((ji18) : Int).toNat) ((Kd.R_reads' (Kd.R_after (ok := (fun _ => True)) (by (with_reducible repeat (first | apply Kd.R_alloc | apply Kd.R_drewN | apply Kd.R_drew)); exact HO_5.out) hg hat)).2.2) KL33.out))
                 have n3_ := Aside0.mk ((show Kd.C k30 w38 A34 y262.length y262 from by rw [Ny262.out, KA34.out]; exact Kd.C_drop (m := ((ji22) : Int).toNat) (c := co11) ((Kd.R_reads' (Kd.R_after (ok := (fun _ => True)) (by (with_reducible repeat (first | apply Kd.R_alloc | apply Kd.R_drewN | apply Kd.R_drew)); exact HO_5.out) hg hat)).2.2) KL34.out ((Kd.R_reads' (Kd.R_after (ok := (fun _ => True)) (by (with_reducible repeat (first | apply Kd.R_alloc | apply Kd.R_drewN | apply Kd.R_drew)); exact HO_5.out) hg hat)).2.1)))
                 have n4_ := Aside0.mk (ho)
                 clear HO_5
                 clear HB
                 clear HR258
                 clear HR265
                 clear HO261
                 have HO_5 := n0_
                 have HB := n1_
                 have HR258 := n2_
                 have HR265 := n3_
                 have HO268 := n4_
                 clear n0_ n1_ n2_ n3_ n4_
                 clear ho hb hg hat
                 refine hK.out _ _ trivial (fun hHeld => ?_)
                 clear hK K
                 refine norm_ (a' := ?_) ?_ ?_
                 rotate_left
                 ·show Act.put _ (some 54) _ = _
                  simp only [Act.put, List.setIfInBounds_toArray, List.set_cons_zero, List.set_cons_succ, i64_w, i32_w]
                  rfl
                 refine pure_ (i := 10) (N := some 9) (v := ?_) (a' := ?_) #[true, true, true, true, true, true, true, true, true, true, true] rfl rfl (any_of HT_.out (by kernel_rfl)) (fun _ _ _ h => h) (Or.inl ⟨by rfl, ?_⟩) ?_ ?_
                 rotate_left
                 ·intro w'
                  go_simp
                  with_reducible rfl
                 rotate_left
                 ·simp only [Act.put, List.setIfInBounds_toArray, List.set_cons_zero, List.set_cons_succ, i64_w, i32_w]
                  rfl
                 refine done_ (done_of HT_.out (by kernel_rfl)) ?_
                 try go_wp2_with (first | ((with_reducible refine gate_dst (N := 55) rfl ?_); (try (refine gate_guard (by rfl) ?_; dsimp only)); refine Kd.R_lit k30 _ 30 ?hg (N := 55) ?hd (xs := ([] : List (S30))) (inner := []) (ok := fun _ => True) (okp := fun _ => True) ?hr ?hp (fun _ hk => hk) trivial (Below.refl _ _) (Nat.le_refl _) (by simp) ?_; (case hd => rfl); (case hg => rfl); (case hr => first | (go_simp; done) | (go_simp; rfl)); (case hp => exact (Reps.none _ _)); intro v270 w39 ho40 hb hg_ hnew_; clear hg_ hnew_; (first | rw [← Ny269.out] at ho40 | (simp only [Int.reduceToNat] at ho40; rw [← Ny269.out] at ho40)); have n0_ := Aside0.mk (Kd.R_elder' (by (with_reducible repeat (first | apply Kd.R_alloc | apply Kd.R_drewN | apply Kd.R_drew)); exact HO_5.out) (Kd.R_base ho40) hb); have n1_ := Aside0.mk (Kd.R_elder' (by (with_reducible repeat (first | apply Kd.R_alloc | apply Kd.R_drewN | apply Kd.R_drew)); exact HO268.out) (Kd.R_base ho40) hb); have n2_ := Aside0.mk (Kd.R_lower (Kd.R_new' (Kd.R_new' ho40 (Kd.R_lt (by (with_reducible repeat (first | apply Kd.R_alloc | apply Kd.R_drewN | apply Kd.R_drew)); exact HO_5.out))) (Kd.R_lt (by (with_reducible repeat (first | apply Kd.R_alloc | apply Kd.R_drewN | apply Kd.R_drew)); exact HO268.out))) (below_size (by repeat (first | (with_reducible first | exact HB.out | apply below_alloc | apply pw_below_drewN | apply below_drew1) | exact HB.out)))); have n3_ := Aside0.mk (Kd.C_below (by repeat (first | (with_reducible exact HR258.out) | (with_reducible refine Kd.C_alloc ?_ _) | (with_reducible refine Kd.C_drewN ?_ _) | (with_reducible refine Kd.C_drew ?_) | exact HR258.out)) hb); have n4_ := Aside0.mk (Kd.C_below (by repeat (first | (with_reducible exact HR265.out) | (with_reducible refine Kd.C_alloc ?_ _) | (with_reducible refine Kd.C_drewN ?_ _) | (with_reducible refine Kd.C_drew ?_) | exact HR265.out)) hb); have n5_ := Aside0.mk (below_step (by repeat (first | (with_reducible first | exact HB.out | apply below_alloc | apply pw_below_drewN | apply below_drew1) | exact HB.out)) hb); clear HO_5; clear HO268; clear HR258; clear HR265; clear HB; have HO_5 := n0_; have HO268 := n1_; have HO271 := n2_; have HR258 := n3_; have HR265 := n4_; have HB := n5_; clear n0_ n1_ n2_ n3_ n4_ n5_; clear hb ho40) | ((with_reducible refine gate_builtin (b := .append) (xs := #[.tmp 55, .tmp 56]) rfl ?_); (try (refine gate_guard (by rfl) ?_; dsimp only)); at_builtin; refine Kd.R_append_rows k30 (w0 := w) w.heap.size rfl (.tmp 55) (.tmp 56) 36 30 (.agg #[(.int .i64 0), (.int .i64 0), (.int .i64 0)]) 24 rfl Try.underlying36 info30 rfl (by decide) (by omega) v270 y269 t247 _ _ _ (fun k_ => some k_ ≠ (.slice Ao11 t247.length co11 : Value).ownBlock ∧ some k_ ≠ (v267 : Value).ownBlock) (fun _ => False) rfl rfl ?aO ?aR (fun _ _ h => h) (fun _ h => h.elim) ?aF ?aB ?aS ?aL ?_; (case aR => repeat (first | exact (Kd.R_reads' HO_5.out).2.2 | (with_reducible refine Kd.C_alloc ?_ _) | (with_reducible refine Kd.C_drewN ?_ _) | (with_reducible refine Kd.C_drew ?_))); (case aB => exact (by repeat (first | (with_reducible first | exact HB.out | apply below_alloc | apply pw_below_drewN | apply below_drew1) | exact HB.out))); (case aF => exact (fun k_ hk => ⟨Kd.fresh' (Kd.R_lt (by (with_reducible repeat (first | apply Kd.R_alloc | apply Kd.R_drewN | apply Kd.R_drew)); exact HO_5.out)) k_ hk, Kd.fresh' (Kd.R_lt (by (with_reducible repeat (first | apply Kd.R_alloc | apply Kd.R_drewN | apply Kd.R_drew)); exact HO268.out)) k_ hk⟩)); (case aO => exact (by (with_reducible repeat (first | apply Kd.R_alloc | apply Kd.R_drewN | apply Kd.R_drew)); exact Kd.R_mono HO271.out (fun _ hk => ⟨hk.1.2, hk.2⟩))); (case aS => exact (below_size (by repeat (first | (with_reducible first | exact HB.out | apply below_alloc | apply pw_below_drewN | apply below_drew1) | exact HB.out)))); (case aL => have := LMc26.out; omega); intro v273 w41 ho hb hg hat; rw [← Ny272.out] at ho; have n0_ := Aside0.mk (Kd.R_after (ok := (fun k_ => some k_ ≠ (v267 : Value).ownBlock)) (by (with_reducible repeat (first | apply Kd.R_alloc | apply Kd.R_drewN | apply Kd.R_drew)); exact Kd.R_mono HO_5.out (fun _ hk => ⟨hk.1.2, hk.2⟩)) hg hat); have n1_ := Aside0.mk (Kd.R_after (ok := (fun k_ => some k_ ≠ (.slice Ao11 t247.length co11 : Value).ownBlock)) (by (with_reducible repeat (first | apply Kd.R_alloc | apply Kd.R_drewN | apply Kd.R_drew)); exact HO268.out) hg hat); have n2_ := Aside0.mk (hb); have n3_ := Aside0.mk ((show Kd.C k30 w41 Ao11 y255.length y255 from by rw [Ny255.out]; exact Kd.C_take (m := ((ji18) : Int).toNat) ((Kd.R_reads' (Kd.R_after (ok := (fun k_ => some k_ ≠ (v267 : Value).ownBlock)) (by (with_reducible repeat (first | apply Kd.R_alloc | apply Kd.R_drewN | apply Kd.R_drew)); exact Kd.R_mono HO_5.out (fun _ hk => ⟨hk.1.2, hk.2⟩)) hg hat)).2.2) KL33.out)); have n4_ := Aside0.mk ((show Kd.C k30 w41 A34 y262.length y262 from by rw [Ny262.out, KA34.out]; exact Kd.C_drop (m := ((ji22) : Int).toNat) (c := co11) ((Kd.R_reads' (Kd.R_after (ok := (fun k_ => some k_ ≠ (v267 : Value).ownBlock)) (by (with_reducible repeat (first | apply Kd.R_alloc | apply Kd.R_drewN | apply Kd.R_drew)); exact Kd.R_mono HO_5.out (fun _ hk => ⟨hk.1.2, hk.2⟩)) hg hat)).2.2) KL34.out ((Kd.R_reads' (Kd.R_after (ok := (fun k_ => some k_ ≠ (v267 : Value).ownBlock)) (by (with_reducible repeat (first | apply Kd.R_alloc | apply Kd.R_drewN | apply Kd.R_drew)); exact Kd.R_mono HO_5.out (fun _ hk => ⟨hk.1.2, hk.2⟩)) hg hat)).2.1))); have n5_ := Aside0.mk (ho); clear HO_5; clear HO268; clear HB; clear HR258; clear HR265; clear HO271; have HO_5 := n0_; have HO268 := n1_; have HB := n2_; have HR258 := n3_; have HR265 := n4_; have HO274 := n5_; clear n0_ n1_ n2_ n3_ n4_ n5_; clear ho hb hg hat; have p28 : 0 ≤ ((ji18) : Int) := of_decide_eq_true (by first | (with_reducible assumption) | assumption); have q28 : ((ji18) : Int) < ((y272.length : Int) : Int) := of_decide_eq_true (by first | (with_reducible assumption) | assumption); obtain ⟨go28, co28, eo28, gb28, gl28, cl28, HG28⟩ := Kd.R_form HO274.out (by omega); (first | cases eo28 | (injection eo28 with ea_ en_ ec_; (first | subst ea_ | (injection ea_ with ea_; subst ea_)); subst ec_; clear en_)); have GB28 := Aside0.mk gb28; have GG28 := Aside0.mk HG28; clear gb28 gl28 HG28; obtain ⟨ce28, hcl28, hM28, hcc28, hfr28⟩ := Kd.R_elem HO274.out z30 ((ji18) : Int) p28 q28; obtain rfl := k30_openM hM28; have hx28_0 : w41.cell? ⟨go28, ((ji18) : Int).toNat * 3, none⟩ = some (.int .i64 ((rd_T30 y272 (ji18)).f0)) := hcc28 0 _ rfl; have hx28_1 : w41.cell? ⟨go28, ((ji18) : Int).toNat * 3 + 1, none⟩ = some (.int .i64 ((rd_T30 y272 (ji18)).f1)) := hcc28 1 _ rfl; have hx28_2 : w41.cell? ⟨go28, ((ji18) : Int).toNat * 3 + 2, none⟩ = some (.int .i64 ((rd_T30 y272 (ji18)).f2)) := hcc28 2 _ rfl; have hf28_0 : w41.frozen? ⟨go28, ((ji18) : Int).toNat * 3, none⟩ = false := hfr28 0; have hf28_1 : w41.frozen? ⟨go28, ((ji18) : Int).toNat * 3 + 1, none⟩ = false := hfr28 1; have hf28_2 : w41.frozen? ⟨go28, ((ji18) : Int).toNat * 3 + 2, none⟩ = false := hfr28 2; clear hcl28 hcc28 hfr28 hM28; replace p28 := eq_true p28; replace q28 := eq_true q28; have HX42 := Aside0.mk (show Kd.R k30 30 w41 w.heap.size (fun k_ => some k_ ≠ (.slice Ao11 t247.length co11 : Value).ownBlock ∧ some k_ ≠ (v267 : Value).ownBlock) (.slice (some ⟨go28, 0, none⟩) y272.length co28) y272 from (by (with_reducible repeat (first | apply Kd.R_alloc | apply Kd.R_drewN | apply Kd.R_drew)); exact HO274.out)); obtain ⟨ce42, hcl42, hM42, hcc42, hfr42⟩ := Kd.R_elem HX42.out z30 ((ji18) : Int) (of_decide_eq_true (by first | (with_reducible assumption) | assumption)) (by have h_ : ((ji18) : Int) < ((y272.length : Int) : Int) := of_decide_eq_true (by first | (with_reducible assumption) | assumption); first | exact h_ | (have e_ := (Kd.R_reads' HO274.out).1; omega) | simpa using h_); obtain rfl := k30_openM hM42; have HP42 := Kd.R_seg HX42.out ((ji18) : Int) (of_decide_eq_true (by first | (with_reducible assumption) | assumption)) (by have h_ : ((ji18) : Int) < ((y272.length : Int) : Int) := of_decide_eq_true (by first | (with_reducible assumption) | assumption); first | exact h_ | (have e_ := (Kd.R_reads' HO274.out).1; omega) | simpa using h_) (seg := [.int .i64 0]) (j := 1) hcl42 hcc42 (show 2 ≤ 3 from by decide) (x' := (⟨(rd_T30 y272 (ji18)).f0, 0, (rd_T30 y272 (ji18)).f2⟩ : S30)) (k30_mkM _ _ _ (⟨(rd_T30 y272 (ji18)).f0, 0, (rd_T30 y272 (ji18)).f2⟩ : S30) ) (fun _ hk => hk); have hx42_1 := hcc42 1 _ rfl; (try simp only [show (k30).sz = 3 from rfl, Nat.mul_one, Nat.add_zero] at hx42_1); have hf42_1 := hfr42 1; (try simp only [show (k30).sz = 3 from rfl, Nat.mul_one, Nat.add_zero] at hf42_1); clear hcl42 hcc42 hfr42 hM42) | ((with_reducible refine gate_store (t := 3) (p := 61) rfl ?_); refine store_event (t := 3) (p := 61) (v := ?vo_w43) (w1 := (w41.setCell ⟨go28, ((ji18) : Int).toNat * 3 + 1, none⟩ (.int .i64 0))) ?hg ?ho ?hn ?hr ?_; (case ho => rfl); (case hg => rfl); (case hn => rfl); (case hr => first | (go_simp; done) | (go_simp; rfl)); intro w43 hw; have hg : w41.grownBy w43 (some go28) := (by rw [hw]; exact HP42.2); have hp_ : Kd.R k30 30 w43 w.heap.size (fun k_ => some k_ ≠ (.slice Ao11 t247.length co11 : Value).ownBlock ∧ some k_ ≠ (v267 : Value).ownBlock) (.slice (some ⟨go28, 0, none⟩) y272.length co28) y275 := (by rw [hw, Ny275.out]; exact HP42.1); clear HP42; have n0_ := Aside0.mk (Kd.R_after (v := (.slice (some ⟨go28, 0, none⟩) y272.length co28)) (v1 := (.slice (some ⟨go28, 0, none⟩) y272.length co28)) (ok := (fun k_ => some k_ ≠ (v267 : Value).ownBlock)) (by (with_reducible repeat (first | apply Kd.R_alloc | apply Kd.R_drewN | apply Kd.R_drew)); exact HO_5.out) hg (.inl rfl)); have n1_ := Aside0.mk (Kd.R_after (v := (.slice (some ⟨go28, 0, none⟩) y272.length co28)) (v1 := (.slice (some ⟨go28, 0, none⟩) y272.length co28)) (ok := (fun k_ => some k_ ≠ (.slice Ao11 t247.length co11 : Value).ownBlock)) (by (with_reducible repeat (first | apply Kd.R_alloc | apply Kd.R_drewN | apply Kd.R_drew)); exact HO268.out) hg (.inl rfl)); have n2_ := Aside0.mk (hp_); have n3_ := Aside0.mk ((by rw [hw]; exact below_set (HB.out) GB28.out : Below w.heap.size w w43)); have n4_ := Aside0.mk ((show Kd.C k30 w43 Ao11 y255.length y255 from by rw [Ny255.out]; exact Kd.C_take (m := ((ji18) : Int).toNat) ((Kd.R_reads' (Kd.R_after (v := (.slice (some ⟨go28, 0, none⟩) y272.length co28)) (v1 := (.slice (some ⟨go28, 0, none⟩) y272.length co28)) (ok := (fun k_ => some k_ ≠ (v267 : Value).ownBlock)) (by (with_reducible repeat (first | apply Kd.R_alloc | apply Kd.R_drewN | apply Kd.R_drew)); exact HO_5.out) hg (.inl rfl))).2.2) KL33.out)); have n5_ := Aside0.mk ((show Kd.C k30 w43 A34 y262.length y262 from by rw [Ny262.out, KA34.out]; exact Kd.C_drop (m := ((ji22) : Int).toNat) (c := co11) ((Kd.R_reads' (Kd.R_after (v := (.slice (some ⟨go28, 0, none⟩) y272.length co28)) (v1 := (.slice (some ⟨go28, 0, none⟩) y272.length co28)) (ok := (fun k_ => some k_ ≠ (v267 : Value).ownBlock)) (by (with_reducible repeat (first | apply Kd.R_alloc | apply Kd.R_drewN | apply Kd.R_drew)); exact HO_5.out) hg (.inl rfl))).2.2) KL34.out ((Kd.R_reads' (Kd.R_after (v := (.slice (some ⟨go28, 0, none⟩) y272.length co28)) (v1 := (.slice (some ⟨go28, 0, none⟩) y272.length co28)) (ok := (fun k_ => some k_ ≠ (v267 : Value).ownBlock)) (by (with_reducible repeat (first | apply Kd.R_alloc | apply Kd.R_drewN | apply Kd.R_drew)); exact HO_5.out) hg (.inl rfl))).2.1))); clear HO_5; clear HO268; clear HO274; clear HB; clear HR258; clear HR265; have HO_5 := n0_; have HO268 := n1_; have HO274 := n2_; have HB := n3_; have HR258 := n4_; have HR265 := n5_; clear n0_ n1_ n2_ n3_ n4_ n5_; clear hg hw hp_; obtain ⟨Ao44, co44, eo44⟩ := Kd.R_slice HO268.out; subst eo44) | ((with_reducible refine gate_callee (f := 23) rfl ?_); refine goesL_ (some 63) rfl rfl Try.func23 (by kernel_rfl) rfl #[.slice Ao44 y266.length co44] rfl (by (try simp only [List.map_toArray, List.map_cons, List.map_nil]); first | done | rfl | (simp only [List.length_drop, List.length_take]; rfl)) ?_; (with_reducible refine (impl_GuestsValid.calls kj8 _ _ y266 true _ ?side1 ?side2 A29.out).mono ?_); (case side1 => repeat (first | exact (Kd.R_reads' HO268.out).2.2 | (with_reducible refine Kd.C_alloc ?_ _) | (with_reducible refine Kd.C_drewN ?_ _) | (with_reducible refine Kd.C_drew ?_))); (case side2 => exact (Kd.R_reads' HO268.out).2.1); rintro e w45 ⟨rfl, hb⟩; refine ⟨_, rfl, ?_⟩; have n0_ := Aside0.mk (Kd.R_below (by (with_reducible repeat (first | apply Kd.R_alloc | apply Kd.R_drewN | apply Kd.R_drew)); exact HO_5.out) hb); have n1_ := Aside0.mk (Kd.R_below (by (with_reducible repeat (first | apply Kd.R_alloc | apply Kd.R_drewN | apply Kd.R_drew)); exact HO268.out) hb); have n2_ := Aside0.mk (Kd.R_below (by (with_reducible repeat (first | apply Kd.R_alloc | apply Kd.R_drewN | apply Kd.R_drew)); exact HO274.out) hb); have n3_ := Aside0.mk (Kd.C_below (by repeat (first | (with_reducible exact HR258.out) | (with_reducible refine Kd.C_alloc ?_ _) | (with_reducible refine Kd.C_drewN ?_ _) | (with_reducible refine Kd.C_drew ?_) | exact HR258.out)) hb); have n4_ := Aside0.mk (Kd.C_below (by repeat (first | (with_reducible exact HR265.out) | (with_reducible refine Kd.C_alloc ?_ _) | (with_reducible refine Kd.C_drewN ?_ _) | (with_reducible refine Kd.C_drew ?_) | exact HR265.out)) hb); have n5_ := Aside0.mk (below_step (by repeat (first | (with_reducible first | exact HB.out | apply below_alloc | apply pw_below_drewN | apply below_drew1) | exact HB.out)) hb); clear HO_5; clear HO268; clear HO274; clear HR258; clear HR265; clear HB; have HO_5 := n0_; have HO268 := n1_; have HO274 := n2_; have HR258 := n3_; have HR265 := n4_; have HB := n5_; clear n0_ n1_ n2_ n3_ n4_ n5_; (try clear hb); (try clear hb2); (try clear hk); (try clear hi)) | (go_at_call 23; refine calls_of_args (args' := #[.slice (some ⟨go28, 0, none⟩) y275.length co28]) (by first | (rw [show y275.length = y272.length from (Kd.R_reads' HO274.out).1.symm] <;> rfl) | rfl) ?_; (with_reducible refine (impl_GuestsValid.calls kj8 _ _ y275 t277 _ ?side1 ?side2 A31.out).mono ?_); (case side1 => repeat (first | exact (Kd.R_reads' HO274.out).2.2 | (with_reducible refine Kd.C_alloc ?_ _) | (with_reducible refine Kd.C_drewN ?_ _) | (with_reducible refine Kd.C_drew ?_))); (case side2 => rw [show y275.length = y272.length from (Kd.R_reads' HO274.out).1.symm]; exact (Kd.R_reads' HO274.out).2.1); rintro e w46 ⟨rfl, hb⟩; have n0_ := Aside0.mk (Kd.R_below (by (with_reducible repeat (first | apply Kd.R_alloc | apply Kd.R_drewN | apply Kd.R_drew)); exact HO_5.out) hb); have n1_ := Aside0.mk (Kd.R_below (by (with_reducible repeat (first | apply Kd.R_alloc | apply Kd.R_drewN | apply Kd.R_drew)); exact HO268.out) hb); have n2_ := Aside0.mk (Kd.R_below (by (with_reducible repeat (first | apply Kd.R_alloc | apply Kd.R_drewN | apply Kd.R_drew)); exact HO274.out) hb); have n3_ := Aside0.mk (Kd.C_below (by repeat (first | (with_reducible exact HR258.out) | (with_reducible refine Kd.C_alloc ?_ _) | (with_reducible refine Kd.C_drewN ?_ _) | (with_reducible refine Kd.C_drew ?_) | exact HR258.out)) hb); have n4_ := Aside0.mk (Kd.C_below (by repeat (first | (with_reducible exact HR265.out) | (with_reducible refine Kd.C_alloc ?_ _) | (with_reducible refine Kd.C_drewN ?_ _) | (with_reducible refine Kd.C_drew ?_) | exact HR265.out)) hb); have n5_ := Aside0.mk (below_step (by repeat (first | (with_reducible first | exact HB.out | apply below_alloc | apply pw_below_drewN | apply below_drew1) | exact HB.out)) hb); clear HO_5; clear HO268; clear HO274; clear HR258; clear HR265; clear HB; have HO_5 := n0_; have HO268 := n1_; have HO274 := n2_; have HR258 := n3_; have HR265 := n4_; have HB := n5_; clear n0_ n1_ n2_ n3_ n4_ n5_; (try clear hb); (try clear hb2); (try clear hk); (try clear hi)))
                 go_ret
                 exact ⟨by first | rfl | (simp [errW_none, errW_some] <;> rfl) | (simp only [← hji18, ← hji22]; first | rfl | (simp [errW_none, errW_some] <;> rfl)) | (simp [*, errW_none, errW_some] <;> rfl), by repeat (first | (with_reducible first | exact HB.out | apply below_alloc | apply pw_below_drewN | apply below_drew1) | exact HB.out)⟩
                ·replace c30 := Bool.eq_false_iff.mpr c30
                 subst c30
                 have H1 : (some false) = some r := by rw [if_neg (show ¬ (false = true) by decide)] at H; exact H
                 clear H
                 have H := H1
                 clear H1
                 obtain rfl := Option.some.inj H
                 try go_wp2
                 have n0_ := Aside0.mk (Kd.R_drew HO_5.out)
                 have n1_ := Aside0.mk (below_drew1 HB.out)
                 clear HO_5
                 clear HB
                 have HO_5 := n0_
                 have HB := n1_
                 clear n0_ n1_
                 have q48 : ((ji18) : Int) ≤ ((t247.length : Int) : Int) := of_decide_eq_true (by first | (with_reducible assumption) | assumption)
                 obtain ⟨i048, hi048, _, hsz48, _⟩ := info_parts info30
                 have hroom48 : t247.length ≤ co11 := (Kd.R_reads' HO_5.out).2.1
                 have hC48 : Kd.C k30 _ Ao11 t247.length t247 := (Kd.R_reads' HO_5.out).2.2
                 have hcut48 := cut_to (P := Try.prog) 36 30 .i64 Try.underlying36 hi048 Ao11 t247.length co11 (ji18) (of_decide_eq_true (by first | (with_reducible assumption) | assumption)) q48 hroom48
                 have hr48 := Kd.C_take (m := ((ji18) : Int).toNat) hC48 (by omega)
                 have hy48 : y255.length = ((ji18) : Int).toNat := (by rw [Ny255.out, List.length_take]; omega)
                 rw [← Ny255.out] at hr48
                 rw [← hy48] at hcut48
                 have HR258 := Aside0.mk hr48
                 have HC258 := Aside0.mk (show y255.length ≤ co11 from by omega)
                 clear hr48 hC48 hroom48 hi048 hsz48
                 have KY48 := Aside0.mk hy48
                 clear hy48
                 have KL48 := Aside0.mk (show ((ji18) : Int).toNat ≤ t247.length from by omega)
                 replace q48 := eq_true q48
                 have q49 : ((ji22) : Int) ≤ ((t247.length : Int) : Int) := of_decide_eq_true (by first | (with_reducible assumption) | assumption)
                 obtain ⟨i049, hi049, _, hsz49, _⟩ := info_parts info30
                 have hroom49 : t247.length ≤ co11 := (Kd.R_reads' HO_5.out).2.1
                 have hC49 : Kd.C k30 _ Ao11 t247.length t247 := (Kd.R_reads' HO_5.out).2.2
                 have q049 : (0 : Int) ≤ ((ji22) : Int) := of_decide_eq_true (by first | (with_reducible assumption) | assumption)
                 have hcut49 := cut_from (P := Try.prog) 36 30 .i64 Try.underlying36 hi049 3 hsz49 Ao11 t247.length co11 (ji22) q049 q49
                 have hr49 := Kd.C_drop (m := ((ji22) : Int).toNat) (c := co11) hC49 (by omega) hroom49
                 obtain ⟨A49, hA49⟩ : ∃ A1, A1 = (if co11 = ((ji22) : Int).toNat then Ao11 else (Ao11 : Option Addr).map (·.add (((ji22) : Int).toNat * 3))) := ⟨_, rfl⟩
                 obtain ⟨c49, hc49⟩ : ∃ c1, c1 = co11 - ((ji22) : Int).toNat := ⟨_, rfl⟩
                 have hy49 : y262.length = t247.length - ((ji22) : Int).toNat := (by rw [Ny262.out, List.length_drop] <;> omega)
                 rw [show (t247).drop ((ji22) : Int).toNat = y262 from Ny262.out.symm] at hr49
                 replace hr49 : Kd.C k30 _ A49 y262.length y262 := (by rw [hA49]; exact hr49)
                 rw [← hy49, ← hA49, ← hc49] at hcut49
                 have HR265 := Aside0.mk hr49
                 have HC265 := Aside0.mk (show y262.length ≤ c49 from by rw [hy49, hc49]; exact Nat.sub_le_sub_right hroom49 _)
                 clear hr49 hC49 hroom49 hi049 hsz49 hc49
                 have KY49 := Aside0.mk hy49
                 have KA49 := Aside0.mk hA49
                 clear hy49 hA49
                 have KL49 := Aside0.mk (show ((ji22) : Int).toNat ≤ t247.length from by omega)
                 replace q49 := eq_true q49
                 refine start_ (n := 11) (S := fun w' => True) (ds := []) #[false, false, false, false, false, false, false, false, false, false, false] (by kernel_rfl) rfl rfl trivial (fun hHeld => ?_); refine with_tabW laws_FnGuestsPart.tab9 laws_FnGuestsPart.bits9 (fun HT_ HW_ => ?_)
                 generalize wc.drew = w47 at HO_5 HB HR258 HR265 hHeld ⊢
                 refine pure_ (i := 1) (N := some 46) (v := ?_) (a' := ?_) #[false, true, false, false, false, false, false, false, false, false, false] rfl rfl (any_of HT_.out (by kernel_rfl)) (fun _ _ _ h => h) (Or.inl ⟨by rfl, ?_⟩) ?_ ?_
                 rotate_left
                 ·intro w'
                  go_simp
                  with_reducible rfl
                 rotate_left
                 ·simp only [Act.put, List.setIfInBounds_toArray, List.set_cons_zero, List.set_cons_succ, i64_w, i32_w]
                  rfl
                 refine pure_ (i := 2) (N := some 47) (v := ?_) (a' := ?_) #[false, true, true, false, false, false, false, false, false, false, false] rfl rfl (any_of HT_.out (by kernel_rfl)) (fun _ _ _ h => h) (Or.inl ⟨by rfl, ?_⟩) ?_ ?_
                 rotate_left
                 ·intro w'
                  go_simp
                  with_reducible rfl
                 rotate_left
                 ·simp only [Act.put, List.setIfInBounds_toArray, List.set_cons_zero, List.set_cons_succ, i64_w, i32_w]
                  rfl
                 refine pure_ (i := 3) (N := some 48) (v := ?_) (a' := ?_) #[false, true, true, true, false, false, false, false, false, false, false] rfl rfl (any_of HT_.out (by kernel_rfl)) (fun _ _ _ h => h) (Or.inl ⟨by rfl, ?_⟩) ?_ ?_
                 rotate_left
                 ·intro w'
                  go_simp
                  with_reducible rfl
                 rotate_left
                 ·simp only [Act.put, List.setIfInBounds_toArray, List.set_cons_zero, List.set_cons_succ, i64_w, i32_w]
                  rfl
                 refine pure_ (i := 5) (N := some 50) (v := ?_) (a' := ?_) #[false, true, true, true, false, true, false, false, false, false, false] rfl rfl (any_of HT_.out (by kernel_rfl)) (fun _ _ _ h => h) (Or.inl ⟨by rfl, ?_⟩) ?_ ?_
                 rotate_left
                 ·intro w'
                  go_simp
                  with_reducible rfl
                 rotate_left
                 ·simp only [Act.put, List.setIfInBounds_toArray, List.set_cons_zero, List.set_cons_succ, i64_w, i32_w]
                  rfl
                 refine pure_ (i := 6) (N := some 51) (v := ?_) (a' := ?_) #[false, true, true, true, false, true, true, false, false, false, false] rfl rfl (any_of HT_.out (by kernel_rfl)) (fun _ _ _ h => h) (Or.inl ⟨by rfl, ?_⟩) ?_ ?_
                 rotate_left
                 ·intro w'
                  go_simp
                  with_reducible rfl
                 rotate_left
                 ·simp only [Act.put, List.setIfInBounds_toArray, List.set_cons_zero, List.set_cons_succ, i64_w, i32_w]
                  rfl
                 refine pure_ (i := 7) (N := some 52) (v := ?_) (a' := ?_) #[false, true, true, true, false, true, true, true, false, false, false] rfl rfl (any_of HT_.out (by kernel_rfl)) (fun _ _ _ h => h) (Or.inl ⟨by rfl, ?_⟩) ?_ ?_
                 rotate_left
                 ·intro w'
                  go_simp
                  with_reducible rfl
                 rotate_left
                 ·simp only [Act.put, List.setIfInBounds_toArray, List.set_cons_zero, List.set_cons_succ, i64_w, i32_w]
                  rfl
                 refine pure_ (i := 8) (N := some 53) (v := ?_) (a' := ?_) #[false, true, true, true, false, true, true, true, true, false, false] rfl rfl (any_of HT_.out (by kernel_rfl)) (fun _ _ _ h => h) (Or.inl ⟨by rfl, ?_⟩) ?_ ?_
                 rotate_left
                 ·intro w'
                  go_simp
                  with_reducible rfl
                 rotate_left
                 ·simp only [Act.put, List.setIfInBounds_toArray, List.set_cons_zero, List.set_cons_succ, i64_w, i32_w]
                  rfl
                 refine one_ (i := 0) (N := some 45) #[true, true, true, true, false, true, true, true, true, false, false] rfl rfl (one_of HT_.out (by kernel_rfl)) (by decide) (fun K hK => ?_)
                 refine Kd.R_lit_step k30 _ 30 ?hg (N := 45) ?hd (xs := ([] : List (S30))) (inner := []) (ok := fun _ => True) (okp := fun _ => True) ?hr ?hp (fun _ hk => hk) trivial (Below.refl _ _) (Nat.le_refl _) (by simp) ?_; (case hd => rfl); (case hg => rfl); (case hr => first | (go_simp; done) | (go_simp; rfl)); (case hp => exact (Reps.none _ _))
                 intro v253 w50 ho51 hb hg_ hnew_
                 clear hg_ hnew_
                 (first | rw [← Ny252.out] at ho51 | (simp only [Int.reduceToNat] at ho51; rw [← Ny252.out] at ho51))
                 have n0_ := Aside0.mk (Kd.R_elder' (by (with_reducible repeat (first | apply Kd.R_alloc | apply Kd.R_drewN | apply Kd.R_drew)); exact HO_5.out) (Kd.R_base ho51) hb)
                 have n1_ := Aside0.mk (Kd.R_lower (Kd.R_new' ho51 (Kd.R_lt (by (with_reducible repeat (first | apply Kd.R_alloc | apply Kd.R_drewN | apply Kd.R_drew)); exact HO_5.out))) (below_size (by repeat (first | (with_reducible first | exact HB.out | apply below_alloc | apply pw_below_drewN | apply below_drew1) | exact HB.out))))
                 have n2_ := Aside0.mk (Kd.C_below (by repeat (first | (with_reducible exact HR258.out) | (with_reducible refine Kd.C_alloc ?_ _) | (with_reducible refine Kd.C_drewN ?_ _) | (with_reducible refine Kd.C_drew ?_) | exact HR258.out)) hb)
                 have n3_ := Aside0.mk (Kd.C_below (by repeat (first | (with_reducible exact HR265.out) | (with_reducible refine Kd.C_alloc ?_ _) | (with_reducible refine Kd.C_drewN ?_ _) | (with_reducible refine Kd.C_drew ?_) | exact HR265.out)) hb)
                 have n4_ := Aside0.mk (below_step (by repeat (first | (with_reducible first | exact HB.out | apply below_alloc | apply pw_below_drewN | apply below_drew1) | exact HB.out)) hb)
                 clear HO_5
                 clear HR258
                 clear HR265
                 clear HB
                 have HO_5 := n0_
                 have HO254 := n1_
                 have HR258 := n2_
                 have HR265 := n3_
                 have HB := n4_
                 clear n0_ n1_ n2_ n3_ n4_
                 clear hb ho51
                 refine hK.out _ _ trivial (fun hHeld => ?_)
                 clear hK K
                 refine norm_ (a' := ?_) ?_ ?_
                 rotate_left
                 ·show Act.put _ (some 45) _ = _
                  simp only [Act.put, List.setIfInBounds_toArray, List.set_cons_zero, List.set_cons_succ, i64_w, i32_w]
                  rfl
                 refine one_ (i := 4) (N := some 49) #[true, true, true, true, true, true, true, true, true, false, false] rfl rfl (one_of HT_.out (by kernel_rfl)) (by decide) (fun K hK => ?_)
                 refine Kd.R_append_rows_step k30 (w0 := w) w.heap.size (by rfl) (.tmp 45) (.tmp 48) 36 30 (.agg #[(.int .i64 0), (.int .i64 0), (.int .i64 0)]) 24 rfl Try.underlying36 info30 rfl (by decide) (by omega) v253 y252 y255 _ _ _ (fun k_ => some k_ ≠ (.slice Ao11 t247.length co11 : Value).ownBlock) (fun _ => False) rfl rfl ?aO ?aR (fun _ _ h => h) (fun _ h => h.elim) ?aF ?aB ?aS ?aL ?_
                 (case aR => repeat (first | exact (by repeat (first | (with_reducible exact HR258.out) | (with_reducible refine Kd.C_alloc ?_ _) | (with_reducible refine Kd.C_drewN ?_ _) | (with_reducible refine Kd.C_drew ?_) | exact HR258.out)) | (with_reducible refine Kd.C_alloc ?_ _) | (with_reducible refine Kd.C_drewN ?_ _) | (with_reducible refine Kd.C_drew ?_)))
                 (case aB => exact (by repeat (first | (with_reducible first | exact HB.out | apply below_alloc | apply pw_below_drewN | apply below_drew1) | exact HB.out)))
                 (case aF => exact (fun k_ hk => Kd.fresh' (Kd.R_lt (by (with_reducible repeat (first | apply Kd.R_alloc | apply Kd.R_drewN | apply Kd.R_drew)); exact HO_5.out)) k_ hk))
                 (case aO => exact (by (with_reducible repeat (first | apply Kd.R_alloc | apply Kd.R_drewN | apply Kd.R_drew)); exact Kd.R_mono HO254.out (fun _ hk => hk.2)))
                 (case aS => exact (below_size (by repeat (first | (with_reducible first | exact HB.out | apply below_alloc | apply pw_below_drewN | apply below_drew1) | exact HB.out))))
                 (case aL => have := LMc21.out; omega)
                 intro v260 w52 ho hb hg hat
                 rw [← Ny259.out] at ho
                 have n0_ := Aside0.mk (Kd.R_after (ok := (fun _ => True)) (by (with_reducible repeat (first | apply Kd.R_alloc | apply Kd.R_drewN | apply Kd.R_drew)); exact HO_5.out) hg hat)
                 have n1_ := Aside0.mk (hb)
                 have n2_ := Aside0.mk ((show Kd.C k30 w52 Ao11 y255.length y255 from by rw [Ny255.out]; exact Kd.C_take (m := ((ji18) : Int).toNat) ((Kd.R_reads' (Kd.R_after (ok := (fun _ => True)) (by (with_reducible repeat (first | apply Kd.R_alloc | apply Kd.R_drewN | apply Kd.R_drew)); exact HO_5.out) hg hat)).2.2) KL48.out))
                 have n3_ := Aside0.mk ((show Kd.C k30 w52 A49 y262.length y262 from by rw [Ny262.out, KA49.out]; exact Kd.C_drop (m := ((ji22) : Int).toNat) (c := co11) ((Kd.R_reads' (Kd.R_after (ok := (fun _ => True)) (by (with_reducible repeat (first | apply Kd.R_alloc | apply Kd.R_drewN | apply Kd.R_drew)); exact HO_5.out) hg hat)).2.2) KL49.out ((Kd.R_reads' (Kd.R_after (ok := (fun _ => True)) (by (with_reducible repeat (first | apply Kd.R_alloc | apply Kd.R_drewN | apply Kd.R_drew)); exact HO_5.out) hg hat)).2.1)))
                 have n4_ := Aside0.mk (ho)
                 clear HO_5
                 clear HB
                 clear HR258
                 clear HR265
                 clear HO254
                 have HO_5 := n0_
                 have HB := n1_
                 have HR258 := n2_
                 have HR265 := n3_
                 have HO261 := n4_
                 clear n0_ n1_ n2_ n3_ n4_
                 clear ho hb hg hat
                 refine hK.out _ _ trivial (fun hHeld => ?_)
                 clear hK K
                 refine norm_ (a' := ?_) ?_ ?_
                 rotate_left
                 ·show Act.put _ (some 49) _ = _
                  simp only [Act.put, List.setIfInBounds_toArray, List.set_cons_zero, List.set_cons_succ, i64_w, i32_w]
                  rfl
                 refine one_ (i := 9) (N := some 54) #[true, true, true, true, true, true, true, true, true, true, false] rfl rfl (one_of HT_.out (by kernel_rfl)) (by decide) (fun K hK => ?_)
                 refine Kd.R_append_rows_step k30 (w0 := w) w.heap.size (by rfl) (.tmp 49) (.tmp 53) 36 30 (.agg #[(.int .i64 0), (.int .i64 0), (.int .i64 0)]) 24 rfl Try.underlying36 info30 rfl (by decide) (by omega) v260 y259 y262 _ _ _ (fun k_ => some k_ ≠ (.slice Ao11 t247.length co11 : Value).ownBlock) (fun _ => False) rfl rfl ?aO ?aR (fun _ _ h => h) (fun _ h => h.elim) ?aF ?aB ?aS ?aL ?_
                 (case aR => repeat (first | exact (by repeat (first | (with_reducible exact HR265.out) | (with_reducible refine Kd.C_alloc ?_ _) | (with_reducible refine Kd.C_drewN ?_ _) | (with_reducible refine Kd.C_drew ?_) | exact HR265.out)) | (with_reducible refine Kd.C_alloc ?_ _) | (with_reducible refine Kd.C_drewN ?_ _) | (with_reducible refine Kd.C_drew ?_)))
                 (case aB => exact (by repeat (first | (with_reducible first | exact HB.out | apply below_alloc | apply pw_below_drewN | apply below_drew1) | exact HB.out)))
                 (case aF => exact (fun k_ hk => Kd.fresh' (Kd.R_lt (by (with_reducible repeat (first | apply Kd.R_alloc | apply Kd.R_drewN | apply Kd.R_drew)); exact HO_5.out)) k_ hk))
                 (case aO => exact (by (with_reducible repeat (first | apply Kd.R_alloc | apply Kd.R_drewN | apply Kd.R_drew)); exact HO261.out))
                 (case aS => exact (below_size (by repeat (first | (with_reducible first | exact HB.out | apply below_alloc | apply pw_below_drewN | apply below_drew1) | exact HB.out))))
                 (case aL => have := LMc25.out; omega)
                 intro v267 w53 ho hb hg hat
                 rw [← Ny266.out] at ho
                 have n0_ := Aside0.mk (Kd.R_after (ok := (fun _ => True)) (by (with_reducible repeat (first | apply Kd.R_alloc | apply Kd.R_drewN | apply Kd.R_drew)); exact HO_5.out) hg hat)
                 have n1_ := Aside0.mk (hb)
                 have n2_ := Aside0.mk ((show Kd.C k30 w53 Ao11 y255.length y255 from by rw [Ny255.out]; exact Kd.C_take (m := ((ji18) : Int).toNat) ((Kd.R_reads' (Kd.R_after (ok := (fun _ => True)) (by (with_reducible repeat (first | apply Kd.R_alloc | apply Kd.R_drewN | apply Kd.R_drew)); exact HO_5.out) hg hat)).2.2) KL48.out))
                 have n3_ := Aside0.mk ((show Kd.C k30 w53 A49 y262.length y262 from by rw [Ny262.out, KA49.out]; exact Kd.C_drop (m := ((ji22) : Int).toNat) (c := co11) ((Kd.R_reads' (Kd.R_after (ok := (fun _ => True)) (by (with_reducible repeat (first | apply Kd.R_alloc | apply Kd.R_drewN | apply Kd.R_drew)); exact HO_5.out) hg hat)).2.2) KL49.out ((Kd.R_reads' (Kd.R_after (ok := (fun _ => True)) (by (with_reducible repeat (first | apply Kd.R_alloc | apply Kd.R_drewN | apply Kd.R_drew)); exact HO_5.out) hg hat)).2.1)))
                 have n4_ := Aside0.mk (ho)
                 clear HO_5
                 clear HB
                 clear HR258
                 clear HR265
                 clear HO261
                 have HO_5 := n0_
                 have HB := n1_
                 have HR258 := n2_
                 have HR265 := n3_
                 have HO268 := n4_
                 clear n0_ n1_ n2_ n3_ n4_
                 clear ho hb hg hat
                 refine hK.out _ _ trivial (fun hHeld => ?_)
                 clear hK K
                 refine norm_ (a' := ?_) ?_ ?_
                 rotate_left
                 ·show Act.put _ (some 54) _ = _
                  simp only [Act.put, List.setIfInBounds_toArray, List.set_cons_zero, List.set_cons_succ, i64_w, i32_w]
                  rfl
                 refine pure_ (i := 10) (N := some 9) (v := ?_) (a' := ?_) #[true, true, true, true, true, true, true, true, true, true, true] rfl rfl (any_of HT_.out (by kernel_rfl)) (fun _ _ _ h => h) (Or.inl ⟨by rfl, ?_⟩) ?_ ?_
                 rotate_left
                 ·intro w'
                  go_simp
                  with_reducible rfl
                 rotate_left
                 ·simp only [Act.put, List.setIfInBounds_toArray, List.set_cons_zero, List.set_cons_succ, i64_w, i32_w]
                  rfl
                 refine done_ (done_of HT_.out (by kernel_rfl)) ?_
                 try go_wp2_with (first | ((with_reducible refine gate_dst (N := 55) rfl ?_); (try (refine gate_guard (by rfl) ?_; dsimp only)); refine Kd.R_lit k30 _ 30 ?hg (N := 55) ?hd (xs := ([] : List (S30))) (inner := []) (ok := fun _ => True) (okp := fun _ => True) ?hr ?hp (fun _ hk => hk) trivial (Below.refl _ _) (Nat.le_refl _) (by simp) ?_; (case hd => rfl); (case hg => rfl); (case hr => first | (go_simp; done) | (go_simp; rfl)); (case hp => exact (Reps.none _ _)); intro v270 w54 ho55 hb hg_ hnew_; clear hg_ hnew_; (first | rw [← Ny269.out] at ho55 | (simp only [Int.reduceToNat] at ho55; rw [← Ny269.out] at ho55)); have n0_ := Aside0.mk (Kd.R_elder' (by (with_reducible repeat (first | apply Kd.R_alloc | apply Kd.R_drewN | apply Kd.R_drew)); exact HO_5.out) (Kd.R_base ho55) hb); have n1_ := Aside0.mk (Kd.R_elder' (by (with_reducible repeat (first | apply Kd.R_alloc | apply Kd.R_drewN | apply Kd.R_drew)); exact HO268.out) (Kd.R_base ho55) hb); have n2_ := Aside0.mk (Kd.R_lower (Kd.R_new' (Kd.R_new' ho55 (Kd.R_lt (by (with_reducible repeat (first | apply Kd.R_alloc | apply Kd.R_drewN | apply Kd.R_drew)); exact HO_5.out))) (Kd.R_lt (by (with_reducible repeat (first | apply Kd.R_alloc | apply Kd.R_drewN | apply Kd.R_drew)); exact HO268.out))) (below_size (by repeat (first | (with_reducible first | exact HB.out | apply below_alloc | apply pw_below_drewN | apply below_drew1) | exact HB.out)))); have n3_ := Aside0.mk (Kd.C_below (by repeat (first | (with_reducible exact HR258.out) | (with_reducible refine Kd.C_alloc ?_ _) | (with_reducible refine Kd.C_drewN ?_ _) | (with_reducible refine Kd.C_drew ?_) | exact HR258.out)) hb); have n4_ := Aside0.mk (Kd.C_below (by repeat (first | (with_reducible exact HR265.out) | (with_reducible refine Kd.C_alloc ?_ _) | (with_reducible refine Kd.C_drewN ?_ _) | (with_reducible refine Kd.C_drew ?_) | exact HR265.out)) hb); have n5_ := Aside0.mk (below_step (by repeat (first | (with_reducible first | exact HB.out | apply below_alloc | apply pw_below_drewN | apply below_drew1) | exact HB.out)) hb); clear HO_5; clear HO268; clear HR258; clear HR265; clear HB; have HO_5 := n0_; have HO268 := n1_; have HO271 := n2_; have HR258 := n3_; have HR265 := n4_; have HB := n5_; clear n0_ n1_ n2_ n3_ n4_ n5_; clear hb ho55) | ((with_reducible refine gate_builtin (b := .append) (xs := #[.tmp 55, .tmp 56]) rfl ?_); (try (refine gate_guard (by rfl) ?_; dsimp only)); at_builtin; refine Kd.R_append_rows k30 (w0 := w) w.heap.size rfl (.tmp 55) (.tmp 56) 36 30 (.agg #[(.int .i64 0), (.int .i64 0), (.int .i64 0)]) 24 rfl Try.underlying36 info30 rfl (by decide) (by omega) v270 y269 t247 _ _ _ (fun k_ => some k_ ≠ (.slice Ao11 t247.length co11 : Value).ownBlock ∧ some k_ ≠ (v267 : Value).ownBlock) (fun _ => False) rfl rfl ?aO ?aR (fun _ _ h => h) (fun _ h => h.elim) ?aF ?aB ?aS ?aL ?_; (case aR => repeat (first | exact (Kd.R_reads' HO_5.out).2.2 | (with_reducible refine Kd.C_alloc ?_ _) | (with_reducible refine Kd.C_drewN ?_ _) | (with_reducible refine Kd.C_drew ?_))); (case aB => exact (by repeat (first | (with_reducible first | exact HB.out | apply below_alloc | apply pw_below_drewN | apply below_drew1) | exact HB.out))); (case aF => exact (fun k_ hk => ⟨Kd.fresh' (Kd.R_lt (by (with_reducible repeat (first | apply Kd.R_alloc | apply Kd.R_drewN | apply Kd.R_drew)); exact HO_5.out)) k_ hk, Kd.fresh' (Kd.R_lt (by (with_reducible repeat (first | apply Kd.R_alloc | apply Kd.R_drewN | apply Kd.R_drew)); exact HO268.out)) k_ hk⟩)); (case aO => exact (by (with_reducible repeat (first | apply Kd.R_alloc | apply Kd.R_drewN | apply Kd.R_drew)); exact Kd.R_mono HO271.out (fun _ hk => ⟨hk.1.2, hk.2⟩))); (case aS => exact (below_size (by repeat (first | (with_reducible first | exact HB.out | apply below_alloc | apply pw_below_drewN | apply below_drew1) | exact HB.out)))); (case aL => have := LMc26.out; omega); intro v273 w56 ho hb hg hat; rw [← Ny272.out] at ho; have n0_ := Aside0.mk (Kd.R_after (ok := (fun k_ => some k_ ≠ (v267 : Value).ownBlock)) (by (with_reducible repeat (first | apply Kd.R_alloc | apply Kd.R_drewN | apply Kd.R_drew)); exact Kd.R_mono HO_5.out (fun _ hk => ⟨hk.1.2, hk.2⟩)) hg hat); have n1_ := Aside0.mk (Kd.R_after (ok := (fun k_ => some k_ ≠ (.slice Ao11 t247.length co11 : Value).ownBlock)) (by (with_reducible repeat (first | apply Kd.R_alloc | apply Kd.R_drewN | apply Kd.R_drew)); exact HO268.out) hg hat); have n2_ := Aside0.mk (hb); have n3_ := Aside0.mk ((show Kd.C k30 w56 Ao11 y255.length y255 from by rw [Ny255.out]; exact Kd.C_take (m := ((ji18) : Int).toNat) ((Kd.R_reads' (Kd.R_after (ok := (fun k_ => some k_ ≠ (v267 : Value).ownBlock)) (by (with_reducible repeat (first | apply Kd.R_alloc | apply Kd.R_drewN | apply Kd.R_drew)); exact Kd.R_mono HO_5.out (fun _ hk => ⟨hk.1.2, hk.2⟩)) hg hat)).2.2) KL48.out)); have n4_ := Aside0.mk ((show Kd.C k30 w56 A49 y262.length y262 from by rw [Ny262.out, KA49.out]; exact Kd.C_drop (m := ((ji22) : Int).toNat) (c := co11) ((Kd.R_reads' (Kd.R_after (ok := (fun k_ => some k_ ≠ (v267 : Value).ownBlock)) (by (with_reducible repeat (first | apply Kd.R_alloc | apply Kd.R_drewN | apply Kd.R_drew)); exact Kd.R_mono HO_5.out (fun _ hk => ⟨hk.1.2, hk.2⟩)) hg hat)).2.2) KL49.out ((Kd.R_reads' (Kd.R_after (ok := (fun k_ => some k_ ≠ (v267 : Value).ownBlock)) (by (with_reducible repeat (first | apply Kd.R_alloc | apply Kd.R_drewN | apply Kd.R_drew)); exact Kd.R_mono HO_5.out (fun _ hk => ⟨hk.1.2, hk.2⟩)) hg hat)).2.1))); have n5_ := Aside0.mk (ho); clear HO_5; clear HO268; clear HB; clear HR258; clear HR265; clear HO271; have HO_5 := n0_; have HO268 := n1_; have HB := n2_; have HR258 := n3_; have HR265 := n4_; have HO274 := n5_; clear n0_ n1_ n2_ n3_ n4_ n5_; clear ho hb hg hat; have p28 : 0 ≤ ((ji18) : Int) := of_decide_eq_true (by first | (with_reducible assumption) | assumption); have q28 : ((ji18) : Int) < ((y272.length : Int) : Int) := of_decide_eq_true (by first | (with_reducible assumption) | assumption); obtain ⟨go28, co28, eo28, gb28, gl28, cl28, HG28⟩ := Kd.R_form HO274.out (by omega); (first | cases eo28 | (injection eo28 with ea_ en_ ec_; (first | subst ea_ | (injection ea_ with ea_; subst ea_)); subst ec_; clear en_)); have GB28 := Aside0.mk gb28; have GG28 := Aside0.mk HG28; clear gb28 gl28 HG28; obtain ⟨ce28, hcl28, hM28, hcc28, hfr28⟩ := Kd.R_elem HO274.out z30 ((ji18) : Int) p28 q28; obtain rfl := k30_openM hM28; have hx28_0 : w56.cell? ⟨go28, ((ji18) : Int).toNat * 3, none⟩ = some (.int .i64 ((rd_T30 y272 (ji18)).f0)) := hcc28 0 _ rfl; have hx28_1 : w56.cell? ⟨go28, ((ji18) : Int).toNat * 3 + 1, none⟩ = some (.int .i64 ((rd_T30 y272 (ji18)).f1)) := hcc28 1 _ rfl; have hx28_2 : w56.cell? ⟨go28, ((ji18) : Int).toNat * 3 + 2, none⟩ = some (.int .i64 ((rd_T30 y272 (ji18)).f2)) := hcc28 2 _ rfl; have hf28_0 : w56.frozen? ⟨go28, ((ji18) : Int).toNat * 3, none⟩ = false := hfr28 0; have hf28_1 : w56.frozen? ⟨go28, ((ji18) : Int).toNat * 3 + 1, none⟩ = false := hfr28 1; have hf28_2 : w56.frozen? ⟨go28, ((ji18) : Int).toNat * 3 + 2, none⟩ = false := hfr28 2; clear hcl28 hcc28 hfr28 hM28; replace p28 := eq_true p28; replace q28 := eq_true q28; have HX57 := Aside0.mk (show Kd.R k30 30 w56 w.heap.size (fun k_ => some k_ ≠ (.slice Ao11 t247.length co11 : Value).ownBlock ∧ some k_ ≠ (v267 : Value).ownBlock) (.slice (some ⟨go28, 0, none⟩) y272.length co28) y272 from (by (with_reducible repeat (first | apply Kd.R_alloc | apply Kd.R_drewN | apply Kd.R_drew)); exact HO274.out)); obtain ⟨ce57, hcl57, hM57, hcc57, hfr57⟩ := Kd.R_elem HX57.out z30 ((ji18) : Int) (of_decide_eq_true (by first | (with_reducible assumption) | assumption)) (by have h_ : ((ji18) : Int) < ((y272.length : Int) : Int) := of_decide_eq_true (by first | (with_reducible assumption) | assumption); first | exact h_ | (have e_ := (Kd.R_reads' HO274.out).1; omega) | simpa using h_); obtain rfl := k30_openM hM57; have HP57 := Kd.R_seg HX57.out ((ji18) : Int) (of_decide_eq_true (by first | (with_reducible assumption) | assumption)) (by have h_ : ((ji18) : Int) < ((y272.length : Int) : Int) := of_decide_eq_true (by first | (with_reducible assumption) | assumption); first | exact h_ | (have e_ := (Kd.R_reads' HO274.out).1; omega) | simpa using h_) (seg := [.int .i64 0]) (j := 1) hcl57 hcc57 (show 2 ≤ 3 from by decide) (x' := (⟨(rd_T30 y272 (ji18)).f0, 0, (rd_T30 y272 (ji18)).f2⟩ : S30)) (k30_mkM _ _ _ (⟨(rd_T30 y272 (ji18)).f0, 0, (rd_T30 y272 (ji18)).f2⟩ : S30) ) (fun _ hk => hk); have hx57_1 := hcc57 1 _ rfl; (try simp only [show (k30).sz = 3 from rfl, Nat.mul_one, Nat.add_zero] at hx57_1); have hf57_1 := hfr57 1; (try simp only [show (k30).sz = 3 from rfl, Nat.mul_one, Nat.add_zero] at hf57_1); clear hcl57 hcc57 hfr57 hM57) | ((with_reducible refine gate_store (t := 3) (p := 61) rfl ?_); refine store_event (t := 3) (p := 61) (v := ?vo_w58) (w1 := (w56.setCell ⟨go28, ((ji18) : Int).toNat * 3 + 1, none⟩ (.int .i64 0))) ?hg ?ho ?hn ?hr ?_; (case ho => rfl); (case hg => rfl); (case hn => rfl); (case hr => first | (go_simp; done) | (go_simp; rfl)); intro w58 hw; have hg : w56.grownBy w58 (some go28) := (by rw [hw]; exact HP57.2); have hp_ : Kd.R k30 30 w58 w.heap.size (fun k_ => some k_ ≠ (.slice Ao11 t247.length co11 : Value).ownBlock ∧ some k_ ≠ (v267 : Value).ownBlock) (.slice (some ⟨go28, 0, none⟩) y272.length co28) y275 := (by rw [hw, Ny275.out]; exact HP57.1); clear HP57; have n0_ := Aside0.mk (Kd.R_after (v := (.slice (some ⟨go28, 0, none⟩) y272.length co28)) (v1 := (.slice (some ⟨go28, 0, none⟩) y272.length co28)) (ok := (fun k_ => some k_ ≠ (v267 : Value).ownBlock)) (by (with_reducible repeat (first | apply Kd.R_alloc | apply Kd.R_drewN | apply Kd.R_drew)); exact HO_5.out) hg (.inl rfl)); have n1_ := Aside0.mk (Kd.R_after (v := (.slice (some ⟨go28, 0, none⟩) y272.length co28)) (v1 := (.slice (some ⟨go28, 0, none⟩) y272.length co28)) (ok := (fun k_ => some k_ ≠ (.slice Ao11 t247.length co11 : Value).ownBlock)) (by (with_reducible repeat (first | apply Kd.R_alloc | apply Kd.R_drewN | apply Kd.R_drew)); exact HO268.out) hg (.inl rfl)); have n2_ := Aside0.mk (hp_); have n3_ := Aside0.mk ((by rw [hw]; exact below_set (HB.out) GB28.out : Below w.heap.size w w58)); have n4_ := Aside0.mk ((show Kd.C k30 w58 Ao11 y255.length y255 from by rw [Ny255.out]; exact Kd.C_take (m := ((ji18) : Int).toNat) ((Kd.R_reads' (Kd.R_after (v := (.slice (some ⟨go28, 0, none⟩) y272.length co28)) (v1 := (.slice (some ⟨go28, 0, none⟩) y272.length co28)) (ok := (fun k_ => some k_ ≠ (v267 : Value).ownBlock)) (by (with_reducible repeat (first | apply Kd.R_alloc | apply Kd.R_drewN | apply Kd.R_drew)); exact HO_5.out) hg (.inl rfl))).2.2) KL48.out)); have n5_ := Aside0.mk ((show Kd.C k30 w58 A49 y262.length y262 from by rw [Ny262.out, KA49.out]; exact Kd.C_drop (m := ((ji22) : Int).toNat) (c := co11) ((Kd.R_reads' (Kd.R_after (v := (.slice (some ⟨go28, 0, none⟩) y272.length co28)) (v1 := (.slice (some ⟨go28, 0, none⟩) y272.length co28)) (ok := (fun k_ => some k_ ≠ (v267 : Value).ownBlock)) (by (with_reducible repeat (first | apply Kd.R_alloc | apply Kd.R_drewN | apply Kd.R_drew)); exact HO_5.out) hg (.inl rfl))).2.2) KL49.out ((Kd.R_reads' (Kd.R_after (v := (.slice (some ⟨go28, 0, none⟩) y272.length co28)) (v1 := (.slice (some ⟨go28, 0, none⟩) y272.length co28)) (ok := (fun k_ => some k_ ≠ (v267 : Value).ownBlock)) (by (with_reducible repeat (first | apply Kd.R_alloc | apply Kd.R_drewN | apply Kd.R_drew)); exact HO_5.out) hg (.inl rfl))).2.1))); clear HO_5; clear HO268; clear HO274; clear HB; clear HR258; clear HR265; have HO_5 := n0_; have HO268 := n1_; have HO274 := n2_; have HB := n3_; have HR258 := n4_; have HR265 := n5_; clear n0_ n1_ n2_ n3_ n4_ n5_; clear hg hw hp_; obtain ⟨Ao59, co59, eo59⟩ := Kd.R_slice HO268.out; subst eo59) | ((with_reducible refine gate_callee (f := 23) rfl ?_); refine goesL_ (some 63) rfl rfl Try.func23 (by kernel_rfl) rfl #[.slice Ao59 y266.length co59] rfl (by (try simp only [List.map_toArray, List.map_cons, List.map_nil]); first | done | rfl | (simp only [List.length_drop, List.length_take]; rfl)) ?_; (with_reducible refine (impl_GuestsValid.calls kj8 _ _ y266 false _ ?side1 ?side2 A29.out).mono ?_); (case side1 => repeat (first | exact (Kd.R_reads' HO268.out).2.2 | (with_reducible refine Kd.C_alloc ?_ _) | (with_reducible refine Kd.C_drewN ?_ _) | (with_reducible refine Kd.C_drew ?_))); (case side2 => exact (Kd.R_reads' HO268.out).2.1); rintro e w60 ⟨rfl, hb⟩; refine ⟨_, rfl, ?_⟩; have n0_ := Aside0.mk (Kd.R_below (by (with_reducible repeat (first | apply Kd.R_alloc | apply Kd.R_drewN | apply Kd.R_drew)); exact HO_5.out) hb); have n1_ := Aside0.mk (Kd.R_below (by (with_reducible repeat (first | apply Kd.R_alloc | apply Kd.R_drewN | apply Kd.R_drew)); exact HO268.out) hb); have n2_ := Aside0.mk (Kd.R_below (by (with_reducible repeat (first | apply Kd.R_alloc | apply Kd.R_drewN | apply Kd.R_drew)); exact HO274.out) hb); have n3_ := Aside0.mk (Kd.C_below (by repeat (first | (with_reducible exact HR258.out) | (with_reducible refine Kd.C_alloc ?_ _) | (with_reducible refine Kd.C_drewN ?_ _) | (with_reducible refine Kd.C_drew ?_) | exact HR258.out)) hb); have n4_ := Aside0.mk (Kd.C_below (by repeat (first | (with_reducible exact HR265.out) | (with_reducible refine Kd.C_alloc ?_ _) | (with_reducible refine Kd.C_drewN ?_ _) | (with_reducible refine Kd.C_drew ?_) | exact HR265.out)) hb); have n5_ := Aside0.mk (below_step (by repeat (first | (with_reducible first | exact HB.out | apply below_alloc | apply pw_below_drewN | apply below_drew1) | exact HB.out)) hb); clear HO_5; clear HO268; clear HO274; clear HR258; clear HR265; clear HB; have HO_5 := n0_; have HO268 := n1_; have HO274 := n2_; have HR258 := n3_; have HR265 := n4_; have HB := n5_; clear n0_ n1_ n2_ n3_ n4_ n5_; (try clear hb); (try clear hb2); (try clear hk); (try clear hi)))
                 go_ret
                 exact ⟨by first | rfl | (simp [errW_none, errW_some] <;> rfl) | (simp only [← hji18, ← hji22]; first | rfl | (simp [errW_none, errW_some] <;> rfl)) | (simp [*, errW_none, errW_some] <;> rfl), by repeat (first | (with_reducible first | exact HB.out | apply below_alloc | apply pw_below_drewN | apply below_drew1) | exact HB.out)⟩
               ·rw [if_neg c27] at H
                exact absurd H (by simp)
              ·rw [if_neg c26] at H
               exact absurd H (by simp)
             ·rw [if_neg c25] at H
              exact absurd H (by simp)
            ·rw [if_neg c24] at H
             exact absurd H (by simp)
           ·rw [if_neg c23] at H
            exact absurd H (by simp)
          ·rw [if_neg c21] at H
           exact absurd H (by simp)
         ·rw [if_neg c20] at H
          exact absurd H (by simp)
        ·rw [if_neg c19] at H
         exact absurd H (by simp)

/-- THE ONE PURE STATEMENT of laws_FnGuestsPart: yours. -/
def laws_FnGuestsPart.Pure : Prop := ∀ (l0 : List Int) (l1 : List Int), l0.length ≤ maxLen → l0.length * 1 ≤ 140737488351232 → (∀ x ∈ l0, (Lit.int .u8 x).wf = true) → l1.length ≤ maxLen → l1.length * 1 ≤ 140737488351232 → (∀ x ∈ l1, (Lit.int .u8 x).wf = true) → ∃ k, laws_FnGuestsPart.f k l0 l1 = some true
theorem laws_FnGuestsPart.walk (P : laws_FnGuestsPart.Pure) (a0 : Option Addr) (len0 cap0 : Nat) (z0 : List Int) (a1 : Option Addr) (len1 cap1 : Nat) (z1 : List Int) (w : World) (w0 : (a0 = none ∧ len0 = 0 ∧ cap0 = 0 ∧ z0 = []) ∨ ∃ x, a0 = some x ∧ len0 ≤ cap0 ∧ cap0 ≤ maxLen ∧ z0.length = cap0 ∧ (∀ i, i < z0.length → w.cell? (x.add i) = some (.int .u8 (z0.getD i 0))) ∧ ∀ n ∈ z0, (Lit.int .u8 n).wf = true) (y0 : len0 * 1 ≤ 140737488351232) (w1 : (a1 = none ∧ len1 = 0 ∧ cap1 = 0 ∧ z1 = []) ∨ ∃ x, a1 = some x ∧ len1 ≤ cap1 ∧ cap1 ≤ maxLen ∧ z1.length = cap1 ∧ (∀ i, i < z1.length → w.cell? (x.add i) = some (.int .u8 (z1.getD i 0))) ∧ ∀ n ∈ z1, (Lit.int .u8 n).wf = true) (y1 : len1 * 1 ≤ 140737488351232) :
  Calls Try.prog 8 #[.slice a0 len0 cap0, .slice a1 len1 cap1] w fun e w' => e = .returned (.bool true) ∧ Below w.heap.size w w' := by
 obtain ⟨l0, rfl, hr0, hm0, hw0, hc0⟩ := ReadsInt.ofRowC w0
 obtain ⟨l1, rfl, hr1, hm1, hw1, hc1⟩ := ReadsInt.ofRowC w1
 obtain ⟨k, h⟩ := P l0 l1 hm0 y0 hw0 hm1 y1 hw1
 refine (laws_FnGuestsPart.calls k _ _ l0 _ _ l1 true w (Kd.C_of_reads (d := (0 : Int)) (h1 := fun _ => rfl) hr0) hc0 (Kd.C_of_reads (d := (0 : Int)) (h1 := fun _ => rfl) hr1) hc1 h).mono ?_
 rintro e w' ⟨rfl, hd⟩
 exact ⟨rfl, hd⟩

end Go.Proofs.Ytgfclechgalpmaa.Q
