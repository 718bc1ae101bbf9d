-- Written by the kit's print.py for all laws of the seat at once (one namespace), by a program of this session.
import Derived.Test.YtclldijjbmnkeaaQx0
import Derived.Test.YtclldijjbmnkeaaQx1
import Derived.Test.YtclldijjbmnkeaaQx2
import Derived.Test.YtclldijjbmnkeaaQx26
namespace Go.Proofs.Ytclldijjbmnkeaa.Q
open Go.RowKit Go.Proofs.YtclldijjbmnkeaaW.PrintWords Go.Proofs.YtclldijjbmnkeaaW.PrintLast Go.Proofs.YtclldijjbmnkeaaW.PrintMore
attribute [local go_sem] max2_int min2_int max_two min_two max_three min_three max_four min_four   -- for this text's walks alone
set_option linter.unusedVariables false
set_option linter.unusedSimpArgs false

/-! ### spec_DrawDishNeeds: function 45 -/
def spec_DrawDishNeeds.f (k : Nat) (l0 : List Int) : Option ((List (S29)) × (List (S63)) × Int × Int) := (spec_l6Open.f l0).bind fun bt809 => ((spec_l91Menu.f k bt809.1 bt809.2).bind fun bt812 => ((spec_l91Id.f k bt809.1 bt812.2.2 bt812.1).bind fun bt819 => ((spec_l6Rd_pick.f k bt809.1 bt819.2 16).bind fun bt821 => (if bt821.1 = 0 then ((some (([(-1), 0, 300, 301] : List Int) : List Int)).bind fun y823 => ((spec_l6Rd_pick.f k bt809.1 bt821.2 4).bind fun bt826 => (if 0 ≤ bt826.1 then (if bt826.1 < (y823.length : Int) then (some (bt812.1, bt812.2.1, bt819.1, rd y823 bt826.1)) else (none)) else (none)))) else ((spec_l6Rd_pick.f k bt809.1 bt821.2 60).bind fun bt829 => (some (bt812.1, bt812.2.1, bt819.1, bt829.1)))))))
theorem spec_DrawDishNeeds.mono : ∀ a0 k, LeO (spec_DrawDishNeeds.f k a0) (spec_DrawDishNeeds.f (k + 1) a0) := by
 intro a0 k
 unfold spec_DrawDishNeeds.f
 repeat' first
   | (with_reducible exact spec_l6Rd_pick.mono _ _ _ _)
   | (with_reducible exact spec_l91Id.mono _ _ _ _)
   | (with_reducible exact spec_l91Menu.mono _ _ _)
   | (with_reducible exact LeO.refl _)
   | (with_reducible exact LeO.none _)
   | (with_reducible refine LeO.ite ?_ ?_)
   | (with_reducible refine LeO.bind ?_ (fun _ => ?_))
   | exact spec_l6Rd_pick.mono _ _ _ _
   | exact spec_l91Id.mono _ _ _ _
   | exact spec_l91Menu.mono _ _ _
   | exact LeO.none _
   | refine LeO.ite ?_ ?_
   | refine LeO.bind ?_ (fun _ => ?_)
def spec_DrawDishNeeds.T5 : Bool × List (List Nat × List Nat) := (true, [([], []), ([], []), ([], []), ([], []), ([], []), ([4], [4]), ([3, 5], [3, 5]), ([6], [6]), ([0, 5, 0], [0]), ([1, 8, 0, 1, 8], [1]), ([2, 9, 0, 1, 2, 8, 9], [2]), ([7, 10, 0, 1, 2, 3, 4, 5, 6, 7, 8, 9, 10], [7])])
def spec_DrawDishNeeds.B5 : List Nat := [0, 0, 0, 0, 0, 16, 56, 120, 49, 307, 823, 2047]
theorem spec_DrawDishNeeds.tab5 : rtab .any (opsOf Try.f45 5) = spec_DrawDishNeeds.T5 := by kernel_rfl
theorem spec_DrawDishNeeds.bits5 : waitsOk spec_DrawDishNeeds.T5.2 spec_DrawDishNeeds.B5 = true := by kernel_rfl
theorem F45.q0 {P : Prop} (h : P := by repeat (first | (with_reducible first | exact HB.out | apply below_alloc | apply pw_below_drewN | apply below_drew1 | refine below_set ?_ (IsS99.ge HI811.out)) | exact HB.out)) : P := h
theorem F45.q1 {P : Prop} (h : P := by repeat (first | (with_reducible first | exact HI811.out | apply IsS99.alloc | apply IsS99.drewN | apply IsS99.drew | apply IsS99.set_1) | exact HI811.out)) : P := h
theorem F45.q2 {P : Prop} (h : P := by (with_reducible repeat (first | apply Kd.N_alloc | apply Kd.N_drewN | apply Kd.N_drew)); exact HO814.out) : P := h
set_option maxHeartbeats 8000000 in
set_option maxRecDepth 100000 in
theorem spec_DrawDishNeeds.calls (k : Nat) (A0 : Option Addr) (c0 : Nat) (l0 : List Int) (r1 : List (S29)) (r2 : List (S63)) (r3 : Int) (r4 : Int) (w : World) (hr0 : Kd.C (Kd.int .u8) w A0 l0.length l0) (hc0 : l0.length ≤ c0) (h : spec_DrawDishNeeds.f k l0 = some (r1, r2, r3, r4)) :
  Calls Try.prog 45 #[.slice A0 l0.length c0] w fun e w' => ∃ v0_ v1_ : Value, e = .returned (.tuple #[v0_, v1_, .int .i64 r3, .int .i64 r4]) ∧ Kd.N k29 29 w' w.heap.size (fun k_ => (w.heap.size ≤ k_) ∧ some k_ ≠ (v1_ : Value).ownBlock) v0_ r1 ∧ Kd.R k63 63 w' w.heap.size (fun k_ => (w.heap.size ≤ k_)) v1_ r2 ∧ Below w.heap.size w w' := by
 have HR0 := Aside0.mk hr0
 have HC0 := Aside0.mk hc0
 clear hr0 hc0
 have HB := Aside0.mk (Below.refl w.heap.size w)
 have H : ((spec_l6Open.f l0).bind fun bt809 => ((spec_l91Menu.f k bt809.1 bt809.2).bind fun bt812 => ((spec_l91Id.f k bt809.1 bt812.2.2 bt812.1).bind fun bt819 => ((spec_l6Rd_pick.f k bt809.1 bt819.2 16).bind fun bt821 => (if bt821.1 = 0 then ((some (([(-1), 0, 300, 301] : List Int) : List Int)).bind fun y823 => ((spec_l6Rd_pick.f k bt809.1 bt821.2 4).bind fun bt826 => (if 0 ≤ bt826.1 then (if bt826.1 < (y823.length : Int) then (some (bt812.1, bt812.2.1, bt819.1, rd y823 bt826.1)) else (none)) else (none)))) else ((spec_l6Rd_pick.f k bt809.1 bt821.2 60).bind fun bt829 => (some (bt812.1, bt812.2.1, bt819.1, bt829.1)))))))) = some (r1, r2, r3, r4) := h
 clear h
 replace H := Option.bind_eq_some_iff.mp H
 obtain ⟨⟨t809, t810⟩, A20, H⟩ := H
 replace H : ((spec_l91Menu.f k t809 t810).bind fun bt812 => ((spec_l91Id.f k t809 bt812.2.2 bt812.1).bind fun bt819 => ((spec_l6Rd_pick.f k t809 bt819.2 16).bind fun bt821 => (if bt821.1 = 0 then ((some (([(-1), 0, 300, 301] : List Int) : List Int)).bind fun y823 => ((spec_l6Rd_pick.f k t809 bt821.2 4).bind fun bt826 => (if 0 ≤ bt826.1 then (if bt826.1 < (y823.length : Int) then (some (bt812.1, bt812.2.1, bt819.1, rd y823 bt826.1)) else (none)) else (none)))) else ((spec_l6Rd_pick.f k t809 bt821.2 60).bind fun bt829 => (some (bt812.1, bt812.2.1, bt819.1, bt829.1))))))) = some (r1, r2, r3, r4) := H
 have A2 := Aside0.mk A20
 clear A20
 replace H := Option.bind_eq_some_iff.mp H
 obtain ⟨⟨t812, t815, t818⟩, A30, H⟩ := H
 replace H : ((spec_l91Id.f k t809 t818 t812).bind fun bt819 => ((spec_l6Rd_pick.f k t809 bt819.2 16).bind fun bt821 => (if bt821.1 = 0 then ((some (([(-1), 0, 300, 301] : List Int) : List Int)).bind fun y823 => ((spec_l6Rd_pick.f k t809 bt821.2 4).bind fun bt826 => (if 0 ≤ bt826.1 then (if bt826.1 < (y823.length : Int) then (some (t812, t815, bt819.1, rd y823 bt826.1)) else (none)) else (none)))) else ((spec_l6Rd_pick.f k t809 bt821.2 60).bind fun bt829 => (some (t812, t815, bt819.1, bt829.1)))))) = some (r1, r2, r3, r4) := H
 have A3 := Aside0.mk A30
 clear A30
 replace H := Option.bind_eq_some_iff.mp H
 obtain ⟨⟨t819, t820⟩, A40, H⟩ := H
 replace H : ((spec_l6Rd_pick.f k t809 t820 16).bind fun bt821 => (if bt821.1 = 0 then ((some (([(-1), 0, 300, 301] : List Int) : List Int)).bind fun y823 => ((spec_l6Rd_pick.f k t809 bt821.2 4).bind fun bt826 => (if 0 ≤ bt826.1 then (if bt826.1 < (y823.length : Int) then (some (t812, t815, t819, rd y823 bt826.1)) else (none)) else (none)))) else ((spec_l6Rd_pick.f k t809 bt821.2 60).bind fun bt829 => (some (t812, t815, t819, bt829.1))))) = some (r1, r2, r3, r4) := H
 have A4 := Aside0.mk A40
 clear A40
 replace H := Option.bind_eq_some_iff.mp H
 obtain ⟨⟨t821, t822⟩, A50, H⟩ := H
 replace H : (if t821 = 0 then ((some (([(-1), 0, 300, 301] : List Int) : List Int)).bind fun y823 => ((spec_l6Rd_pick.f k t809 t822 4).bind fun bt826 => (if 0 ≤ bt826.1 then (if bt826.1 < (y823.length : Int) then (some (t812, t815, t819, rd y823 bt826.1)) else (none)) else (none)))) else ((spec_l6Rd_pick.f k t809 t822 60).bind fun bt829 => (some (t812, t815, t819, bt829.1)))) = some (r1, r2, r3, r4) := H
 have A5 := Aside0.mk A50
 clear A50
 rcases (Classical.em (t821 = 0)).symm with c6 | c6
 ·rw [if_neg c6] at H
  have c6b0 : (t821 == 0) = false := beq_eq_false_iff_ne.mpr c6
  have c6b1 : (t821 != 0) = true := bne_iff_ne.mpr c6
  replace H := Option.bind_eq_some_iff.mp H
  obtain ⟨⟨t829, t830⟩, A220, H⟩ := H
  replace H : (some (t812, t815, t819, t829)) = some (r1, r2, r3, r4) := H
  have A22 := Aside0.mk A220
  clear A220
  simp only [Option.some.injEq, Prod.mk.injEq] at H
  obtain ⟨rfl, rfl, rfl, rfl⟩ := H
  go_enter Try.func45, Try.ntmps45
  go_wp2_with (first | ((with_reducible refine gate_callee (f := 53) rfl ?_); refine goesL_ (some 11) rfl rfl Try.func53 pL rfl #[.slice A0 l0.length c0] rfl pM ?_; (with_reducible refine (spec_l6Open.calls _ _ l0 t809 t810 w _ ?side1 ?side2 ?side3 A2.out).mono ?_); (case side1 => exact pB); (case side2 => exact HR0.out); (case side3 => exact HC0.out); rintro e w23 ⟨g811, rfl, hi, hb, hb2⟩; refine ⟨_, rfl, ?_⟩; have n0_ := Aside0.mk (hb); have n1_ := Aside0.mk (hi); clear HB; have HB := n0_; have HI811 := n1_; clear n0_ n1_; (try clear hb); (try clear hb2); (try clear hk); (try clear hi)) | ((with_reducible refine gate_callee (f := 54) rfl ?_); refine goesL_ (some 14) rfl rfl Try.func54 pL rfl #[.pointer (some ⟨g811, 0, none⟩)] rfl pM ?_; (with_reducible refine (spec_l91Menu.calls k g811 t809 t810 t812 t815 t818 w _ ?side1 ?side2 A3.out).mono ?_); (case side1 => exact F45.q1); (case side2 => exact F45.q0); rintro e w24 ⟨v813, v816, rfl, ho0, ho1, hi, hb, hk⟩; refine ⟨_, rfl, ?_⟩; have n0_ := Aside0.mk (Kd.N_lower (Kd.N_mono (ok' := fun k_ => (w.heap.size ≤ k_) ∧ some k_ ≠ (v816 : Value).ownBlock ∧ k_ ≠ g811) ho0 (fun k_ hk_ => ⟨(Nat.le_trans (below_size F45.q0) hk_.1), hk_.2, (IsS99.fresh F45.q1 k_ hk_.1)⟩)) (below_size F45.q0)); have n1_ := Aside0.mk (Kd.R_lower (Kd.R_newM (M := fun k_ => (w.heap.size ≤ k_)) (Kd.R_mono (ok' := fun k_ => True) ho1 (fun _ hk_ => trivial)) (below_size F45.q0) (fun k_ h_ => h_)) (below_size F45.q0)); have n2_ := Aside0.mk (hb); have n3_ := Aside0.mk (hi); clear HB; clear HI811; have HO814 := n0_; have HO817 := n1_; have HB := n2_; have HI811 := n3_; clear n0_ n1_ n2_ n3_; (try clear hb); (try clear hb2); (try clear hk); (try clear hi); (try clear ho0); (try clear ho1); obtain ⟨Ao25, co25, eo25⟩ := Kd.N_slice HO814.out; subst eo25) | ((with_reducible refine gate_callee (f := 84) rfl ?_); refine goesL_ (some 19) rfl rfl Try.func84 pL rfl #[.pointer (some ⟨g811, 0, none⟩), .slice Ao25 t812.length co25] rfl pM ?_; (with_reducible refine (spec_l91Id.calls k g811 t809 t818 _ _ t812 t819 t820 w _ ?side1 ?side2 ?side3 ?side4 A4.out).mono ?_); (case side1 => exact F45.q1); (case side2 => exact F45.q0); (case side3 => exact Kd.C_foot_ownV (base := 0) (Kd.N_V (Kd.N_mono (ok := fun k_ => (((w.heap.size ≤ k_)) ∧ (some k_ ≠ (v816 : Value).ownBlock ∧ k_ ≠ g811))) F45.q2 (fun k_ hk_ => (⟨hk_, hk_.2.2⟩ : _ ∧ k_ ≠ g811)))) (fun _ h_ => h_.2)); (case side4 => exact (Kd.N_reads' HO814.out).2.1); rintro e w26 ⟨rfl, hi, hb, hk⟩; refine ⟨_, rfl, ?_⟩; have n0_ := Aside0.mk (Kd.N_mono (Kd.N_keep (Kd.N_mono (ok := fun k_ => (((w.heap.size ≤ k_)) ∧ (some k_ ≠ (v816 : Value).ownBlock ∧ k_ ≠ g811))) F45.q2 (fun k_ hk_ => (⟨hk_, hk_.2.2⟩ : _ ∧ k_ ≠ g811))) hk (fun _ h => h.2)) (fun _ h => h.1)); have n1_ := Aside0.mk (Kd.R_mono (Kd.R_keep (IsS99.apart (show IsS99 w _ g811 t809 t818 from F45.q1) (pR HO817) (by decide)) hk (fun _ h => h.2)) (fun _ h => h.1)); have n2_ := Aside0.mk (hb); have n3_ := Aside0.mk (hi); clear HO814; clear HO817; clear HB; clear HI811; have HO814 := n0_; have HO817 := n1_; have HB := n2_; have HI811 := n3_; clear n0_ n1_ n2_ n3_; (try clear hb); (try clear hb2); (try clear hk); (try clear hi)) | ((with_reducible refine gate_callee (f := 55) rfl ?_); refine goesL_ (some 21) rfl rfl Try.func55 pL rfl #[.pointer (some ⟨g811, 0, none⟩), .int .i64 16] rfl pM ?_; (with_reducible refine (spec_l6Rd_pick.calls k g811 t809 t820 16 t821 t822 w _ ?side1 ?side2 A5.out).mono ?_); (case side1 => exact F45.q1); (case side2 => exact F45.q0); rintro e w27 ⟨rfl, hi, hb, hk⟩; refine ⟨_, rfl, ?_⟩; have n0_ := Aside0.mk (Kd.N_mono (Kd.N_keep (Kd.N_mono (ok := fun k_ => (((w.heap.size ≤ k_)) ∧ (some k_ ≠ (v816 : Value).ownBlock ∧ k_ ≠ g811))) F45.q2 (fun k_ hk_ => (⟨hk_, hk_.2.2⟩ : _ ∧ k_ ≠ g811))) hk (fun _ h => h.2)) (fun _ h => h.1)); have n1_ := Aside0.mk (Kd.R_mono (Kd.R_keep (IsS99.apart (show IsS99 w _ g811 t809 t820 from F45.q1) (pR HO817) (by decide)) hk (fun _ h => h.2)) (fun _ h => h.1)); have n2_ := Aside0.mk (hb); have n3_ := Aside0.mk (hi); clear HO814; clear HO817; clear HB; clear HI811; have HO814 := n0_; have HO817 := n1_; have HB := n2_; have HI811 := n3_; clear n0_ n1_ n2_ n3_; (try clear hb); (try clear hb2); (try clear hk); (try clear hi)) | ((with_reducible refine gate_callee (f := 55) rfl ?_); refine goesL_ (some 35) rfl rfl Try.func55 pL rfl #[.pointer (some ⟨g811, 0, none⟩), .int .i64 60] rfl pM ?_; (with_reducible refine (spec_l6Rd_pick.calls k g811 t809 t822 60 t829 t830 w _ ?side1 ?side2 A22.out).mono ?_); (case side1 => exact F45.q1); (case side2 => exact F45.q0); rintro e w28 ⟨rfl, hi, hb, hk⟩; refine ⟨_, rfl, ?_⟩; have n0_ := Aside0.mk (Kd.N_mono (Kd.N_keep (Kd.N_mono (ok := fun k_ => (((w.heap.size ≤ k_)) ∧ (some k_ ≠ (v816 : Value).ownBlock ∧ k_ ≠ g811))) F45.q2 (fun k_ hk_ => (⟨hk_, hk_.2.2⟩ : _ ∧ k_ ≠ g811))) hk (fun _ h => h.2)) (fun _ h => h.1)); have n1_ := Aside0.mk (Kd.R_mono (Kd.R_keep (IsS99.apart (show IsS99 w _ g811 t809 t822 from F45.q1) (pR HO817) (by decide)) hk (fun _ h => h.2)) (fun _ h => h.1)); have n2_ := Aside0.mk (hb); have n3_ := Aside0.mk (hi); clear HO814; clear HO817; clear HB; clear HI811; have HO814 := n0_; have HO817 := n1_; have HB := n2_; have HI811 := n3_; clear n0_ n1_ n2_ n3_; (try clear hb); (try clear hb2); (try clear hk); (try clear hi)))
  refine bodyPost_ret (results_list (rs := [.tmp 2, .tmp 3, .tmp 4, .tmp 5]) rfl (by simp) (.tmp (.tmp (.tmp (.tmp .nil))))) rfl ?_
  exact ⟨_, _, pE, by (with_reducible repeat (first | apply Kd.N_alloc | apply Kd.N_drewN | apply Kd.N_drew)); exact Kd.N_mono HO814.out (fun _ hk => ⟨hk.1, hk.2.1⟩), by (with_reducible repeat (first | apply Kd.R_alloc | apply Kd.R_drewN | apply Kd.R_drew)); exact Kd.R_mono HO817.out (fun _ hk => hk.1), by repeat (first | (with_reducible first | exact HB.out | apply below_alloc | apply pw_below_drewN | apply below_drew1 | refine below_set ?_ (IsS99.ge HI811.out)) | exact HB.out)⟩

 rw [if_pos c6] at H
 have c6b0 : (t821 == 0) = true := beq_iff_eq.mpr c6
 have c6b1 : (t821 != 0) = false := bne_eq_false_iff_eq.mpr c6
 clear c6
 obtain ⟨y823, hy823⟩ : ∃ y_ : List Int, y_ = (([(-1), 0, 300, 301] : List Int)) := ⟨_, rfl⟩
 replace H : ((spec_l6Rd_pick.f k t809 t822 4).bind fun bt826 => (if 0 ≤ bt826.1 then (if bt826.1 < (y823.length : Int) then (some (t812, t815, t819, rd y823 bt826.1)) else (none)) else (none))) = some (r1, r2, r3, r4) := pJ hy823 H
 have Ny823 := Aside0.mk hy823
 clear hy823
 replace H := Option.bind_eq_some_iff.mp H
 obtain ⟨⟨t826, t827⟩, A70, H⟩ := H
 replace H : (if 0 ≤ t826 then (if t826 < (y823.length : Int) then (some (t812, t815, t819, rd y823 t826)) else (none)) else (none)) = some (r1, r2, r3, r4) := H
 have A7 := Aside0.mk A70
 clear A70
 rcases (Classical.em (0 ≤ t826)).symm with c8 | c8
 ·rw [if_neg c8] at H
  exact absurd H (by simp)
 rw [if_pos c8] at H
 have c8b0 : decide (0 ≤ t826) = true := decide_eq_true c8
 clear c8
 rcases (Classical.em (t826 < (y823.length : Int))).symm with c9 | c9
 ·rw [if_neg c9] at H
  exact absurd H (by simp)
 rw [if_pos c9] at H
 have c9b0 : decide (t826 < (y823.length : Int)) = true := decide_eq_true c9
 clear c9
 simp only [Option.some.injEq, Prod.mk.injEq] at H
 obtain ⟨rfl, rfl, rfl, rfl⟩ := H
 go_enter Try.func45, Try.ntmps45
 try go_wp2_with (first | ((with_reducible refine gate_callee (f := 53) rfl ?_); refine goesL_ (some 11) rfl rfl Try.func53 pL rfl #[.slice A0 l0.length c0] rfl pM ?_; (with_reducible refine (spec_l6Open.calls _ _ l0 t809 t810 w _ ?side1 ?side2 ?side3 A2.out).mono ?_); (case side1 => exact pB); (case side2 => exact HR0.out); (case side3 => exact HC0.out); rintro e w10 ⟨g811, rfl, hi, hb, hb2⟩; refine ⟨_, rfl, ?_⟩; have n0_ := Aside0.mk (hb); have n1_ := Aside0.mk (hi); clear HB; have HB := n0_; have HI811 := n1_; clear n0_ n1_; (try clear hb); (try clear hb2); (try clear hk); (try clear hi)) | ((with_reducible refine gate_callee (f := 54) rfl ?_); refine goesL_ (some 14) rfl rfl Try.func54 pL rfl #[.pointer (some ⟨g811, 0, none⟩)] rfl pM ?_; (with_reducible refine (spec_l91Menu.calls k g811 t809 t810 t812 t815 t818 w _ ?side1 ?side2 A3.out).mono ?_); (case side1 => exact F45.q1); (case side2 => exact F45.q0); rintro e w11 ⟨v813, v816, rfl, ho0, ho1, hi, hb, hk⟩; refine ⟨_, rfl, ?_⟩; have n0_ := Aside0.mk (Kd.N_lower (Kd.N_mono (ok' := fun k_ => (w.heap.size ≤ k_) ∧ some k_ ≠ (v816 : Value).ownBlock ∧ k_ ≠ g811) ho0 (fun k_ hk_ => ⟨(Nat.le_trans (below_size F45.q0) hk_.1), hk_.2, (IsS99.fresh F45.q1 k_ hk_.1)⟩)) (below_size F45.q0)); have n1_ := Aside0.mk (Kd.R_lower (Kd.R_newM (M := fun k_ => (w.heap.size ≤ k_)) (Kd.R_mono (ok' := fun k_ => True) ho1 (fun _ hk_ => trivial)) (below_size F45.q0) (fun k_ h_ => h_)) (below_size F45.q0)); have n2_ := Aside0.mk (hb); have n3_ := Aside0.mk (hi); clear HB; clear HI811; have HO814 := n0_; have HO817 := n1_; have HB := n2_; have HI811 := n3_; clear n0_ n1_ n2_ n3_; (try clear hb); (try clear hb2); (try clear hk); (try clear hi); (try clear ho0); (try clear ho1); obtain ⟨Ao12, co12, eo12⟩ := Kd.N_slice HO814.out; subst eo12) | ((with_reducible refine gate_callee (f := 84) rfl ?_); refine goesL_ (some 19) rfl rfl Try.func84 pL rfl #[.pointer (some ⟨g811, 0, none⟩), .slice Ao12 t812.length co12] rfl pM ?_; (with_reducible refine (spec_l91Id.calls k g811 t809 t818 _ _ t812 t819 t820 w _ ?side1 ?side2 ?side3 ?side4 A4.out).mono ?_); (case side1 => exact F45.q1); (case side2 => exact F45.q0); (case side3 => exact Kd.C_foot_ownV (base := 0) (Kd.N_V (Kd.N_mono (ok := fun k_ => (((w.heap.size ≤ k_)) ∧ (some k_ ≠ (v816 : Value).ownBlock ∧ k_ ≠ g811))) F45.q2 (fun k_ hk_ => (⟨hk_, hk_.2.2⟩ : _ ∧ k_ ≠ g811)))) (fun _ h_ => h_.2)); (case side4 => exact (Kd.N_reads' HO814.out).2.1); rintro e w13 ⟨rfl, hi, hb, hk⟩; refine ⟨_, rfl, ?_⟩; have n0_ := Aside0.mk (Kd.N_mono (Kd.N_keep (Kd.N_mono (ok := fun k_ => (((w.heap.size ≤ k_)) ∧ (some k_ ≠ (v816 : Value).ownBlock ∧ k_ ≠ g811))) F45.q2 (fun k_ hk_ => (⟨hk_, hk_.2.2⟩ : _ ∧ k_ ≠ g811))) hk (fun _ h => h.2)) (fun _ h => h.1)); have n1_ := Aside0.mk (Kd.R_mono (Kd.R_keep (IsS99.apart (show IsS99 w _ g811 t809 t818 from F45.q1) (pR HO817) (by decide)) hk (fun _ h => h.2)) (fun _ h => h.1)); have n2_ := Aside0.mk (hb); have n3_ := Aside0.mk (hi); clear HO814; clear HO817; clear HB; clear HI811; have HO814 := n0_; have HO817 := n1_; have HB := n2_; have HI811 := n3_; clear n0_ n1_ n2_ n3_; (try clear hb); (try clear hb2); (try clear hk); (try clear hi)) | ((with_reducible refine gate_callee (f := 55) rfl ?_); refine goesL_ (some 21) rfl rfl Try.func55 pL rfl #[.pointer (some ⟨g811, 0, none⟩), .int .i64 16] rfl pM ?_; (with_reducible refine (spec_l6Rd_pick.calls k g811 t809 t820 16 t821 t822 w _ ?side1 ?side2 A5.out).mono ?_); (case side1 => exact F45.q1); (case side2 => exact F45.q0); rintro e w14 ⟨rfl, hi, hb, hk⟩; refine ⟨_, rfl, ?_⟩; have n0_ := Aside0.mk (Kd.N_mono (Kd.N_keep (Kd.N_mono (ok := fun k_ => (((w.heap.size ≤ k_)) ∧ (some k_ ≠ (v816 : Value).ownBlock ∧ k_ ≠ g811))) F45.q2 (fun k_ hk_ => (⟨hk_, hk_.2.2⟩ : _ ∧ k_ ≠ g811))) hk (fun _ h => h.2)) (fun _ h => h.1)); have n1_ := Aside0.mk (Kd.R_mono (Kd.R_keep (IsS99.apart (show IsS99 w _ g811 t809 t820 from F45.q1) (pR HO817) (by decide)) hk (fun _ h => h.2)) (fun _ h => h.1)); have n2_ := Aside0.mk (hb); have n3_ := Aside0.mk (hi); clear HO814; clear HO817; clear HB; clear HI811; have HO814 := n0_; have HO817 := n1_; have HB := n2_; have HI811 := n3_; clear n0_ n1_ n2_ n3_; (try clear hb); (try clear hb2); (try clear hk); (try clear hi)))
 have pi828 : (0 ≤ (t826 : Int)) = True := eq_true (of_decide_eq_true pA)
 have qi828 : (t826 < (y823.length : Int)) = True := eq_true (of_decide_eq_true pA)
 have n0_ := Aside0.mk (Kd.N_drew HO814.out)
 have n1_ := Aside0.mk (Kd.R_drew HO817.out)
 have n2_ := Aside0.mk (IsS99.drew HI811.out)
 have n3_ := Aside0.mk (below_drew1 HB.out)
 clear HO814
 clear HO817
 clear HI811
 clear HB
 have HO814 := n0_
 have HO817 := n1_
 have HI811 := n2_
 have HB := n3_
 clear n0_ n1_ n2_ n3_
 refine start_ (n := 12) (S := fun w' => True) (ds := []) #[false, false, false, false, false, false, false, false, false, false, false, false] pL rfl rfl trivial (fun hHeld => ?_); refine with_tabW spec_DrawDishNeeds.tab5 spec_DrawDishNeeds.bits5 (fun HT_ HW_ => ?_)
 generalize w14.drew = w15 at HO814 HO817 HI811 HB hHeld ⊢
 refine pv 0 (some 23) HT_ rfl rfl pL ?_
 refine pv 1 (some 24) HT_ rfl rfl pL ?_
 refine pv 2 (some 25) HT_ rfl rfl pL ?_
 refine pv 4 (some 27) HT_ rfl rfl pL ?_
 refine join_ (σ := Value × Addr) 3 #[true, true, true, true, true, true, false, false, true, true, true, false] (fun s_ => [(26, s_.1), (28, .int .i64 t826), (2, .slice Ao12 t812.length co12), (3, v816), (4, .int .i64 t819)]) (fun s_ w' => (Kd.N k29 29 w' w.heap.size (fun k_ => (w.heap.size ≤ k_) ∧ some k_ ≠ (v816 : Value).ownBlock ∧ some k_ ≠ (s_.1 : Value).ownBlock ∧ k_ ≠ g811) (.slice Ao12 t812.length co12) t812) ∧ (Kd.R k63 63 w' w.heap.size (fun k_ => (w.heap.size ≤ k_)) v816 t815) ∧ (Kd.R (Kd.int .i64) 3 w' w.heap.size (fun k_ => (w.heap.size ≤ k_)) s_.1 y823) ∧ (∃ c_, (s_.1 : Value) = .slice (some s_.2) y823.length c_) ∧ (IsS99 w w' g811 t809 t827) ∧ (Below w.heap.size w w')) ?_ ?_
 rotate_left
 ·intro hCont
  refine two_ (i := 3) (j := 5) (Ni := some 26) (Nj := some 28) #[true, true, true, true, true, false, false, false, false, false, false, false] #[true, true, true, false, true, true, false, false, false, false, false, false] rfl rfl rfl rfl (two_of HT_.out pL) (by decide) (by decide) (fun K hK => ?_) (fun K hK => ?_)
  ·skip
   refine Kd.R_lit_step (Kd.int .i64) _ 3 ?hg (N := 26) ?hd (xs := ([(-1), 0, 300, 301] : List Int)) (inner := [.int .i64 (-1), .int .i64 0, .int .i64 300, .int .i64 301]) (ok := fun _ => True) (okp := fun _ => True) ?hr ?hp (fun _ hk => hk) trivial (Below.refl _ _) (Nat.le_refl _) (by simp) ?_; (case hd => rfl); (case hg => rfl); (case hr => first | (go_simp; done) | (go_simp; rfl)); (case hp => exact (Reps.one (show Kd.M (Kd.int .i64) _ _ _ (-1) [.int .i64 (-1)] from rfl) (Reps.one (show Kd.M (Kd.int .i64) _ _ _ 0 [.int .i64 0] from rfl) (Reps.one (show Kd.M (Kd.int .i64) _ _ _ 300 [.int .i64 300] from rfl) (Reps.one (show Kd.M (Kd.int .i64) _ _ _ 301 [.int .i64 301] from rfl) (Reps.none _ _))))))
   intro v824 w16 ho17 hb hg_ hnew_
   clear hg_ hnew_
   (first | rw [← Ny823.out] at ho17 | (simp only [Int.reduceToNat] at ho17; rw [← Ny823.out] at ho17))
   have n0_ := Aside0.mk (Kd.N_elder' F45.q2 (Kd.R_base ho17) hb)
   have n1_ := Aside0.mk (Kd.R_below (pR HO817) hb)
   have n2_ := Aside0.mk (Kd.R_lower (Kd.R_newM (M := fun k_ => (w.heap.size ≤ k_)) ho17 (below_size F45.q0) (fun k_ h_ => h_)) (below_size F45.q0))
   have n3_ := Aside0.mk (IsS99.below F45.q1 hb)
   have n4_ := Aside0.mk (below_step F45.q0 hb)
   clear HO814
   clear HO817
   clear HI811
   clear HB
   have HO814 := n0_
   have HO817 := n1_
   have HO825 := n2_
   have HI811 := n3_
   have HB := n4_
   clear n0_ n1_ n2_ n3_ n4_
   clear hb ho17
   obtain ⟨Ao18, co18, eo18⟩ := Kd.R_slice HO825.out
   subst eo18
   obtain ⟨ado18, fo18, _⟩ := Kd.at_int (Kd.R_reads' HO825.out).2.2 0 (by decide) (by rw [Ny823.out]; simp)
   cases fo18
   refine hK.out _ _ trivial (fun hHeld => ?_)
   clear hK K
   refine norm_ (a' := ?_) ?_ ?_
   rotate_left
   ·show Act.put _ (some 26) _ = _
    exact pP
   refine one_ (i := 5) (N := some 28) #[true, true, true, true, true, true, false, false, false, false, false, false] rfl rfl (one_of HT_.out pL) (by decide) (fun K hK => ?_)
   refine goes_ Try.func55 pL rfl #[.pointer (some ⟨g811, 0, none⟩), .int .i64 4] (by rfl) rfl rfl pM ?_
   with_reducible refine (spec_l6Rd_pick.calls k g811 t809 t822 4 t826 t827 w _ ?side1 ?side2 A7.out).mono ?_
   (case side1 => exact F45.q1)
   (case side2 => exact F45.q0)
   rintro e w19 ⟨rfl, hi, hb, hk⟩
   refine ⟨_, rfl, ?_⟩
   have n0_ := Aside0.mk (Kd.N_mono (Kd.N_keep (Kd.N_mono (ok := fun k_ => ((((w.heap.size ≤ k_)) ∧ (some k_ ≠ (v816 : Value).ownBlock ∧ k_ ≠ g811)) ∧ some k_ ≠ (.slice (some ado18) y823.length co18 : Value).ownBlock)) F45.q2 (fun k_ hk_ => (⟨hk_, hk_.1.2.2⟩ : _ ∧ k_ ≠ g811))) hk (fun _ h => h.2)) (fun _ h => h.1))
   have n1_ := Aside0.mk (Kd.R_mono (Kd.R_keep (IsS99.apart (show IsS99 w _ g811 t809 t822 from F45.q1) (pR HO817) (by decide)) hk (fun _ h => h.2)) (fun _ h => h.1))
   have n2_ := Aside0.mk (Kd.R_mono (Kd.R_keep (IsS99.apart (show IsS99 w _ g811 t809 t822 from F45.q1) (pR HO825) (by decide)) hk (fun _ h => h.2)) (fun _ h => h.1))
   have n3_ := Aside0.mk (hb)
   have n4_ := Aside0.mk (hi)
   clear HO814
   clear HO817
   clear HO825
   clear HB
   clear HI811
   have HO814 := n0_
   have HO817 := n1_
   have HO825 := n2_
   have HB := n3_
   have HI811 := n4_
   clear n0_ n1_ n2_ n3_ n4_
   (try clear hb)
   (try clear hb2)
   (try clear hk)
   (try clear hi)
   refine hK.out _ _ trivial (fun hHeld => ?_)
   clear hK K
   refine norm_ (a' := ?_) ?_ ?_
   rotate_left
   ·show Act.put _ (some 28) _ = _
    exact pP
   refine pv 8 (some 2) HT_ rfl rfl pL ?_
   refine pv 9 (some 3) HT_ rfl rfl pL ?_
   refine pv 10 (some 4) HT_ rfl rfl pL ?_
   exact norm_ (by simp only [putAll, Act.put, List.setIfInBounds_toArray, List.set_cons_zero, List.set_cons_succ]) (hCont (.slice (some ado18) y823.length co18, ado18) _ ⟨(by (with_reducible repeat (first | apply Kd.N_alloc | apply Kd.N_drewN | apply Kd.N_drew)); exact Kd.N_mono HO814.out (fun _ hk => ⟨hk.1.1, ⟨hk.1.2.1, ⟨hk.2, hk.1.2.2⟩⟩⟩)), (by (with_reducible repeat (first | apply Kd.R_alloc | apply Kd.R_drewN | apply Kd.R_drew)); exact Kd.R_mono HO817.out (fun _ hk => hk.1)), (by (with_reducible repeat (first | apply Kd.R_alloc | apply Kd.R_drewN | apply Kd.R_drew)); exact Kd.R_mono HO825.out (fun _ hk => hk.1)), ⟨_, rfl⟩, F45.q1, F45.q0⟩)
  ·skip
   refine goes_ Try.func55 pL rfl #[.pointer (some ⟨g811, 0, none⟩), .int .i64 4] (by rfl) rfl rfl pM ?_
   with_reducible refine (spec_l6Rd_pick.calls k g811 t809 t822 4 t826 t827 w _ ?side1 ?side2 A7.out).mono ?_
   (case side1 => exact F45.q1)
   (case side2 => exact F45.q0)
   rintro e w16 ⟨rfl, hi, hb, hk⟩
   refine ⟨_, rfl, ?_⟩
   have n0_ := Aside0.mk (Kd.N_mono (Kd.N_keep (Kd.N_mono (ok := fun k_ => (((w.heap.size ≤ k_)) ∧ (some k_ ≠ (v816 : Value).ownBlock ∧ k_ ≠ g811))) F45.q2 (fun k_ hk_ => (⟨hk_, hk_.2.2⟩ : _ ∧ k_ ≠ g811))) hk (fun _ h => h.2)) (fun _ h => h.1))
   have n1_ := Aside0.mk (Kd.R_mono (Kd.R_keep (IsS99.apart (show IsS99 w _ g811 t809 t822 from F45.q1) (pR HO817) (by decide)) hk (fun _ h => h.2)) (fun _ h => h.1))
   have n2_ := Aside0.mk (hb)
   have n3_ := Aside0.mk (hi)
   clear HO814
   clear HO817
   clear HB
   clear HI811
   have HO814 := n0_
   have HO817 := n1_
   have HB := n2_
   have HI811 := n3_
   clear n0_ n1_ n2_ n3_
   (try clear hb)
   (try clear hb2)
   (try clear hk)
   (try clear hi)
   refine hK.out _ _ trivial (fun hHeld => ?_)
   clear hK K
   refine norm_ (a' := ?_) ?_ ?_
   rotate_left
   ·show Act.put _ (some 28) _ = _
    exact pP
   refine pv 8 (some 2) HT_ rfl rfl pL ?_
   refine pv 9 (some 3) HT_ rfl rfl pL ?_
   refine pv 10 (some 4) HT_ rfl rfl pL ?_
   refine one_ (i := 3) (N := some 26) #[true, true, true, true, true, true, false, false, true, true, true, false] rfl rfl (one_of HT_.out pL) (by decide) (fun K hK => ?_)
   refine Kd.R_lit_step (Kd.int .i64) _ 3 ?hg (N := 26) ?hd (xs := ([(-1), 0, 300, 301] : List Int)) (inner := [.int .i64 (-1), .int .i64 0, .int .i64 300, .int .i64 301]) (ok := fun _ => True) (okp := fun _ => True) ?hr ?hp (fun _ hk => hk) trivial (Below.refl _ _) (Nat.le_refl _) (by simp) ?_; (case hd => rfl); (case hg => rfl); (case hr => first | (go_simp; done) | (go_simp; rfl)); (case hp => exact (Reps.one (show Kd.M (Kd.int .i64) _ _ _ (-1) [.int .i64 (-1)] from rfl) (Reps.one (show Kd.M (Kd.int .i64) _ _ _ 0 [.int .i64 0] from rfl) (Reps.one (show Kd.M (Kd.int .i64) _ _ _ 300 [.int .i64 300] from rfl) (Reps.one (show Kd.M (Kd.int .i64) _ _ _ 301 [.int .i64 301] from rfl) (Reps.none _ _))))))
   intro v824 w17 ho18 hb hg_ hnew_
   clear hg_ hnew_
   (first | rw [← Ny823.out] at ho18 | (simp only [Int.reduceToNat] at ho18; rw [← Ny823.out] at ho18))
   have n0_ := Aside0.mk (Kd.N_elder' F45.q2 (Kd.R_base ho18) hb)
   have n1_ := Aside0.mk (Kd.R_below (pR HO817) hb)
   have n2_ := Aside0.mk (Kd.R_lower (Kd.R_newM (M := fun k_ => (w.heap.size ≤ k_)) ho18 (below_size F45.q0) (fun k_ h_ => h_)) (below_size F45.q0))
   have n3_ := Aside0.mk (IsS99.below F45.q1 hb)
   have n4_ := Aside0.mk (below_step F45.q0 hb)
   clear HO814
   clear HO817
   clear HI811
   clear HB
   have HO814 := n0_
   have HO817 := n1_
   have HO825 := n2_
   have HI811 := n3_
   have HB := n4_
   clear n0_ n1_ n2_ n3_ n4_
   clear hb ho18
   obtain ⟨Ao19, co19, eo19⟩ := Kd.R_slice HO825.out
   subst eo19
   obtain ⟨ado19, fo19, _⟩ := Kd.at_int (Kd.R_reads' HO825.out).2.2 0 (by decide) (by rw [Ny823.out]; simp)
   cases fo19
   refine hK.out _ _ trivial (fun hHeld => ?_)
   clear hK K
   refine norm_ (a' := ?_) ?_ ?_
   rotate_left
   ·show Act.put _ (some 26) _ = _
    exact pP
   exact norm_ (by simp only [putAll, Act.put, List.setIfInBounds_toArray, List.set_cons_zero, List.set_cons_succ]) (hCont (.slice (some ado19) y823.length co19, ado19) _ ⟨(by (with_reducible repeat (first | apply Kd.N_alloc | apply Kd.N_drewN | apply Kd.N_drew)); exact Kd.N_mono HO814.out (fun _ hk => ⟨hk.1.1, ⟨hk.1.2.1, ⟨hk.2, hk.1.2.2⟩⟩⟩)), (by (with_reducible repeat (first | apply Kd.R_alloc | apply Kd.R_drewN | apply Kd.R_drew)); exact Kd.R_mono HO817.out (fun _ hk => hk.1)), (by (with_reducible repeat (first | apply Kd.R_alloc | apply Kd.R_drewN | apply Kd.R_drew)); exact Kd.R_mono HO825.out (fun _ hk => hk.1)), ⟨_, rfl⟩, F45.q1, F45.q0⟩)
 rintro ⟨v824, adz_v824⟩ w20 ⟨h0_, h1_, h2_, h3_, h4_, h5_⟩
 have n0_ : Aside0 (Kd.N k29 29 w20 w.heap.size (fun k_ => (w.heap.size ≤ k_) ∧ some k_ ≠ (v816 : Value).ownBlock ∧ some k_ ≠ (v824 : Value).ownBlock ∧ k_ ≠ g811) (.slice Ao12 t812.length co12) t812) := ⟨h0_⟩
 have n1_ : Aside0 (Kd.R k63 63 w20 w.heap.size (fun k_ => (w.heap.size ≤ k_)) v816 t815) := ⟨h1_⟩
 have n2_ : Aside0 (Kd.R (Kd.int .i64) 3 w20 w.heap.size (fun k_ => (w.heap.size ≤ k_)) v824 y823) := ⟨h2_⟩
 have n3_ : Aside0 (∃ c_, (v824 : Value) = .slice (some adz_v824) y823.length c_) := ⟨h3_⟩
 have n4_ : Aside0 (IsS99 w w20 g811 t809 t827) := ⟨h4_⟩
 have n5_ : Aside0 (Below w.heap.size w w20) := ⟨h5_⟩
 clear HO814
 clear HO817
 clear HI811
 clear HB
 clear h0_ h1_ h2_ h3_ h4_ h5_
 have HO814 := n0_
 have HO817 := n1_
 have HO825 := n2_
 have HA_HO825 := n3_
 have HI811 := n4_
 have HB := n5_
 clear n0_ n1_ n2_ n3_ n4_ n5_
 have hHeld := trivial
 obtain ⟨co21, eo21⟩ := HA_HO825.out
 clear HA_HO825
 subst eo21
 refine norm_ (a' := ?_) ?_ ?_
 rotate_left
 ·simp only [putAll, Act.put, List.setIfInBounds_toArray, List.set_cons_zero, List.set_cons_succ]
  rfl
 refine pv 6 (some 29) HT_ rfl rfl pL ?_
 refine one_ (i := 7) (N := some 30) #[true, true, true, true, true, true, true, true, true, true, true, false] rfl rfl (one_of HT_.out pL) (by decide) (fun K hK => ?_)
 (have p828 : 0 ≤ (t826 : Int) := of_decide_eq_true pA; have q828 : t826 < (y823.length : Int) := of_decide_eq_true pA; obtain ⟨ad828, e828, hx828_0⟩ := Kd.at_int (Kd.R_reads' HO825.out).2.2 t826 p828 q828; obtain rfl : adz_v824 = ad828 := (by injection e828))
 refine value_ (w1 := ?_) (v := ?_) (by rfl) rfl ?_ ?_
 rotate_left 2
 ·go_simp
  constructor
  ·rfl
  ·rfl
 clear hx828_0
 refine hK.out _ _ trivial (fun hHeld => ?_)
 clear hK K
 refine norm_ (a' := ?_) ?_ ?_
 rotate_left
 ·show Act.put _ (some 30) _ = _
  exact pP
 refine pv 11 (some 5) HT_ rfl rfl pL ?_
 refine done_ (done_of HT_.out pL) ?_
 try go_wp2
 refine bodyPost_ret (results_list (rs := [.tmp 2, .tmp 3, .tmp 4, .tmp 5]) rfl (by simp) (.tmp (.tmp (.tmp (.tmp .nil))))) rfl ?_
 exact ⟨_, _, pE, by (with_reducible repeat (first | apply Kd.N_alloc | apply Kd.N_drewN | apply Kd.N_drew)); exact Kd.N_mono HO814.out (fun _ hk => ⟨hk.1, hk.2.1⟩), pR HO817, by repeat (first | (with_reducible first | exact HB.out | apply below_alloc | apply pw_below_drewN | apply below_drew1 | refine below_set ?_ (IsS99.ge HI811.out)) | exact HB.out)⟩
end Go.Proofs.Ytclldijjbmnkeaa.Q
