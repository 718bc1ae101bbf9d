-- Written by the kit's print.py for all laws of the seat at once (one namespace), by a program of this session.
import Derived.Test.YtglpjchpgjaanaaQx0
import Derived.Test.YtglpjchpgjaanaaQx5
import Derived.Test.YtglpjchpgjaanaaQx8
namespace Go.Proofs.Ytglpjchpgjaanaa.Q
open Go.RowKit Go.Proofs.YtglpjchpgjaanaaW.PrintWords Go.Proofs.YtglpjchpgjaanaaW.PrintLast Go.Proofs.YtglpjchpgjaanaaW.PrintMore
attribute [local go_sem] max2_int min2_int max_two min_two max_three min_three max_four min_four   -- for this text's walks alone
set_option linter.unusedVariables false
set_option linter.unusedSimpArgs false

/-! ### spec_l91Uses: function 44 -/
mutual
def spec_l91Uses.j0 : Nat → List (S40) → Int → List Int → Int → Option ((List (S40)) × Int)
 | 0, _, _, _, _ => none
 | k + 1, x3, x4, x1000, x1001 => spec_l91Uses.l0 k x3 x4 0 x1000 x1001
def spec_l91Uses.l0 : Nat → List (S40) → Int → Int → List Int → Int → Option ((List (S40)) × Int)
 | 0, _, _, _, _, _ => none
 | k + 1, x3, x4, x5, x1000, x1001 => if x5 < x4 then ((spec_l6Rd_pick.f k x1000 x1001 2).bind fun bt184 => ((spec_l6Rd_pick.f k x1000 bt184.2 4).bind fun bt186 => ((spec_l6Rd_pick.f k x1000 bt186.2 2).bind fun bt189 => (if bt189.1 = 0 then ((spec_l6Rd_pick.f k x1000 bt189.2 8).bind fun bt191 => ((spec_l3Weight.f k bt191.1).bind fun t193 => (if x3.length < 5864062014805 then (spec_l91Uses.l0 k (x3 ++ [(⟨wrap64 (1 + bt184.1), t193, (bt186.1 == 0)⟩ : S40)]) x4 (wrap64 (x5 + 1)) x1000 bt191.2) else (none)))) else (if x3.length < 5864062014805 then (spec_l91Uses.l0 k (x3 ++ [(⟨wrap64 (1 + bt184.1), 0, (bt186.1 == 0)⟩ : S40)]) x4 (wrap64 (x5 + 1)) x1000 bt189.2) else (none)))))) else (if x4 > 0 then ((spec_l6Rd_pick.f k x1000 x1001 24).bind fun bt200 => (spec_l91Uses.j2 k x3 x4 (bt200.1 == 0) x1000 bt200.2)) else (spec_l91Uses.j2 k x3 x4 false x1000 x1001))
def spec_l91Uses.j2 : Nat → List (S40) → Int → Bool → List Int → Int → Option ((List (S40)) × Int)
 | 0, _, _, _, _, _ => none
 | k + 1, x3, x4, x45, x1000, x1001 => if x45 = true then ((spec_l6Rd_pick.f k x1000 x1001 x4).bind fun bt202 => ((some (([0, 4, 5] : List Int) : List Int)).bind fun y204 => ((spec_l6Rd_pick.f k x1000 bt202.2 3).bind fun bt207 => (if 0 ≤ bt207.1 then (if bt207.1 < (y204.length : Int) then ((some (([(-1), 255, 256] : List Int) : List Int)).bind fun y210 => ((spec_l6Rd_pick.f k x1000 bt207.2 3).bind fun bt213 => (if 0 ≤ bt213.1 then (if bt213.1 < (y210.length : Int) then (if 0 ≤ bt202.1 then (if bt202.1 < (x3.length : Int) then (some ((x3.set (bt202.1 : Int).toNat (⟨rd y204 bt207.1, rd y210 bt213.1, false⟩ : S40)), bt213.2)) else (none)) else (none)) else (none)) else (none)))) else (none)) else (none))))) else (some (x3, x1001))
end
def spec_l91Uses.f (k : Nat) (s0_0 : List Int) (s0_1 : Int) : Option ((List (S40)) × Int) := (some (([] : List (S40)) : List (S40))).bind fun y175 => ((spec_l6Rd_pick.f k s0_0 s0_1 10).bind fun bt178 => ((spec_l6Rd_pick.f k s0_0 bt178.2 20).bind fun bt180 => (if bt180.1 = 0 then ((spec_l6Rd_pick.f k s0_0 bt180.2 3).bind fun bt182 => (spec_l91Uses.j0 k y175 (wrap64 (15 + bt182.1)) s0_0 bt182.2)) else (spec_l91Uses.j0 k y175 bt178.1 s0_0 bt180.2))))
theorem spec_l91Uses.mono_l : ∀ k, (∀ y0 y1 y2 y3, LeO (spec_l91Uses.j0 k y0 y1 y2 y3) (spec_l91Uses.j0 (k + 1) y0 y1 y2 y3)) ∧ (∀ y0 y1 y2 y3 y4, LeO (spec_l91Uses.l0 k y0 y1 y2 y3 y4) (spec_l91Uses.l0 (k + 1) y0 y1 y2 y3 y4)) ∧ (∀ y0 y1 y2 y3 y4, LeO (spec_l91Uses.j2 k y0 y1 y2 y3 y4) (spec_l91Uses.j2 (k + 1) y0 y1 y2 y3 y4))
 | 0 => ⟨fun _ _ _ _ r h => by simp [spec_l91Uses.j0] at h, fun _ _ _ _ _ r h => by simp [spec_l91Uses.l0] at h, fun _ _ _ _ _ r h => by simp [spec_l91Uses.j2] at h⟩
 | k + 1 => by
  obtain ⟨ih0, ih1, ih2⟩ := spec_l91Uses.mono_l k
  refine ⟨?_, ?_, ?_⟩
  ·intro y0 y1 y2 y3
   unfold spec_l91Uses.j0
   repeat' first
   | (with_reducible exact ih0 _ _ _ _)
   | (with_reducible exact ih1 _ _ _ _ _)
   | (with_reducible exact ih2 _ _ _ _ _)
   | (with_reducible exact spec_l3Weight.mono _ _)
   | (with_reducible exact spec_l6Rd_pick.mono _ _ _ _)
   | (with_reducible exact LeO.refl _)
   | (with_reducible exact LeO.none _)
   | (with_reducible refine LeO.ite ?_ ?_)
   | (with_reducible refine LeO.bind ?_ (fun _ => ?_))
   | exact ih0 _ _ _ _
   | exact ih1 _ _ _ _ _
   | exact ih2 _ _ _ _ _
   | exact spec_l3Weight.mono _ _
   | exact spec_l6Rd_pick.mono _ _ _ _
   | exact LeO.none _
   | refine LeO.ite ?_ ?_
   | refine LeO.bind ?_ (fun _ => ?_)
  ·intro y0 y1 y2 y3 y4
   unfold spec_l91Uses.l0
   repeat' first
   | (with_reducible exact ih0 _ _ _ _)
   | (with_reducible exact ih1 _ _ _ _ _)
   | (with_reducible exact ih2 _ _ _ _ _)
   | (with_reducible exact spec_l3Weight.mono _ _)
   | (with_reducible exact spec_l6Rd_pick.mono _ _ _ _)
   | (with_reducible exact LeO.refl _)
   | (with_reducible exact LeO.none _)
   | (with_reducible refine LeO.ite ?_ ?_)
   | (with_reducible refine LeO.bind ?_ (fun _ => ?_))
   | exact ih0 _ _ _ _
   | exact ih1 _ _ _ _ _
   | exact ih2 _ _ _ _ _
   | exact spec_l3Weight.mono _ _
   | exact spec_l6Rd_pick.mono _ _ _ _
   | exact LeO.none _
   | refine LeO.ite ?_ ?_
   | refine LeO.bind ?_ (fun _ => ?_)
  ·intro y0 y1 y2 y3 y4
   unfold spec_l91Uses.j2
   repeat' first
   | (with_reducible exact ih0 _ _ _ _)
   | (with_reducible exact ih1 _ _ _ _ _)
   | (with_reducible exact ih2 _ _ _ _ _)
   | (with_reducible exact spec_l3Weight.mono _ _)
   | (with_reducible exact spec_l6Rd_pick.mono _ _ _ _)
   | (with_reducible exact LeO.refl _)
   | (with_reducible exact LeO.none _)
   | (with_reducible refine LeO.ite ?_ ?_)
   | (with_reducible refine LeO.bind ?_ (fun _ => ?_))
   | exact ih0 _ _ _ _
   | exact ih1 _ _ _ _ _
   | exact ih2 _ _ _ _ _
   | exact spec_l3Weight.mono _ _
   | exact spec_l6Rd_pick.mono _ _ _ _
   | exact LeO.none _
   | refine LeO.ite ?_ ?_
   | refine LeO.bind ?_ (fun _ => ?_)
theorem spec_l91Uses.mono : ∀ a0 a1 k, LeO (spec_l91Uses.f k a0 a1) (spec_l91Uses.f (k + 1) a0 a1) := by
 intro a0 a1 k
 obtain ⟨ih0, ih1, ih2⟩ := spec_l91Uses.mono_l k
 unfold spec_l91Uses.f
 repeat' first
   | (with_reducible exact ih0 _ _ _ _)
   | (with_reducible exact ih1 _ _ _ _ _)
   | (with_reducible exact ih2 _ _ _ _ _)
   | (with_reducible exact spec_l3Weight.mono _ _)
   | (with_reducible exact spec_l6Rd_pick.mono _ _ _ _)
   | (with_reducible exact LeO.refl _)
   | (with_reducible exact LeO.none _)
   | (with_reducible refine LeO.ite ?_ ?_)
   | (with_reducible refine LeO.bind ?_ (fun _ => ?_))
   | exact ih0 _ _ _ _
   | exact ih1 _ _ _ _ _
   | exact ih2 _ _ _ _ _
   | exact spec_l3Weight.mono _ _
   | exact spec_l6Rd_pick.mono _ _ _ _
   | exact LeO.none _
   | refine LeO.ite ?_ ?_
   | refine LeO.bind ?_ (fun _ => ?_)
def spec_l91Uses.T13 : Bool × List (List Nat × List Nat) := (true, [([], []), ([], []), ([], []), ([1, 2], [1, 2]), ([], []), ([], []), ([5, 3], [5]), ([4, 6], [4, 6]), ([7], [7]), ([], []), ([], []), ([10, 6], [10]), ([9, 11], [9, 11]), ([12], [12]), ([8, 13], [8, 13]), ([0, 3, 0, 1, 2, 3, 4, 5, 6, 7, 8, 9, 10, 11, 12, 13, 14], [0, 3]), ([15, 14, 11, 0, 1, 2, 3, 4, 5, 6, 7, 8, 9, 10, 11, 12, 13, 14], [14, 15])])
def spec_l91Uses.B13 : List Nat := [0, 0, 0, 6, 0, 0, 46, 126, 254, 0, 0, 1134, 3694, 7790, 16382, 32767, 65535]
theorem spec_l91Uses.tab13 : rtab .any (opsOf Try.f44 13) = spec_l91Uses.T13 := by kernel_rfl
theorem spec_l91Uses.bits13 : waitsOk spec_l91Uses.T13.2 spec_l91Uses.B13 = true := by kernel_rfl
set_option maxHeartbeats 8000000 in
set_option maxRecDepth 100000 in
theorem spec_l91Uses.calls (k : Nat) (g : Nat) (s0_0 : List Int) (s0_1 : Int) (r1 : List (S40)) (r2 : Int) (w0 w : World) (hI : IsS62 w0 w g s0_0 s0_1) (hB : Below w0.heap.size w0 w) (h : spec_l91Uses.f k s0_0 s0_1 = some (r1, r2)) :
  Calls Try.prog 44 #[.pointer (some ⟨g, 0, none⟩)] w fun e w' => ∃ v0_ : Value, e = .returned (v0_) ∧ Kd.R k40 40 w' w.heap.size (fun _ => True) v0_ r1 ∧ IsS62 w0 w' g s0_0 r2 ∧ Below w0.heap.size w0 w' ∧ KeepBut w w' g none := by
 have hu40 := Try.underlying40
 have HI0 := Aside0.mk hI
 have HK := Aside0.mk (KeepBut.refl w g none)
 have HL := Aside0.mk hB.size
 clear hI
 have HW0 := Aside0.mk hB.size
 have HB := Aside0.mk hB
 clear hB
 have H : ((some (([] : List (S40)) : List (S40))).bind fun y175 => ((spec_l6Rd_pick.f k s0_0 s0_1 10).bind fun bt178 => ((spec_l6Rd_pick.f k s0_0 bt178.2 20).bind fun bt180 => (if bt180.1 = 0 then ((spec_l6Rd_pick.f k s0_0 bt180.2 3).bind fun bt182 => (spec_l91Uses.j0 k y175 (wrap64 (15 + bt182.1)) s0_0 bt182.2)) else (spec_l91Uses.j0 k y175 bt178.1 s0_0 bt180.2))))) = some (r1, r2) := h
 clear h
 obtain ⟨y175, hy175⟩ : ∃ y_ : List (S40), y_ = (([] : List (S40))) := ⟨_, rfl⟩
 replace H : ((spec_l6Rd_pick.f k s0_0 s0_1 10).bind fun bt178 => ((spec_l6Rd_pick.f k s0_0 bt178.2 20).bind fun bt180 => (if bt180.1 = 0 then ((spec_l6Rd_pick.f k s0_0 bt180.2 3).bind fun bt182 => (spec_l91Uses.j0 k y175 (wrap64 (15 + bt182.1)) s0_0 bt182.2)) else (spec_l91Uses.j0 k y175 bt178.1 s0_0 bt180.2)))) = some (r1, r2) := by first | (rw [hy175]; with_reducible exact H) | (have H2_ := (Option.bind_some _ _).symm.trans H; rw [hy175]; with_reducible exact H2_) | (have H2_ := (Option.bind_some _ _).symm.trans H; with_reducible exact H2_) | with_reducible exact H | (rw [hy175]; exact H) | exact H
 have Ny175 := Aside0.mk hy175
 clear hy175
 replace H := Option.bind_eq_some_iff.mp H
 obtain ⟨⟨t178, t179⟩, A20, H⟩ := H
 replace H : ((spec_l6Rd_pick.f k s0_0 t179 20).bind fun bt180 => (if bt180.1 = 0 then ((spec_l6Rd_pick.f k s0_0 bt180.2 3).bind fun bt182 => (spec_l91Uses.j0 k y175 (wrap64 (15 + bt182.1)) s0_0 bt182.2)) else (spec_l91Uses.j0 k y175 t178 s0_0 bt180.2))) = some (r1, r2) := H
 have A2 := Aside0.mk A20
 clear A20
 replace H := Option.bind_eq_some_iff.mp H
 obtain ⟨⟨t180, t181⟩, A30, H⟩ := H
 replace H : (if t180 = 0 then ((spec_l6Rd_pick.f k s0_0 t181 3).bind fun bt182 => (spec_l91Uses.j0 k y175 (wrap64 (15 + bt182.1)) s0_0 bt182.2)) else (spec_l91Uses.j0 k y175 t178 s0_0 t181)) = some (r1, r2) := H
 have A3 := Aside0.mk A30
 clear A30
 have HC4 := Aside0.mk H
 clear H
 go_enter Try.func44, Try.ntmps44
 go_upto_if 12 with (first | ((with_reducible refine gate_dst (N := 7) rfl ?_); refine Kd.R_lit k40 _ 40 ?hg (N := 7) ?hd (xs := ([] : List (S40))) (inner := []) (ok := fun _ => True) (okp := fun _ => True) ?hr ?hp (fun _ hk => hk) trivial (Below.refl _ _) (Nat.le_refl _) (by simp) ?_; (case hd => rfl); (case hg => rfl); (case hr => first | (go_simp; done) | (go_simp; rfl)); (case hp => exact (Reps.none _ _)); intro v176 w5 ho6 hb hg_ hnew_; clear hg_ hnew_; (first | rw [← Ny175.out] at ho6 | (simp only [Int.reduceToNat] at ho6; rw [← Ny175.out] at ho6)); have n0_ := Aside0.mk (Kd.R_lower ho6 (keep_size (w := w) (g := g) (row := none) pK)); have n1_ := Aside0.mk (IsS62.below (by repeat (first | (with_reducible first | exact HI0.out | apply IsS62.alloc | apply IsS62.drewN | apply IsS62.drew | apply IsS62.set_1) | exact HI0.out)) hb); have n2_ := Aside0.mk (KeepBut.trans pK (KeepBut.of_below hb g none) (.inl rfl)); have n3_ := Aside0.mk (below_step (by repeat (first | (with_reducible first | exact HB.out | apply below_alloc | apply pw_below_drewN | apply below_drew1 | refine below_set ?_ (IsS62.ge HI0.out)) | exact HB.out)) hb); clear HI0; clear HK; clear HB; have HO177 := n0_; have HI0 := n1_; have HK := n2_; have HB := n3_; clear n0_ n1_ n2_ n3_; clear hb ho6) | ((with_reducible refine gate_callee (f := 46) rfl ?_); refine goesL_ (some 9) rfl rfl Try.func46 pL rfl #[.pointer (some ⟨g, 0, none⟩), .int .i64 10] rfl pM ?_; (with_reducible refine (spec_l6Rd_pick.calls k g s0_0 s0_1 10 t178 t179 w0 _ ?side1 ?side2 A2.out).mono ?_); (case side1 => repeat (first | (with_reducible first | exact HI0.out | apply IsS62.alloc | apply IsS62.drewN | apply IsS62.drew | apply IsS62.set_1) | exact HI0.out)); (case side2 => repeat (first | (with_reducible first | exact HB.out | apply below_alloc | apply pw_below_drewN | apply below_drew1 | refine below_set ?_ (IsS62.ge HI0.out)) | exact HB.out)); rintro e w7 ⟨rfl, hi, hb, hk⟩; refine ⟨_, rfl, ?_⟩; have n0_ := Aside0.mk (Kd.R_mono (Kd.R_keep (IsS62.apart (show IsS62 w0 _ g s0_0 s0_1 from by repeat (first | (with_reducible first | exact HI0.out | apply IsS62.alloc | apply IsS62.drewN | apply IsS62.drew | apply IsS62.set_1) | exact HI0.out)) (pR HO177) (by decide)) hk (fun _ h => h.2)) (fun _ h => h.1)); have n1_ := Aside0.mk (KeepBut.trans pK hk (.inl rfl)); have n2_ := Aside0.mk (hb); have n3_ := Aside0.mk (hi); clear HO177; clear HK; clear HB; clear HI0; have HO177 := n0_; have HK := n1_; have HB := n2_; have HI0 := n3_; clear n0_ n1_ n2_ n3_; (try clear hb); (try clear hb2); (try clear hk); (try clear hi)) | ((with_reducible refine gate_callee (f := 46) rfl ?_); refine goesL_ (some 11) rfl rfl Try.func46 pL rfl #[.pointer (some ⟨g, 0, none⟩), .int .i64 20] rfl pM ?_; (with_reducible refine (spec_l6Rd_pick.calls k g s0_0 t179 20 t180 t181 w0 _ ?side1 ?side2 A3.out).mono ?_); (case side1 => repeat (first | (with_reducible first | exact HI0.out | apply IsS62.alloc | apply IsS62.drewN | apply IsS62.drew | apply IsS62.set_1) | exact HI0.out)); (case side2 => repeat (first | (with_reducible first | exact HB.out | apply below_alloc | apply pw_below_drewN | apply below_drew1 | refine below_set ?_ (IsS62.ge HI0.out)) | exact HB.out)); rintro e w8 ⟨rfl, hi, hb, hk⟩; refine ⟨_, rfl, ?_⟩; have n0_ := Aside0.mk (Kd.R_mono (Kd.R_keep (IsS62.apart (show IsS62 w0 _ g s0_0 t179 from by repeat (first | (with_reducible first | exact HI0.out | apply IsS62.alloc | apply IsS62.drewN | apply IsS62.drew | apply IsS62.set_1) | exact HI0.out)) (pR HO177) (by decide)) hk (fun _ h => h.2)) (fun _ h => h.1)); have n1_ := Aside0.mk (KeepBut.trans pK hk (.inl rfl)); have n2_ := Aside0.mk (hb); have n3_ := Aside0.mk (hi); clear HO177; clear HK; clear HB; clear HI0; have HO177 := n0_; have HK := n1_; have HB := n2_; have HI0 := n3_; clear n0_ n1_ n2_ n3_; (try clear hb); (try clear hb2); (try clear hk); (try clear hi)))
 (try simp only [Act.put, List.setIfInBounds_toArray, List.set_cons_zero, List.set_cons_succ])
 go_cut [4] (fun v4 wc => ∃ (kq : Nat) (x4_3 : Int) (x1001_3 : Int), v4 = .int .i64 x4_3 ∧ Aside0 (spec_l91Uses.j0 kq y175 x4_3 s0_0 x1001_3 = some (r1, r2)) ∧ Aside0 (kq ≤ k) ∧ Aside0 (Kd.R k40 40 wc w.heap.size (fun _ => True) v176 y175) ∧ Aside0 (IsS62 w0 wc g s0_0 x1001_3) ∧ Aside0 (KeepBut w wc g none) ∧ Aside0 (Below w0.heap.size w0 wc))
 case first =>
  have H := HC4.out
  clear HC4
  by_cases c9 : t180 = 0
  ·rw [if_pos c9] at H
   have c9b0 : (t180 == 0) = true := beq_iff_eq.mpr c9
   have c9b1 : (t180 != 0) = false := bne_eq_false_iff_eq.mpr c9
   clear c9
   (first | rw [c9b0] | (simp only [i64_w, i32_w]; rw [c9b0]) | skip)
   replace H := Option.bind_eq_some_iff.mp H
   obtain ⟨⟨t182, t183⟩, A100, H⟩ := H
   replace H : (spec_l91Uses.j0 k y175 (wrap64 (15 + t182)) s0_0 t183) = some (r1, r2) := H
   have A10 := Aside0.mk A100
   clear A100
   have H' := Aside0.mk H
   clear H
   go_wp2_with (first | ((with_reducible refine gate_callee (f := 46) rfl ?_); refine goesL_ (some 14) rfl rfl Try.func46 pL rfl #[.pointer (some ⟨g, 0, none⟩), .int .i64 3] rfl pM ?_; (with_reducible refine (spec_l6Rd_pick.calls k g s0_0 t181 3 t182 t183 w0 _ ?side1 ?side2 A10.out).mono ?_); (case side1 => repeat (first | (with_reducible first | exact HI0.out | apply IsS62.alloc | apply IsS62.drewN | apply IsS62.drew | apply IsS62.set_1) | exact HI0.out)); (case side2 => repeat (first | (with_reducible first | exact HB.out | apply below_alloc | apply pw_below_drewN | apply below_drew1 | refine below_set ?_ (IsS62.ge HI0.out)) | exact HB.out)); rintro e w11 ⟨rfl, hi, hb, hk⟩; refine ⟨_, rfl, ?_⟩; have n0_ := Aside0.mk (Kd.R_mono (Kd.R_keep (IsS62.apart (show IsS62 w0 _ g s0_0 t181 from by repeat (first | (with_reducible first | exact HI0.out | apply IsS62.alloc | apply IsS62.drewN | apply IsS62.drew | apply IsS62.set_1) | exact HI0.out)) (pR HO177) (by decide)) hk (fun _ h => h.2)) (fun _ h => h.1)); have n1_ := Aside0.mk (KeepBut.trans pK hk (.inl rfl)); have n2_ := Aside0.mk (hb); have n3_ := Aside0.mk (hi); clear HO177; clear HK; clear HB; clear HI0; have HO177 := n0_; have HK := n1_; have HB := n2_; have HI0 := n3_; clear n0_ n1_ n2_ n3_; (try clear hb); (try clear hb2); (try clear hk); (try clear hi)))
   go_meet
   case rel => exact ⟨_, (wrap64 (15 + t182)), (t183), pF, H', ⟨by first | omega | exact Nat.le_refl _⟩, ⟨pR HO177⟩, ⟨by repeat (first | (with_reducible first | exact HI0.out | apply IsS62.alloc | apply IsS62.drewN | apply IsS62.drew | apply IsS62.set_1) | exact HI0.out)⟩, ⟨pK⟩, ⟨by repeat (first | (with_reducible first | exact HB.out | apply below_alloc | apply pw_below_drewN | apply below_drew1 | refine below_set ?_ (IsS62.ge HI0.out)) | exact HB.out)⟩⟩
  ·rw [if_neg c9] at H
   have c9b0 : (t180 == 0) = false := beq_eq_false_iff_ne.mpr c9
   have c9b1 : (t180 != 0) = true := bne_iff_ne.mpr c9
   (first | rw [c9b0] | (simp only [i64_w, i32_w]; rw [c9b0]) | skip)
   have H' := Aside0.mk H
   clear H
   go_wp2
   go_meet
   case rel => exact ⟨_, (t178), (t181), pF, H', ⟨by first | omega | exact Nat.le_refl _⟩, ⟨pR HO177⟩, ⟨by repeat (first | (with_reducible first | exact HI0.out | apply IsS62.alloc | apply IsS62.drewN | apply IsS62.drew | apply IsS62.set_1) | exact HI0.out)⟩, ⟨pK⟩, ⟨by repeat (first | (with_reducible first | exact HB.out | apply below_alloc | apply pw_below_drewN | apply below_drew1 | refine below_set ?_ (IsS62.ge HI0.out)) | exact HB.out)⟩⟩
 case rest =>
  clear HC4
  try clear p2
  try clear c4
  try clear p6
  try clear c9
  try clear c9b0
  try clear c9b1
  obtain ⟨kq, x4_3, x1001_3, rfl, HA, HJ3, HO_3, HI0, HK, HB⟩ := hcut
  cases kq with
  | zero => exact absurd HA.out (by simp [spec_l91Uses.j0])
  | succ kj3 =>
   have H := HA.out
   clear HA
   simp only [spec_l91Uses.j0] at H
   have H' := Aside0.mk H
   clear H
   go_wp2
   go_loopg [3, 5] kj3 (fun kq v3 v5 w' => ∃ (x3_2 : List (S40)) (x5_2 : Int) (x1001_2 : Int), v5 = .int .i64 x5_2 ∧ Aside0 (spec_l91Uses.l0 kq x3_2 x4_3 x5_2 s0_0 x1001_2 = some (r1, r2)) ∧ Aside0 (kq ≤ kj3) ∧ Aside0 (Kd.R k40 40 w' w.heap.size (fun _ => True) v3 x3_2) ∧ Aside0 (IsS62 w0 w' g s0_0 x1001_2) ∧ Aside0 (KeepBut w w' g none) ∧ Aside0 (Below w0.heap.size w0 w'))
   case atStart => exact ⟨(y175), (0), (x1001_3), pF, H', ⟨Nat.le_refl _⟩, ⟨pR HO_3⟩, ⟨by repeat (first | (with_reducible first | exact HI0.out | apply IsS62.alloc | apply IsS62.drewN | apply IsS62.drew | apply IsS62.set_1) | exact HI0.out)⟩, ⟨pK⟩, ⟨by repeat (first | (with_reducible first | exact HB.out | apply below_alloc | apply pw_below_drewN | apply below_drew1 | refine below_set ?_ (IsS62.ge HI0.out)) | exact HB.out)⟩⟩
   case round =>
    clear H'
    try clear p2
    try clear c4
    try clear p6
    try clear c9
    try clear c9b0
    try clear c9b1
    try clear p2
    try clear p6
    obtain ⟨x3_2, x5_2, x1001_2, rfl, HA, HK2, HO_3, HI0, HK, HB⟩ := hrel
    cases gk with
    | zero => exact absurd HA.out (by simp [spec_l91Uses.l0])
    | succ k2 =>
     have H := HA.out
     clear HA
     simp only [spec_l91Uses.l0] at H
     by_cases c12 : x5_2 < x4_3
     ·rw [if_pos c12] at H
      have c12b0 : decide (x5_2 < x4_3) = true := decide_eq_true c12
      clear c12
      replace H := Option.bind_eq_some_iff.mp H
      obtain ⟨⟨t184, t185⟩, A130, H⟩ := H
      replace H : ((spec_l6Rd_pick.f k2 s0_0 t185 4).bind fun bt186 => ((spec_l6Rd_pick.f k2 s0_0 bt186.2 2).bind fun bt189 => (if bt189.1 = 0 then ((spec_l6Rd_pick.f k2 s0_0 bt189.2 8).bind fun bt191 => ((spec_l3Weight.f k2 bt191.1).bind fun t193 => (if x3_2.length < 5864062014805 then (spec_l91Uses.l0 k2 (x3_2 ++ [(⟨wrap64 (1 + t184), t193, (bt186.1 == 0)⟩ : S40)]) x4_3 (wrap64 (x5_2 + 1)) s0_0 bt191.2) else (none)))) else (if x3_2.length < 5864062014805 then (spec_l91Uses.l0 k2 (x3_2 ++ [(⟨wrap64 (1 + t184), 0, (bt186.1 == 0)⟩ : S40)]) x4_3 (wrap64 (x5_2 + 1)) s0_0 bt189.2) else (none))))) = some (r1, r2) := H
      have A13 := Aside0.mk A130
      clear A130
      replace H := Option.bind_eq_some_iff.mp H
      obtain ⟨⟨t186, t187⟩, A140, H⟩ := H
      replace H : ((spec_l6Rd_pick.f k2 s0_0 t187 2).bind fun bt189 => (if bt189.1 = 0 then ((spec_l6Rd_pick.f k2 s0_0 bt189.2 8).bind fun bt191 => ((spec_l3Weight.f k2 bt191.1).bind fun t193 => (if x3_2.length < 5864062014805 then (spec_l91Uses.l0 k2 (x3_2 ++ [(⟨wrap64 (1 + t184), t193, (t186 == 0)⟩ : S40)]) x4_3 (wrap64 (x5_2 + 1)) s0_0 bt191.2) else (none)))) else (if x3_2.length < 5864062014805 then (spec_l91Uses.l0 k2 (x3_2 ++ [(⟨wrap64 (1 + t184), 0, (t186 == 0)⟩ : S40)]) x4_3 (wrap64 (x5_2 + 1)) s0_0 bt189.2) else (none)))) = some (r1, r2) := H
      have A14 := Aside0.mk A140
      clear A140
      replace H := Option.bind_eq_some_iff.mp H
      obtain ⟨⟨t189, t190⟩, A150, H⟩ := H
      replace H : (if t189 = 0 then ((spec_l6Rd_pick.f k2 s0_0 t190 8).bind fun bt191 => ((spec_l3Weight.f k2 bt191.1).bind fun t193 => (if x3_2.length < 5864062014805 then (spec_l91Uses.l0 k2 (x3_2 ++ [(⟨wrap64 (1 + t184), t193, (t186 == 0)⟩ : S40)]) x4_3 (wrap64 (x5_2 + 1)) s0_0 bt191.2) else (none)))) else (if x3_2.length < 5864062014805 then (spec_l91Uses.l0 k2 (x3_2 ++ [(⟨wrap64 (1 + t184), 0, (t186 == 0)⟩ : S40)]) x4_3 (wrap64 (x5_2 + 1)) s0_0 t190) else (none))) = some (r1, r2) := H
      have A15 := Aside0.mk A150
      clear A150
      by_cases c16 : t189 = 0
      ·rw [if_pos c16] at H
       have c16b0 : (t189 == 0) = true := beq_iff_eq.mpr c16
       have c16b1 : (t189 != 0) = false := bne_eq_false_iff_eq.mpr c16
       clear c16
       replace H := Option.bind_eq_some_iff.mp H
       obtain ⟨⟨t191, t192⟩, A170, H⟩ := H
       replace H : ((spec_l3Weight.f k2 t191).bind fun t193 => (if x3_2.length < 5864062014805 then (spec_l91Uses.l0 k2 (x3_2 ++ [(⟨wrap64 (1 + t184), t193, (t186 == 0)⟩ : S40)]) x4_3 (wrap64 (x5_2 + 1)) s0_0 t192) else (none))) = some (r1, r2) := H
       have A17 := Aside0.mk A170
       clear A170
       replace H := Option.bind_eq_some_iff.mp H
       obtain ⟨t193, A180, H⟩ := H
       replace H : (if x3_2.length < 5864062014805 then (spec_l91Uses.l0 k2 (x3_2 ++ [(⟨wrap64 (1 + t184), t193, (t186 == 0)⟩ : S40)]) x4_3 (wrap64 (x5_2 + 1)) s0_0 t192) else (none)) = some (r1, r2) := H
       have A18 := Aside0.mk A180
       clear A180
       by_cases c19 : x3_2.length < 5864062014805
       ·rw [if_pos c19] at H
        have LMc19 := Aside0.mk c19
        clear c19
        obtain ⟨y194, hy194⟩ : ∃ y_ : List (S40), y_ = (x3_2 ++ [(⟨wrap64 (1 + t184), t193, (t186 == 0)⟩ : S40)]) := ⟨_, rfl⟩
        replace H : (spec_l91Uses.l0 k2 y194 x4_3 (wrap64 (x5_2 + 1)) s0_0 t192) = some (r1, r2) := by first | (rw [hy194]; with_reducible exact H) | (have H2_ := (Option.bind_some _ _).symm.trans H; rw [hy194]; with_reducible exact H2_) | (have H2_ := (Option.bind_some _ _).symm.trans H; with_reducible exact H2_) | with_reducible exact H | (rw [hy194]; exact H) | exact H
        have Ny194 := Aside0.mk hy194
        clear hy194
        have H' := Aside0.mk H
        clear H
        go_wp2_with (first | ((with_reducible refine gate_callee (f := 46) rfl ?_); refine goesL_ (some 22) rfl rfl Try.func46 pL rfl #[.pointer (some ⟨g, 0, none⟩), .int .i64 2] rfl pM ?_; (with_reducible refine (spec_l6Rd_pick.calls k2 g s0_0 x1001_2 2 t184 t185 w0 _ ?side1 ?side2 A13.out).mono ?_); (case side1 => repeat (first | (with_reducible first | exact HI0.out | apply IsS62.alloc | apply IsS62.drewN | apply IsS62.drew | apply IsS62.set_1) | exact HI0.out)); (case side2 => repeat (first | (with_reducible first | exact HB.out | apply below_alloc | apply pw_below_drewN | apply below_drew1 | refine below_set ?_ (IsS62.ge HI0.out)) | exact HB.out)); rintro e w20 ⟨rfl, hi, hb, hk⟩; refine ⟨_, rfl, ?_⟩; have n0_ := Aside0.mk (Kd.R_mono (Kd.R_keep (IsS62.apart (show IsS62 w0 _ g s0_0 x1001_2 from by repeat (first | (with_reducible first | exact HI0.out | apply IsS62.alloc | apply IsS62.drewN | apply IsS62.drew | apply IsS62.set_1) | exact HI0.out)) (pR HO_3) (by decide)) hk (fun _ h => h.2)) (fun _ h => h.1)); have n1_ := Aside0.mk (KeepBut.trans pK hk (.inl rfl)); have n2_ := Aside0.mk (hb); have n3_ := Aside0.mk (hi); clear HO_3; clear HK; clear HB; clear HI0; have HO_3 := n0_; have HK := n1_; have HB := n2_; have HI0 := n3_; clear n0_ n1_ n2_ n3_; (try clear hb); (try clear hb2); (try clear hk); (try clear hi)) | ((with_reducible refine gate_callee (f := 46) rfl ?_); refine goesL_ (some 25) rfl rfl Try.func46 pL rfl #[.pointer (some ⟨g, 0, none⟩), .int .i64 4] rfl pM ?_; (with_reducible refine (spec_l6Rd_pick.calls k2 g s0_0 t185 4 t186 t187 w0 _ ?side1 ?side2 A14.out).mono ?_); (case side1 => repeat (first | (with_reducible first | exact HI0.out | apply IsS62.alloc | apply IsS62.drewN | apply IsS62.drew | apply IsS62.set_1) | exact HI0.out)); (case side2 => repeat (first | (with_reducible first | exact HB.out | apply below_alloc | apply pw_below_drewN | apply below_drew1 | refine below_set ?_ (IsS62.ge HI0.out)) | exact HB.out)); rintro e w21 ⟨rfl, hi, hb, hk⟩; refine ⟨_, rfl, ?_⟩; have n0_ := Aside0.mk (Kd.R_mono (Kd.R_keep (IsS62.apart (show IsS62 w0 _ g s0_0 t185 from by repeat (first | (with_reducible first | exact HI0.out | apply IsS62.alloc | apply IsS62.drewN | apply IsS62.drew | apply IsS62.set_1) | exact HI0.out)) (pR HO_3) (by decide)) hk (fun _ h => h.2)) (fun _ h => h.1)); have n1_ := Aside0.mk (KeepBut.trans pK hk (.inl rfl)); have n2_ := Aside0.mk (hb); have n3_ := Aside0.mk (hi); clear HO_3; clear HK; clear HB; clear HI0; have HO_3 := n0_; have HK := n1_; have HB := n2_; have HI0 := n3_; clear n0_ n1_ n2_ n3_; (try clear hb); (try clear hb2); (try clear hk); (try clear hi)) | ((with_reducible refine gate_dst (N := 6) rfl ?_); refine box_event ?hg (N := 6) ?hd (cs := #[.int .i64 0, .int .i64 0, .bool false]) (t := 40) ?hr ?_; (case hd => rfl); (case hg => rfl); (case hr => first | (go_simp; done) | (go_simp; rfl)); intro gb188 hg w22 hbox hb; have n0_ := Aside0.mk (Kd.R_below (Kd.R_elderB (pR HO_3) gb188 (Nat.le_of_eq hg.symm)) hb); have n1_ := Aside0.mk (IsS62.below (by repeat (first | (with_reducible first | exact HI0.out | apply IsS62.alloc | apply IsS62.drewN | apply IsS62.drew | apply IsS62.set_1) | exact HI0.out)) hb); have n2_ := Aside0.mk (KeepBut.trans pK (KeepBut.of_below hb g none) (.inl rfl)); have n3_ := Aside0.mk (below_step (by repeat (first | (with_reducible first | exact HB.out | apply below_alloc | apply pw_below_drewN | apply below_drew1 | refine below_set ?_ (IsS62.ge HI0.out)) | exact HB.out)) hb); have n4_ := Aside0.mk (hbox); have n5_ := Aside0.mk ((by rw [hg]; exact (keep_size (w := w) (g := g) (row := none) pK) : w.heap.size ≤ gb188)); have n6_ := Aside0.mk ((Nat.le_trans HW0.out (by rw [hg]; exact (keep_size (w := w) (g := g) (row := none) pK) : w.heap.size ≤ gb188) : w0.heap.size ≤ gb188)); have n7_ := Aside0.mk ((by rw [hg]; exact Nat.ne_of_lt (IsS62.lt (show IsS62 w0 _ g s0_0 t187 from by repeat (first | (with_reducible first | exact HI0.out | apply IsS62.alloc | apply IsS62.drewN | apply IsS62.drew | apply IsS62.set_1) | exact HI0.out))) : g ≠ gb188)); have n8_ := Aside0.mk ((by rw [hg]; exact Nat.ne_of_gt (IsS62.lt (show IsS62 w0 _ g s0_0 t187 from by repeat (first | (with_reducible first | exact HI0.out | apply IsS62.alloc | apply IsS62.drewN | apply IsS62.drew | apply IsS62.set_1) | exact HI0.out))) : gb188 ≠ g)); clear HO_3; clear HI0; clear HK; clear HB; have HO_3 := n0_; have HI0 := n1_; have HK := n2_; have HB := n3_; have BK188 := n4_; have GW188 := n5_; have GE188 := n6_; have NB0_188 := n7_; have NB188_0 := n8_; clear n0_ n1_ n2_ n3_ n4_ n5_ n6_ n7_ n8_; clear hb hbox hg; have hnb23 := NB188_0.out; have hnc23 := NB0_188.out; have hcz24_0 : w22.cell? ⟨gb188, 0, none⟩ = some (.int .i64 0) := (blk_cell BK188.out 0).trans rfl; have hcz24_1 : w22.cell? ⟨gb188, 1, none⟩ = some (.int .i64 0) := (blk_cell BK188.out 1).trans rfl; have hcz24_2 : w22.cell? ⟨gb188, 2, none⟩ = some (.bool false) := (blk_cell BK188.out 2).trans rfl; have hfz24_0 := blk_frozen BK188.out 0; have hfz24_1 := blk_frozen BK188.out 1; have hfz24_2 := blk_frozen BK188.out 2) | ((with_reducible refine gate_callee (f := 46) rfl ?_); refine goesL_ (some 29) rfl rfl Try.func46 pL rfl #[.pointer (some ⟨g, 0, none⟩), .int .i64 2] rfl pM ?_; (with_reducible refine (spec_l6Rd_pick.calls k2 g s0_0 t187 2 t189 t190 w0 _ ?side1 ?side2 A15.out).mono ?_); (case side1 => repeat (first | (with_reducible first | exact HI0.out | apply IsS62.alloc | apply IsS62.drewN | apply IsS62.drew | apply IsS62.set_1 | refine IsS62.far ?_ NB0_188.out _) | exact HI0.out)); (case side2 => repeat (first | (with_reducible first | exact HB.out | apply below_alloc | apply pw_below_drewN | apply below_drew1 | refine below_set ?_ (IsS62.ge HI0.out) | refine below_set ?_ GE188.out) | exact HB.out)); rintro e w25 ⟨rfl, hi, hb, hk⟩; refine ⟨_, rfl, ?_⟩; have n0_ := Aside0.mk (Kd.R_mono (Kd.R_keep (IsS62.apart (show IsS62 w0 _ g s0_0 t187 from by repeat (first | (with_reducible first | exact HI0.out | apply IsS62.alloc | apply IsS62.drewN | apply IsS62.drew | apply IsS62.set_1 | refine IsS62.far ?_ NB0_188.out _) | exact HI0.out)) (by (with_reducible repeat (first | apply Kd.R_alloc | apply Kd.R_drewN | apply Kd.R_drew)); exact (Kd.R_mono (Kd.R_far (p := ⟨gb188, 2, none⟩) (Kd.R_far (p := ⟨gb188, 1, none⟩) (Kd.R_far (p := ⟨gb188, 0, none⟩) (Kd.R_mono HO_3.out (fun k_ hk => (⟨hk, hk.2⟩ : _ ∧ k_ ≠ gb188))) (fun _ hk => hk.2) (.int .i64 (wrap64 (1 + t184)))) (fun _ hk => hk.2) (.int .i64 0)) (fun _ hk => hk.2) (.bool (t186 == 0))) (fun _ h_ => h_.1))) (by decide)) hk (fun _ h => h.2)) (fun _ h => h.1)); have n1_ := Aside0.mk (KeepBut.blk hk (g' := gb188) (o := .cells #[.int .i64 (wrap64 (1 + t184)), .int .i64 0, .bool (t186 == 0)] 40 (0, 0)) (by (with_reducible repeat (first | refine blk_drewN ?_ _ | refine blk_drew ?_ | refine blk_alloc ?_ _)); refine blk_put (cs := #[.int .i64 (wrap64 (1 + t184)), .int .i64 0, .bool false]) ?_ 2 _ rfl; (with_reducible repeat (first | refine blk_drewN ?_ _ | refine blk_drew ?_ | refine blk_alloc ?_ _)); refine blk_put (cs := #[.int .i64 (wrap64 (1 + t184)), .int .i64 0, .bool false]) ?_ 1 _ rfl; (with_reducible repeat (first | refine blk_drewN ?_ _ | refine blk_drew ?_ | refine blk_alloc ?_ _)); refine blk_put (cs := #[.int .i64 0, .int .i64 0, .bool false]) ?_ 0 _ rfl; (with_reducible repeat (first | refine blk_drewN ?_ _ | refine blk_drew ?_ | refine blk_alloc ?_ _)); exact BK188.out) NB188_0.out (by simp)); have n2_ := Aside0.mk (KeepBut.trans (by repeat (first | (with_reducible first | exact HK.out | apply KeepBut.set_ | apply keep_drewN | apply keep_drew | apply keep_alloc | refine keep_far ?_ GW188.out _) | exact HK.out)) hk (.inl rfl)); have n3_ := Aside0.mk (hb); have n4_ := Aside0.mk (hi); clear HO_3; clear BK188; clear HK; clear HB; clear HI0; have HO_3 := n0_; have BK188 := n1_; have HK := n2_; have HB := n3_; have HI0 := n4_; clear n0_ n1_ n2_ n3_ n4_; (try clear hb); (try clear hb2); (try clear hk); (try clear hi)) | ((with_reducible refine gate_callee (f := 46) rfl ?_); refine goesL_ (some 32) rfl rfl Try.func46 pL rfl #[.pointer (some ⟨g, 0, none⟩), .int .i64 8] rfl pM ?_; (with_reducible refine (spec_l6Rd_pick.calls k2 g s0_0 t190 8 t191 t192 w0 _ ?side1 ?side2 A17.out).mono ?_); (case side1 => repeat (first | (with_reducible first | exact HI0.out | apply IsS62.alloc | apply IsS62.drewN | apply IsS62.drew | apply IsS62.set_1 | refine IsS62.far ?_ NB0_188.out _) | exact HI0.out)); (case side2 => repeat (first | (with_reducible first | exact HB.out | apply below_alloc | apply pw_below_drewN | apply below_drew1 | refine below_set ?_ (IsS62.ge HI0.out) | refine below_set ?_ GE188.out) | exact HB.out)); rintro e w26 ⟨rfl, hi, hb, hk⟩; refine ⟨_, rfl, ?_⟩; have n0_ := Aside0.mk (Kd.R_mono (Kd.R_keep (IsS62.apart (show IsS62 w0 _ g s0_0 t190 from by repeat (first | (with_reducible first | exact HI0.out | apply IsS62.alloc | apply IsS62.drewN | apply IsS62.drew | apply IsS62.set_1 | refine IsS62.far ?_ NB0_188.out _) | exact HI0.out)) (pR HO_3) (by decide)) hk (fun _ h => h.2)) (fun _ h => h.1)); have n1_ := Aside0.mk (KeepBut.blk hk (g' := gb188) (o := .cells #[.int .i64 (wrap64 (1 + t184)), .int .i64 0, .bool (t186 == 0)] 40 (0, 0)) (pC BK188) NB188_0.out (by simp)); have n2_ := Aside0.mk (KeepBut.trans (by repeat (first | (with_reducible first | exact HK.out | apply KeepBut.set_ | apply keep_drewN | apply keep_drew | apply keep_alloc | refine keep_far ?_ GW188.out _) | exact HK.out)) hk (.inl rfl)); have n3_ := Aside0.mk (hb); have n4_ := Aside0.mk (hi); clear HO_3; clear BK188; clear HK; clear HB; clear HI0; have HO_3 := n0_; have BK188 := n1_; have HK := n2_; have HB := n3_; have HI0 := n4_; clear n0_ n1_ n2_ n3_ n4_; (try clear hb); (try clear hb2); (try clear hk); (try clear hi)) | ((with_reducible refine gate_callee (f := 50) rfl ?_); refine goesL_ (some 33) rfl rfl Try.func50 pL rfl #[.int .i64 t191] rfl pM ?_; (with_reducible refine (spec_l3Weight.calls k2 t191 t193 _ A18.out).mono ?_); rintro e w' ⟨rfl, ⟨nd, rfl⟩⟩; refine ⟨_, rfl, ?_⟩; (try (rw [drewN_self w26]; generalize hq_ : World.drewN w26 _ = w26; have n0_ : Aside0 (Kd.R k40 40 w26 w.heap.size (fun k_ => k_ ≠ gb188) u3 x3_2) := ⟨by rw [← hq_]; exact (by (with_reducible repeat (first | apply Kd.R_alloc | apply Kd.R_drewN | apply Kd.R_drew)); exact Kd.R_mono HO_3.out (fun _ hk => hk.2))⟩; have n1_ : Aside0 (w26.heap[gb188]? = some (.cells #[.int .i64 (wrap64 (1 + t184)), .int .i64 0, .bool (t186 == 0)] 40 (0, 0))) := ⟨by rw [← hq_]; exact (pC BK188)⟩; have n2_ : Aside0 (IsS62 w0 w26 g s0_0 t192) := ⟨by rw [← hq_]; exact (by repeat (first | (with_reducible first | exact HI0.out | apply IsS62.alloc | apply IsS62.drewN | apply IsS62.drew | apply IsS62.set_1 | refine IsS62.far ?_ NB0_188.out _) | exact HI0.out))⟩; have n3_ : Aside0 (KeepBut w w26 g none) := ⟨by rw [← hq_]; exact (by repeat (first | (with_reducible first | exact HK.out | apply KeepBut.set_ | apply keep_drewN | apply keep_drew | apply keep_alloc | refine keep_far ?_ GW188.out _) | exact HK.out))⟩; have n4_ : Aside0 (Below w0.heap.size w0 w26) := ⟨by rw [← hq_]; exact (by repeat (first | (with_reducible first | exact HB.out | apply below_alloc | apply pw_below_drewN | apply below_drew1 | refine below_set ?_ (IsS62.ge HI0.out) | refine below_set ?_ GE188.out) | exact HB.out))⟩; clear HO_3 BK188 HI0 HK HB hq_; have HO_3 := n0_; have BK188 := n1_; have HI0 := n2_; have HK := n3_; have HB := n4_; clear n0_ n1_ n2_ n3_ n4_)); have hcz27_0 : w26.cell? ⟨gb188, 0, none⟩ = some (.int .i64 (wrap64 (1 + t184))) := (blk_cell BK188.out 0).trans rfl; have hcz27_1 : w26.cell? ⟨gb188, 1, none⟩ = some (.int .i64 0) := (blk_cell BK188.out 1).trans rfl; have hcz27_2 : w26.cell? ⟨gb188, 2, none⟩ = some (.bool (t186 == 0)) := (blk_cell BK188.out 2).trans rfl; have hfz27_0 := blk_frozen BK188.out 0; have hfz27_1 := blk_frozen BK188.out 1; have hfz27_2 := blk_frozen BK188.out 2) | ((with_reducible refine gate_builtin (b := .append) (xs := #[.tmp 35, .tmp 37]) rfl ?_); at_builtin; refine Kd.R_append k40 w.heap.size rfl (.tmp 35) (.tmp 37) 25 40 (.agg #[(.int .i64 0), (.int .i64 0), (.bool false)]) 24 rfl Try.underlying25 info40 rfl (by decide) (by omega) u3 x3_2 (⟨wrap64 (1 + t184), t193, (t186 == 0)⟩ : S40) [.int .i64 (wrap64 (1 + t184)), .int .i64 t193, .bool (t186 == 0)] (fun k_ => k_ ≠ gb188) (fun _ => False) rfl (by first | (go_simp; done) | (go_simp; rfl)) ?aP (fun _ hk => hk.elim) ?aF ?aO (Below.refl _ _) ?aS ?aL ?_; (case aP => exact k40_mkM _ _ _ (⟨wrap64 (1 + t184), t193, (t186 == 0)⟩ : S40)); (case aF => exact (fun k_ hk => Kd.freshB (g := gb188) (o := .cells #[.int .i64 (wrap64 (1 + t184)), .int .i64 t193, .bool (t186 == 0)] 40 (0, 0)) (by (with_reducible repeat (first | refine blk_drewN ?_ _ | refine blk_drew ?_ | refine blk_alloc ?_ _)); refine blk_put (cs := #[.int .i64 (wrap64 (1 + t184)), .int .i64 0, .bool (t186 == 0)]) ?_ 1 _ rfl; (with_reducible repeat (first | refine blk_drewN ?_ _ | refine blk_drew ?_ | refine blk_alloc ?_ _)); exact BK188.out) k_ hk)); (case aO => exact (by (with_reducible repeat (first | apply Kd.R_alloc | apply Kd.R_drewN | apply Kd.R_drew)); exact Kd.R_mono (Kd.R_far (p := ⟨gb188, 1, none⟩) (Kd.R_mono HO_3.out (fun k_ hk => (⟨hk, hk⟩ : _ ∧ k_ ≠ gb188))) (fun _ hk => hk.2) (.int .i64 t193)) (fun _ hk => hk.2))); (case aS => exact (keep_size (w := w) (g := g) (row := none) (keep_far HK.out GW188.out _))); (case aL => have := LMc19.out; omega); intro v195 w28 ho hb hg hat; rw [← Ny194.out] at ho; have n0_ := Aside0.mk (IsS62.grown (IsS62.far HI0.out NB0_188.out _) hg (IsS62.own_ne HI0.out HO_3.out (by decide))); have n1_ := Aside0.mk (blk_grown (g := gb188) (o := .cells #[.int .i64 (wrap64 (1 + t184)), .int .i64 t193, .bool (t186 == 0)] 40 (0, 0)) (by (with_reducible repeat (first | refine blk_drewN ?_ _ | refine blk_drew ?_ | refine blk_alloc ?_ _)); refine blk_put (cs := #[.int .i64 (wrap64 (1 + t184)), .int .i64 0, .bool (t186 == 0)]) ?_ 1 _ rfl; (with_reducible repeat (first | refine blk_drewN ?_ _ | refine blk_drew ?_ | refine blk_alloc ?_ _)); exact BK188.out) hg (Kd.R_away HO_3.out (fun _ hk => hk))); have n2_ := Aside0.mk (below_weaken (below_set HB.out GE188.out) HL.out hb); have n3_ := Aside0.mk (KeepBut.trans (keep_far HK.out GW188.out _) (KeepBut.of_grown hg g) (Kd.R_base2 HO_3.out)); have n4_ := Aside0.mk (ho); clear HI0; clear BK188; clear HB; clear HK; clear HO_3; have HI0 := n0_; have BK188 := n1_; have HB := n2_; have HK := n3_; have HO196 := n4_; clear n0_ n1_ n2_ n3_ n4_; clear ho hb hg hat))
        go_roundg k2
        case measure => have := HJ3.out; have := HK2.out; omega
        case rel => exact ⟨(y194), (wrap64 (x5_2 + 1)), (t192), pF, H', ⟨by have := HJ3.out; have := HK2.out; omega⟩, ⟨by (with_reducible repeat (first | apply Kd.R_alloc | apply Kd.R_drewN | apply Kd.R_drew)); exact Kd.R_mono HO196.out (fun _ hk => trivial)⟩, ⟨by repeat (first | (with_reducible first | exact HI0.out | apply IsS62.alloc | apply IsS62.drewN | apply IsS62.drew | apply IsS62.set_1 | refine IsS62.far ?_ NB0_188.out _) | exact HI0.out)⟩, ⟨by repeat (first | (with_reducible first | exact HK.out | apply KeepBut.set_ | apply keep_drewN | apply keep_drew | apply keep_alloc | refine keep_far ?_ GW188.out _) | exact HK.out)⟩, ⟨by repeat (first | (with_reducible first | exact HB.out | apply below_alloc | apply pw_below_drewN | apply below_drew1 | refine below_set ?_ (IsS62.ge HI0.out) | refine below_set ?_ GE188.out) | exact HB.out)⟩⟩
       ·rw [if_neg c19] at H
        exact absurd H (by simp)
      ·rw [if_neg c16] at H
       have c16b0 : (t189 == 0) = false := beq_eq_false_iff_ne.mpr c16
       have c16b1 : (t189 != 0) = true := bne_iff_ne.mpr c16
       by_cases c29 : x3_2.length < 5864062014805
       ·rw [if_pos c29] at H
        have LMc29 := Aside0.mk c29
        clear c29
        obtain ⟨y197, hy197⟩ : ∃ y_ : List (S40), y_ = (x3_2 ++ [(⟨wrap64 (1 + t184), 0, (t186 == 0)⟩ : S40)]) := ⟨_, rfl⟩
        replace H : (spec_l91Uses.l0 k2 y197 x4_3 (wrap64 (x5_2 + 1)) s0_0 t190) = some (r1, r2) := by first | (rw [hy197]; with_reducible exact H) | (have H2_ := (Option.bind_some _ _).symm.trans H; rw [hy197]; with_reducible exact H2_) | (have H2_ := (Option.bind_some _ _).symm.trans H; with_reducible exact H2_) | with_reducible exact H | (rw [hy197]; exact H) | exact H
        have Ny197 := Aside0.mk hy197
        clear hy197
        have H' := Aside0.mk H
        clear H
        go_wp2_with (first | ((with_reducible refine gate_callee (f := 46) rfl ?_); refine goesL_ (some 22) rfl rfl Try.func46 pL rfl #[.pointer (some ⟨g, 0, none⟩), .int .i64 2] rfl pM ?_; (with_reducible refine (spec_l6Rd_pick.calls k2 g s0_0 x1001_2 2 t184 t185 w0 _ ?side1 ?side2 A13.out).mono ?_); (case side1 => repeat (first | (with_reducible first | exact HI0.out | apply IsS62.alloc | apply IsS62.drewN | apply IsS62.drew | apply IsS62.set_1) | exact HI0.out)); (case side2 => repeat (first | (with_reducible first | exact HB.out | apply below_alloc | apply pw_below_drewN | apply below_drew1 | refine below_set ?_ (IsS62.ge HI0.out)) | exact HB.out)); rintro e w30 ⟨rfl, hi, hb, hk⟩; refine ⟨_, rfl, ?_⟩; have n0_ := Aside0.mk (Kd.R_mono (Kd.R_keep (IsS62.apart (show IsS62 w0 _ g s0_0 x1001_2 from by repeat (first | (with_reducible first | exact HI0.out | apply IsS62.alloc | apply IsS62.drewN | apply IsS62.drew | apply IsS62.set_1) | exact HI0.out)) (pR HO_3) (by decide)) hk (fun _ h => h.2)) (fun _ h => h.1)); have n1_ := Aside0.mk (KeepBut.trans pK hk (.inl rfl)); have n2_ := Aside0.mk (hb); have n3_ := Aside0.mk (hi); clear HO_3; clear HK; clear HB; clear HI0; have HO_3 := n0_; have HK := n1_; have HB := n2_; have HI0 := n3_; clear n0_ n1_ n2_ n3_; (try clear hb); (try clear hb2); (try clear hk); (try clear hi)) | ((with_reducible refine gate_callee (f := 46) rfl ?_); refine goesL_ (some 25) rfl rfl Try.func46 pL rfl #[.pointer (some ⟨g, 0, none⟩), .int .i64 4] rfl pM ?_; (with_reducible refine (spec_l6Rd_pick.calls k2 g s0_0 t185 4 t186 t187 w0 _ ?side1 ?side2 A14.out).mono ?_); (case side1 => repeat (first | (with_reducible first | exact HI0.out | apply IsS62.alloc | apply IsS62.drewN | apply IsS62.drew | apply IsS62.set_1) | exact HI0.out)); (case side2 => repeat (first | (with_reducible first | exact HB.out | apply below_alloc | apply pw_below_drewN | apply below_drew1 | refine below_set ?_ (IsS62.ge HI0.out)) | exact HB.out)); rintro e w31 ⟨rfl, hi, hb, hk⟩; refine ⟨_, rfl, ?_⟩; have n0_ := Aside0.mk (Kd.R_mono (Kd.R_keep (IsS62.apart (show IsS62 w0 _ g s0_0 t185 from by repeat (first | (with_reducible first | exact HI0.out | apply IsS62.alloc | apply IsS62.drewN | apply IsS62.drew | apply IsS62.set_1) | exact HI0.out)) (pR HO_3) (by decide)) hk (fun _ h => h.2)) (fun _ h => h.1)); have n1_ := Aside0.mk (KeepBut.trans pK hk (.inl rfl)); have n2_ := Aside0.mk (hb); have n3_ := Aside0.mk (hi); clear HO_3; clear HK; clear HB; clear HI0; have HO_3 := n0_; have HK := n1_; have HB := n2_; have HI0 := n3_; clear n0_ n1_ n2_ n3_; (try clear hb); (try clear hb2); (try clear hk); (try clear hi)) | ((with_reducible refine gate_dst (N := 6) rfl ?_); refine box_event ?hg (N := 6) ?hd (cs := #[.int .i64 0, .int .i64 0, .bool false]) (t := 40) ?hr ?_; (case hd => rfl); (case hg => rfl); (case hr => first | (go_simp; done) | (go_simp; rfl)); intro gb188 hg w32 hbox hb; have n0_ := Aside0.mk (Kd.R_below (Kd.R_elderB (pR HO_3) gb188 (Nat.le_of_eq hg.symm)) hb); have n1_ := Aside0.mk (IsS62.below (by repeat (first | (with_reducible first | exact HI0.out | apply IsS62.alloc | apply IsS62.drewN | apply IsS62.drew | apply IsS62.set_1) | exact HI0.out)) hb); have n2_ := Aside0.mk (KeepBut.trans pK (KeepBut.of_below hb g none) (.inl rfl)); have n3_ := Aside0.mk (below_step (by repeat (first | (with_reducible first | exact HB.out | apply below_alloc | apply pw_below_drewN | apply below_drew1 | refine below_set ?_ (IsS62.ge HI0.out)) | exact HB.out)) hb); have n4_ := Aside0.mk (hbox); have n5_ := Aside0.mk ((by rw [hg]; exact (keep_size (w := w) (g := g) (row := none) pK) : w.heap.size ≤ gb188)); have n6_ := Aside0.mk ((Nat.le_trans HW0.out (by rw [hg]; exact (keep_size (w := w) (g := g) (row := none) pK) : w.heap.size ≤ gb188) : w0.heap.size ≤ gb188)); have n7_ := Aside0.mk ((by rw [hg]; exact Nat.ne_of_lt (IsS62.lt (show IsS62 w0 _ g s0_0 t187 from by repeat (first | (with_reducible first | exact HI0.out | apply IsS62.alloc | apply IsS62.drewN | apply IsS62.drew | apply IsS62.set_1) | exact HI0.out))) : g ≠ gb188)); have n8_ := Aside0.mk ((by rw [hg]; exact Nat.ne_of_gt (IsS62.lt (show IsS62 w0 _ g s0_0 t187 from by repeat (first | (with_reducible first | exact HI0.out | apply IsS62.alloc | apply IsS62.drewN | apply IsS62.drew | apply IsS62.set_1) | exact HI0.out))) : gb188 ≠ g)); clear HO_3; clear HI0; clear HK; clear HB; have HO_3 := n0_; have HI0 := n1_; have HK := n2_; have HB := n3_; have BK188 := n4_; have GW188 := n5_; have GE188 := n6_; have NB0_188 := n7_; have NB188_0 := n8_; clear n0_ n1_ n2_ n3_ n4_ n5_ n6_ n7_ n8_; clear hb hbox hg; have hnb33 := NB188_0.out; have hnc33 := NB0_188.out; have hcz34_0 : w32.cell? ⟨gb188, 0, none⟩ = some (.int .i64 0) := (blk_cell BK188.out 0).trans rfl; have hcz34_1 : w32.cell? ⟨gb188, 1, none⟩ = some (.int .i64 0) := (blk_cell BK188.out 1).trans rfl; have hcz34_2 : w32.cell? ⟨gb188, 2, none⟩ = some (.bool false) := (blk_cell BK188.out 2).trans rfl; have hfz34_0 := blk_frozen BK188.out 0; have hfz34_1 := blk_frozen BK188.out 1; have hfz34_2 := blk_frozen BK188.out 2) | ((with_reducible refine gate_callee (f := 46) rfl ?_); refine goesL_ (some 29) rfl rfl Try.func46 pL rfl #[.pointer (some ⟨g, 0, none⟩), .int .i64 2] rfl pM ?_; (with_reducible refine (spec_l6Rd_pick.calls k2 g s0_0 t187 2 t189 t190 w0 _ ?side1 ?side2 A15.out).mono ?_); (case side1 => repeat (first | (with_reducible first | exact HI0.out | apply IsS62.alloc | apply IsS62.drewN | apply IsS62.drew | apply IsS62.set_1 | refine IsS62.far ?_ NB0_188.out _) | exact HI0.out)); (case side2 => repeat (first | (with_reducible first | exact HB.out | apply below_alloc | apply pw_below_drewN | apply below_drew1 | refine below_set ?_ (IsS62.ge HI0.out) | refine below_set ?_ GE188.out) | exact HB.out)); rintro e w35 ⟨rfl, hi, hb, hk⟩; refine ⟨_, rfl, ?_⟩; have n0_ := Aside0.mk (Kd.R_mono (Kd.R_keep (IsS62.apart (show IsS62 w0 _ g s0_0 t187 from by repeat (first | (with_reducible first | exact HI0.out | apply IsS62.alloc | apply IsS62.drewN | apply IsS62.drew | apply IsS62.set_1 | refine IsS62.far ?_ NB0_188.out _) | exact HI0.out)) (by (with_reducible repeat (first | apply Kd.R_alloc | apply Kd.R_drewN | apply Kd.R_drew)); exact (Kd.R_mono (Kd.R_far (p := ⟨gb188, 2, none⟩) (Kd.R_far (p := ⟨gb188, 1, none⟩) (Kd.R_far (p := ⟨gb188, 0, none⟩) (Kd.R_mono HO_3.out (fun k_ hk => (⟨hk, hk.2⟩ : _ ∧ k_ ≠ gb188))) (fun _ hk => hk.2) (.int .i64 (wrap64 (1 + t184)))) (fun _ hk => hk.2) (.int .i64 0)) (fun _ hk => hk.2) (.bool (t186 == 0))) (fun _ h_ => h_.1))) (by decide)) hk (fun _ h => h.2)) (fun _ h => h.1)); have n1_ := Aside0.mk (KeepBut.blk hk (g' := gb188) (o := .cells #[.int .i64 (wrap64 (1 + t184)), .int .i64 0, .bool (t186 == 0)] 40 (0, 0)) (by (with_reducible repeat (first | refine blk_drewN ?_ _ | refine blk_drew ?_ | refine blk_alloc ?_ _)); refine blk_put (cs := #[.int .i64 (wrap64 (1 + t184)), .int .i64 0, .bool false]) ?_ 2 _ rfl; (with_reducible repeat (first | refine blk_drewN ?_ _ | refine blk_drew ?_ | refine blk_alloc ?_ _)); refine blk_put (cs := #[.int .i64 (wrap64 (1 + t184)), .int .i64 0, .bool false]) ?_ 1 _ rfl; (with_reducible repeat (first | refine blk_drewN ?_ _ | refine blk_drew ?_ | refine blk_alloc ?_ _)); refine blk_put (cs := #[.int .i64 0, .int .i64 0, .bool false]) ?_ 0 _ rfl; (with_reducible repeat (first | refine blk_drewN ?_ _ | refine blk_drew ?_ | refine blk_alloc ?_ _)); exact BK188.out) NB188_0.out (by simp)); have n2_ := Aside0.mk (KeepBut.trans (by repeat (first | (with_reducible first | exact HK.out | apply KeepBut.set_ | apply keep_drewN | apply keep_drew | apply keep_alloc | refine keep_far ?_ GW188.out _) | exact HK.out)) hk (.inl rfl)); have n3_ := Aside0.mk (hb); have n4_ := Aside0.mk (hi); clear HO_3; clear BK188; clear HK; clear HB; clear HI0; have HO_3 := n0_; have BK188 := n1_; have HK := n2_; have HB := n3_; have HI0 := n4_; clear n0_ n1_ n2_ n3_ n4_; (try clear hb); (try clear hb2); (try clear hk); (try clear hi); have hcz36_0 : w35.cell? ⟨gb188, 0, none⟩ = some (.int .i64 (wrap64 (1 + t184))) := (blk_cell BK188.out 0).trans rfl; have hcz36_1 : w35.cell? ⟨gb188, 1, none⟩ = some (.int .i64 0) := (blk_cell BK188.out 1).trans rfl; have hcz36_2 : w35.cell? ⟨gb188, 2, none⟩ = some (.bool (t186 == 0)) := (blk_cell BK188.out 2).trans rfl; have hfz36_0 := blk_frozen BK188.out 0; have hfz36_1 := blk_frozen BK188.out 1; have hfz36_2 := blk_frozen BK188.out 2) | ((with_reducible refine gate_builtin (b := .append) (xs := #[.tmp 35, .tmp 37]) rfl ?_); at_builtin; refine Kd.R_append k40 w.heap.size rfl (.tmp 35) (.tmp 37) 25 40 (.agg #[(.int .i64 0), (.int .i64 0), (.bool false)]) 24 rfl Try.underlying25 info40 rfl (by decide) (by omega) u3 x3_2 (⟨wrap64 (1 + t184), 0, (t186 == 0)⟩ : S40) [.int .i64 (wrap64 (1 + t184)), .int .i64 0, .bool (t186 == 0)] (fun k_ => k_ ≠ gb188) (fun _ => False) rfl rfl ?aP (fun _ hk => hk.elim) ?aF ?aO (Below.refl _ _) ?aS ?aL ?_; (case aP => exact k40_mkM _ _ _ (⟨wrap64 (1 + t184), 0, (t186 == 0)⟩ : S40)); (case aF => exact (fun k_ hk => Kd.freshB (g := gb188) (o := .cells #[.int .i64 (wrap64 (1 + t184)), .int .i64 0, .bool (t186 == 0)] 40 (0, 0)) (pC BK188) k_ hk)); (case aO => exact (by (with_reducible repeat (first | apply Kd.R_alloc | apply Kd.R_drewN | apply Kd.R_drew)); exact Kd.R_mono HO_3.out (fun _ hk => hk.2))); (case aS => exact (keep_size (w := w) (g := g) (row := none) (by repeat (first | (with_reducible first | exact HK.out | apply KeepBut.set_ | apply keep_drewN | apply keep_drew | apply keep_alloc | refine keep_far ?_ GW188.out _) | exact HK.out)))); (case aL => have := LMc29.out; omega); intro v198 w37 ho hb hg hat; rw [← Ny197.out] at ho; have n0_ := Aside0.mk (IsS62.grown (by repeat (first | (with_reducible first | exact HI0.out | apply IsS62.alloc | apply IsS62.drewN | apply IsS62.drew | apply IsS62.set_1 | refine IsS62.far ?_ NB0_188.out _) | exact HI0.out)) hg (IsS62.own_ne HI0.out HO_3.out (by decide))); have n1_ := Aside0.mk (blk_grown (g := gb188) (o := .cells #[.int .i64 (wrap64 (1 + t184)), .int .i64 0, .bool (t186 == 0)] 40 (0, 0)) (pC BK188) hg (Kd.R_away HO_3.out (fun _ hk => hk.2))); have n2_ := Aside0.mk (below_weaken (by repeat (first | (with_reducible first | exact HB.out | apply below_alloc | apply pw_below_drewN | apply below_drew1 | refine below_set ?_ (IsS62.ge HI0.out) | refine below_set ?_ GE188.out) | exact HB.out)) HL.out hb); have n3_ := Aside0.mk (KeepBut.trans (by repeat (first | (with_reducible first | exact HK.out | apply KeepBut.set_ | apply keep_drewN | apply keep_drew | apply keep_alloc | refine keep_far ?_ GW188.out _) | exact HK.out)) (KeepBut.of_grown hg g) (Kd.R_base2 HO_3.out)); have n4_ := Aside0.mk (ho); clear HI0; clear BK188; clear HB; clear HK; clear HO_3; have HI0 := n0_; have BK188 := n1_; have HB := n2_; have HK := n3_; have HO199 := n4_; clear n0_ n1_ n2_ n3_ n4_; clear ho hb hg hat))
        go_roundg k2
        case measure => have := HJ3.out; have := HK2.out; omega
        case rel => exact ⟨(y197), (wrap64 (x5_2 + 1)), (t190), pF, H', ⟨by have := HJ3.out; have := HK2.out; omega⟩, ⟨by (with_reducible repeat (first | apply Kd.R_alloc | apply Kd.R_drewN | apply Kd.R_drew)); exact Kd.R_mono HO199.out (fun _ hk => trivial)⟩, ⟨by repeat (first | (with_reducible first | exact HI0.out | apply IsS62.alloc | apply IsS62.drewN | apply IsS62.drew | apply IsS62.set_1 | refine IsS62.far ?_ NB0_188.out _) | exact HI0.out)⟩, ⟨by repeat (first | (with_reducible first | exact HK.out | apply KeepBut.set_ | apply keep_drewN | apply keep_drew | apply keep_alloc | refine keep_far ?_ GW188.out _) | exact HK.out)⟩, ⟨by repeat (first | (with_reducible first | exact HB.out | apply below_alloc | apply pw_below_drewN | apply below_drew1 | refine below_set ?_ (IsS62.ge HI0.out) | refine below_set ?_ GE188.out) | exact HB.out)⟩⟩
       ·rw [if_neg c29] at H
        exact absurd H (by simp)
     ·rw [if_neg c12] at H
      have c12b0 : decide (x5_2 < x4_3) = false := decide_eq_false c12
      clear c12
      have HC38 := Aside0.mk H
      clear H
      go_upto_region 12 with (fail)
      go_cut [45] (fun v45 wc => ∃ (kq : Nat) (x45_37 : Bool) (x1001_37 : Int), v45 = .bool x45_37 ∧ Aside0 (spec_l91Uses.j2 kq x3_2 x4_3 x45_37 s0_0 x1001_37 = some (r1, r2)) ∧ Aside0 (kq ≤ k2) ∧ Aside0 (Kd.R k40 40 wc w.heap.size (fun _ => True) u3 x3_2) ∧ Aside0 (IsS62 w0 wc g s0_0 x1001_37) ∧ Aside0 (KeepBut w wc g none) ∧ Aside0 (Below w0.heap.size w0 wc))
      case first =>
       have H := HC38.out
       clear HC38
       by_cases c39 : x4_3 > 0
       ·rw [if_pos c39] at H
        have c39b0 : decide (0 < x4_3) = true := decide_eq_true c39
        clear c39
        (first | rw [c39b0] | (simp only [i64_w, i32_w]; rw [c39b0]) | skip)
        replace H := Option.bind_eq_some_iff.mp H
        obtain ⟨⟨t200, t201⟩, A400, H⟩ := H
        replace H : (spec_l91Uses.j2 k2 x3_2 x4_3 (t200 == 0) s0_0 t201) = some (r1, r2) := H
        have A40 := Aside0.mk A400
        clear A400
        have H' := Aside0.mk H
        clear H
        go_wp2_with (first | (go_at_call 46; (with_reducible refine (spec_l6Rd_pick.calls k2 g s0_0 x1001_2 24 t200 t201 w0 _ ?side1 ?side2 A40.out).mono ?_); (case side1 => repeat (first | (with_reducible first | exact HI0.out | apply IsS62.alloc | apply IsS62.drewN | apply IsS62.drew | apply IsS62.set_1) | exact HI0.out)); (case side2 => repeat (first | (with_reducible first | exact HB.out | apply below_alloc | apply pw_below_drewN | apply below_drew1 | refine below_set ?_ (IsS62.ge HI0.out)) | exact HB.out)); rintro e w41 ⟨rfl, hi, hb, hk⟩; have n0_ := Aside0.mk (Kd.R_mono (Kd.R_keep (IsS62.apart (show IsS62 w0 _ g s0_0 x1001_2 from by repeat (first | (with_reducible first | exact HI0.out | apply IsS62.alloc | apply IsS62.drewN | apply IsS62.drew | apply IsS62.set_1) | exact HI0.out)) (pR HO_3) (by decide)) hk (fun _ h => h.2)) (fun _ h => h.1)); have n1_ := Aside0.mk (KeepBut.trans pK hk (.inl rfl)); have n2_ := Aside0.mk (hb); have n3_ := Aside0.mk (hi); clear HO_3; clear HK; clear HB; clear HI0; have HO_3 := n0_; have HK := n1_; have HB := n2_; have HI0 := n3_; clear n0_ n1_ n2_ n3_; (try clear hb); (try clear hb2); (try clear hk); (try clear hi)))
        go_meet
        case rel => exact ⟨_, ((t200 == 0)), (t201), pF, H', ⟨by have := HJ3.out; have := HK2.out; first | omega | exact Nat.le_refl _⟩, ⟨pR HO_3⟩, ⟨by repeat (first | (with_reducible first | exact HI0.out | apply IsS62.alloc | apply IsS62.drewN | apply IsS62.drew | apply IsS62.set_1) | exact HI0.out)⟩, ⟨pK⟩, ⟨by repeat (first | (with_reducible first | exact HB.out | apply below_alloc | apply pw_below_drewN | apply below_drew1 | refine below_set ?_ (IsS62.ge HI0.out)) | exact HB.out)⟩⟩
       ·rw [if_neg c39] at H
        have c39b0 : decide (0 < x4_3) = false := decide_eq_false c39
        clear c39
        (first | rw [c39b0] | (simp only [i64_w, i32_w]; rw [c39b0]) | skip)
        have H' := Aside0.mk H
        clear H
        go_wp2
        go_meet
        case rel => exact ⟨_, (false), (x1001_2), pF, H', ⟨by have := HJ3.out; have := HK2.out; first | omega | exact Nat.le_refl _⟩, ⟨pR HO_3⟩, ⟨by repeat (first | (with_reducible first | exact HI0.out | apply IsS62.alloc | apply IsS62.drewN | apply IsS62.drew | apply IsS62.set_1) | exact HI0.out)⟩, ⟨pK⟩, ⟨by repeat (first | (with_reducible first | exact HB.out | apply below_alloc | apply pw_below_drewN | apply below_drew1 | refine below_set ?_ (IsS62.ge HI0.out)) | exact HB.out)⟩⟩
      case rest =>
       clear HC38
       try clear c1
       try clear c2
       try clear p2
       try clear c3
       try clear c4
       try clear c5
       try clear p6
       try clear c9
       try clear c9b0
       try clear c9b1
       try clear c12
       try clear c12b0
       try clear c16
       try clear c16b0
       try clear c16b1
       try clear c19
       try clear c23
       try clear c29
       try clear c33
       try clear c39
       try clear c39b0
       try clear hcz24_0
       try clear hcz24_1
       try clear hcz24_2
       try clear hcz27_0
       try clear hcz27_1
       try clear hcz27_2
       try clear hcz34_0
       try clear hcz34_1
       try clear hcz34_2
       try clear hcz36_0
       try clear hcz36_1
       try clear hcz36_2
       try clear hfz24_0
       try clear hfz24_1
       try clear hfz24_2
       try clear hfz27_0
       try clear hfz27_1
       try clear hfz27_2
       try clear hfz34_0
       try clear hfz34_1
       try clear hfz34_2
       try clear hfz36_0
       try clear hfz36_1
       try clear hfz36_2
       try clear p2
       try clear p6
       obtain ⟨kq, x45_37, x1001_37, rfl, HA, HJ37, HO_3, HI0, HK, HB⟩ := hcut
       cases kq with
       | zero => exact absurd HA.out (by simp [spec_l91Uses.j2])
       | succ kj37 =>
        have H := HA.out
        clear HA
        simp only [spec_l91Uses.j2] at H
        by_cases c42 : x45_37 = true
        ·subst c42
         have H1 : ((spec_l6Rd_pick.f kj37 s0_0 x1001_37 x4_3).bind fun bt202 => ((some (([0, 4, 5] : List Int) : List Int)).bind fun y204 => ((spec_l6Rd_pick.f kj37 s0_0 bt202.2 3).bind fun bt207 => (if 0 ≤ bt207.1 then (if bt207.1 < (y204.length : Int) then ((some (([(-1), 255, 256] : List Int) : List Int)).bind fun y210 => ((spec_l6Rd_pick.f kj37 s0_0 bt207.2 3).bind fun bt213 => (if 0 ≤ bt213.1 then (if bt213.1 < (y210.length : Int) then (if 0 ≤ bt202.1 then (if bt202.1 < (x3_2.length : Int) then (some ((x3_2.set (bt202.1 : Int).toNat (⟨rd y204 bt207.1, rd y210 bt213.1, false⟩ : S40)), bt213.2)) else (none)) else (none)) else (none)) else (none)))) else (none)) else (none))))) = some (r1, r2) := by rw [if_pos rfl] at H; exact H
         clear H
         have H := H1
         clear H1
         replace H := Option.bind_eq_some_iff.mp H
         obtain ⟨⟨t202, t203⟩, A430, H⟩ := H
         replace H : ((some (([0, 4, 5] : List Int) : List Int)).bind fun y204 => ((spec_l6Rd_pick.f kj37 s0_0 t203 3).bind fun bt207 => (if 0 ≤ bt207.1 then (if bt207.1 < (y204.length : Int) then ((some (([(-1), 255, 256] : List Int) : List Int)).bind fun y210 => ((spec_l6Rd_pick.f kj37 s0_0 bt207.2 3).bind fun bt213 => (if 0 ≤ bt213.1 then (if bt213.1 < (y210.length : Int) then (if 0 ≤ t202 then (if t202 < (x3_2.length : Int) then (some ((x3_2.set (t202 : Int).toNat (⟨rd y204 bt207.1, rd y210 bt213.1, false⟩ : S40)), bt213.2)) else (none)) else (none)) else (none)) else (none)))) else (none)) else (none)))) = some (r1, r2) := H
         have A43 := Aside0.mk A430
         clear A430
         obtain ⟨y204, hy204⟩ : ∃ y_ : List Int, y_ = (([0, 4, 5] : List Int)) := ⟨_, rfl⟩
         replace H : ((spec_l6Rd_pick.f kj37 s0_0 t203 3).bind fun bt207 => (if 0 ≤ bt207.1 then (if bt207.1 < (y204.length : Int) then ((some (([(-1), 255, 256] : List Int) : List Int)).bind fun y210 => ((spec_l6Rd_pick.f kj37 s0_0 bt207.2 3).bind fun bt213 => (if 0 ≤ bt213.1 then (if bt213.1 < (y210.length : Int) then (if 0 ≤ t202 then (if t202 < (x3_2.length : Int) then (some ((x3_2.set (t202 : Int).toNat (⟨rd y204 bt207.1, rd y210 bt213.1, false⟩ : S40)), bt213.2)) else (none)) else (none)) else (none)) else (none)))) else (none)) else (none))) = some (r1, r2) := by first | (rw [hy204]; with_reducible exact H) | (have H2_ := (Option.bind_some _ _).symm.trans H; rw [hy204]; with_reducible exact H2_) | (have H2_ := (Option.bind_some _ _).symm.trans H; with_reducible exact H2_) | with_reducible exact H | (rw [hy204]; exact H) | exact H
         have Ny204 := Aside0.mk hy204
         clear hy204
         replace H := Option.bind_eq_some_iff.mp H
         obtain ⟨⟨t207, t208⟩, A440, H⟩ := H
         replace H : (if 0 ≤ t207 then (if t207 < (y204.length : Int) then ((some (([(-1), 255, 256] : List Int) : List Int)).bind fun y210 => ((spec_l6Rd_pick.f kj37 s0_0 t208 3).bind fun bt213 => (if 0 ≤ bt213.1 then (if bt213.1 < (y210.length : Int) then (if 0 ≤ t202 then (if t202 < (x3_2.length : Int) then (some ((x3_2.set (t202 : Int).toNat (⟨rd y204 t207, rd y210 bt213.1, false⟩ : S40)), bt213.2)) else (none)) else (none)) else (none)) else (none)))) else (none)) else (none)) = some (r1, r2) := H
         have A44 := Aside0.mk A440
         clear A440
         by_cases c45 : 0 ≤ t207
         ·rw [if_pos c45] at H
          have c45b0 : decide (0 ≤ t207) = true := decide_eq_true c45
          clear c45
          by_cases c46 : t207 < (y204.length : Int)
          ·rw [if_pos c46] at H
           have c46b0 : decide (t207 < (y204.length : Int)) = true := decide_eq_true c46
           clear c46
           obtain ⟨y210, hy210⟩ : ∃ y_ : List Int, y_ = (([(-1), 255, 256] : List Int)) := ⟨_, rfl⟩
           replace H : ((spec_l6Rd_pick.f kj37 s0_0 t208 3).bind fun bt213 => (if 0 ≤ bt213.1 then (if bt213.1 < (y210.length : Int) then (if 0 ≤ t202 then (if t202 < (x3_2.length : Int) then (some ((x3_2.set (t202 : Int).toNat (⟨rd y204 t207, rd y210 bt213.1, false⟩ : S40)), bt213.2)) else (none)) else (none)) else (none)) else (none))) = some (r1, r2) := by first | (rw [hy210]; with_reducible exact H) | (have H2_ := (Option.bind_some _ _).symm.trans H; rw [hy210]; with_reducible exact H2_) | (have H2_ := (Option.bind_some _ _).symm.trans H; with_reducible exact H2_) | with_reducible exact H | (rw [hy210]; exact H) | exact H
           have Ny210 := Aside0.mk hy210
           clear hy210
           replace H := Option.bind_eq_some_iff.mp H
           obtain ⟨⟨t213, t214⟩, A470, H⟩ := H
           replace H : (if 0 ≤ t213 then (if t213 < (y210.length : Int) then (if 0 ≤ t202 then (if t202 < (x3_2.length : Int) then (some ((x3_2.set (t202 : Int).toNat (⟨rd y204 t207, rd y210 t213, false⟩ : S40)), t214)) else (none)) else (none)) else (none)) else (none)) = some (r1, r2) := H
           have A47 := Aside0.mk A470
           clear A470
           by_cases c48 : 0 ≤ t213
           ·rw [if_pos c48] at H
            have c48b0 : decide (0 ≤ t213) = true := decide_eq_true c48
            clear c48
            by_cases c49 : t213 < (y210.length : Int)
            ·rw [if_pos c49] at H
             have c49b0 : decide (t213 < (y210.length : Int)) = true := decide_eq_true c49
             clear c49
             by_cases c50 : 0 ≤ t202
             ·rw [if_pos c50] at H
              have c50b0 : decide (0 ≤ t202) = true := decide_eq_true c50
              clear c50
              by_cases c51 : t202 < (x3_2.length : Int)
              ·rw [if_pos c51] at H
               have c51b0 : decide (t202 < (x3_2.length : Int)) = true := decide_eq_true c51
               clear c51
               obtain ⟨y216, hy216⟩ : ∃ y_ : List (S40), y_ = (x3_2.set (t202 : Int).toNat (⟨rd y204 t207, rd y210 t213, false⟩ : S40)) := ⟨_, rfl⟩
               replace H : (some (y216, t214)) = some (r1, r2) := by first | (rw [hy216]; with_reducible exact H) | (have H2_ := (Option.bind_some _ _).symm.trans H; rw [hy216]; with_reducible exact H2_) | (have H2_ := (Option.bind_some _ _).symm.trans H; with_reducible exact H2_) | with_reducible exact H | (rw [hy216]; exact H) | exact H
               have Ny216 := Aside0.mk hy216
               clear hy216
               simp only [Option.some.injEq, Prod.mk.injEq] at H
               obtain ⟨rfl, rfl⟩ := H
               try go_wp2
               have pi209 : (0 ≤ (t207 : Int)) = True := eq_true (of_decide_eq_true pA)
               have qi209 : (t207 < (y204.length : Int)) = True := eq_true (of_decide_eq_true pA)
               have pi215 : (0 ≤ (t213 : Int)) = True := eq_true (of_decide_eq_true pA)
               have qi215 : (t213 < (y210.length : Int)) = True := eq_true (of_decide_eq_true pA)
               have n0_ := Aside0.mk (Kd.R_drew HO_3.out)
               have n1_ := Aside0.mk (IsS62.drew HI0.out)
               have n2_ := Aside0.mk (keep_drew HK.out)
               have n3_ := Aside0.mk (below_drew1 HB.out)
               clear HO_3
               clear HI0
               clear HK
               clear HB
               have HO_3 := n0_
               have HI0 := n1_
               have HK := n2_
               have HB := n3_
               clear n0_ n1_ n2_ n3_
               refine start_ (n := 17) (S := fun w' => True) (ds := [16]) #[false, false, false, false, false, false, false, false, false, false, false, false, false, false, false, false, false] pL rfl rfl trivial (fun hHeld => ?_); refine with_tabW spec_l91Uses.tab13 spec_l91Uses.bits13 (fun HT_ HW_ => ?_)
               generalize wc.drew = w53 at HO_3 HI0 HK HB hHeld ⊢
               refine pure_ (i := 0) (N := some 46) (v := ?_) (a' := ?_) #[true, false, false, false, false, false, false, false, false, false, false, false, false, false, false, false, false] rfl rfl (any_of HT_.out pL) (fun _ _ _ h => h) (Or.inl ⟨by rfl, ?_⟩) ?_ ?_
               rotate_left
               ·intro w'
                go_simp
                with_reducible rfl
               rotate_left
               ·exact pP
               refine pure_ (i := 1) (N := some 47) (v := ?_) (a' := ?_) #[true, true, false, false, false, false, false, false, false, false, false, false, false, false, false, false, false] rfl rfl (any_of HT_.out pL) (fun _ _ _ h => h) (Or.inl ⟨by rfl, ?_⟩) ?_ ?_
               rotate_left
               ·intro w'
                go_simp
                with_reducible rfl
               rotate_left
               ·exact pP
               refine pure_ (i := 2) (N := some 48) (v := ?_) (a' := ?_) #[true, true, true, false, false, false, false, false, false, false, false, false, false, false, false, false, false] rfl rfl (any_of HT_.out pL) (fun _ _ _ h => h) (Or.inl ⟨by rfl, ?_⟩) ?_ ?_
               rotate_left
               ·intro w'
                go_simp
                with_reducible rfl
               rotate_left
               ·exact pP
               refine pure_ (i := 5) (N := some 51) (v := ?_) (a' := ?_) #[true, true, true, false, false, true, false, false, false, false, false, false, false, false, false, false, false] rfl rfl (any_of HT_.out pL) (fun _ _ _ h => h) (Or.inl ⟨by rfl, ?_⟩) ?_ ?_
               rotate_left
               ·intro w'
                go_simp
                with_reducible rfl
               rotate_left
               ·exact pP
               refine pure_ (i := 10) (N := some 56) (v := ?_) (a' := ?_) #[true, true, true, false, false, true, false, false, false, false, true, false, false, false, false, false, false] rfl rfl (any_of HT_.out pL) (fun _ _ _ h => h) (Or.inl ⟨by rfl, ?_⟩) ?_ ?_
               rotate_left
               ·intro w'
                go_simp
                with_reducible rfl
               rotate_left
               ·exact pP
               refine join_ (σ := Value × Addr × Value × Addr) 3 #[true, true, true, true, true, true, true, true, true, true, true, true, true, true, false, false, false] (fun s_ => [(49, .int .i64 t202), (50, s_.1), (52, .int .i64 t207), (54, .int .i64 (rd y204 t207)), (55, s_.2.2.1), (57, .int .i64 t213), (59, .int .i64 (rd y210 t213)), (53, .pointer (some (s_.2.1.add (t207).toNat))), (58, .pointer (some (s_.2.2.2.add (t213).toNat)))]) (fun s_ w' => (Kd.R (Kd.int .i64) 3 w' w.heap.size (fun k_ => some k_ ≠ (s_.2.2.1 : Value).ownBlock) s_.1 y204) ∧ (Kd.R (Kd.int .i64) 3 w' w.heap.size (fun k_ => some k_ ≠ (s_.1 : Value).ownBlock) s_.2.2.1 y210) ∧ (Kd.R k40 40 w' w.heap.size (fun _ => True) u3 x3_2) ∧ (∃ c_, (s_.1 : Value) = .slice (some s_.2.1) y204.length c_) ∧ (∃ c_, (s_.2.2.1 : Value) = .slice (some s_.2.2.2) y210.length c_) ∧ (IsS62 w0 w' g s0_0 t214) ∧ (KeepBut w w' g none) ∧ (Below w0.heap.size w0 w')) ?_ ?_
               rotate_left
               ·intro hJ3_4_6_8_9_11_13
                refine join_ (σ := Value × Addr × Value × Addr) 4 #[true, true, true, true, true, true, true, true, true, true, true, true, true, false, false, false, false] (fun s_ => [(49, .int .i64 t202), (50, s_.1), (52, .int .i64 t207), (54, .int .i64 (rd y204 t207)), (55, s_.2.2.1), (57, .int .i64 t213), (53, .pointer (some (s_.2.1.add (t207).toNat))), (58, .pointer (some (s_.2.2.2.add (t213).toNat)))]) (fun s_ w' => (Kd.R (Kd.int .i64) 3 w' w.heap.size (fun k_ => some k_ ≠ (s_.2.2.1 : Value).ownBlock) s_.1 y204) ∧ (Kd.R (Kd.int .i64) 3 w' w.heap.size (fun k_ => some k_ ≠ (s_.1 : Value).ownBlock) s_.2.2.1 y210) ∧ (Kd.R k40 40 w' w.heap.size (fun _ => True) u3 x3_2) ∧ (∃ c_, (s_.1 : Value) = .slice (some s_.2.1) y204.length c_) ∧ (∃ c_, (s_.2.2.1 : Value) = .slice (some s_.2.2.2) y210.length c_) ∧ (IsS62 w0 w' g s0_0 t214) ∧ (KeepBut w w' g none) ∧ (Below w0.heap.size w0 w')) ?_ ?_
                rotate_left
                ·intro hJ3_4_6_8_9_11
                 refine join_ (σ := Value × Addr × Value × Addr) 4 #[true, true, true, true, true, true, true, true, false, true, true, true, true, true, false, false, false] (fun s_ => [(49, .int .i64 t202), (50, s_.1), (52, .int .i64 t207), (55, s_.2.2.1), (57, .int .i64 t213), (59, .int .i64 (rd y210 t213)), (53, .pointer (some (s_.2.1.add (t207).toNat))), (58, .pointer (some (s_.2.2.2.add (t213).toNat)))]) (fun s_ w' => (Kd.R (Kd.int .i64) 3 w' w.heap.size (fun k_ => some k_ ≠ (s_.2.2.1 : Value).ownBlock) s_.1 y204) ∧ (Kd.R (Kd.int .i64) 3 w' w.heap.size (fun k_ => some k_ ≠ (s_.1 : Value).ownBlock) s_.2.2.1 y210) ∧ (Kd.R k40 40 w' w.heap.size (fun _ => True) u3 x3_2) ∧ (∃ c_, (s_.1 : Value) = .slice (some s_.2.1) y204.length c_) ∧ (∃ c_, (s_.2.2.1 : Value) = .slice (some s_.2.2.2) y210.length c_) ∧ (IsS62 w0 w' g s0_0 t214) ∧ (KeepBut w w' g none) ∧ (Below w0.heap.size w0 w')) ?_ ?_
                 rotate_left
                 ·intro hJ3_4_6_9_11_13
                  refine join_ (σ := Value × Addr × Value × Addr) 6 #[true, true, true, true, true, true, true, true, true, true, true, false, false, false, false, false, false] (fun s_ => [(49, .int .i64 t202), (50, s_.1), (52, .int .i64 t207), (54, .int .i64 (rd y204 t207)), (55, s_.2.2.1), (53, .pointer (some (s_.2.1.add (t207).toNat)))]) (fun s_ w' => (Kd.R (Kd.int .i64) 3 w' w.heap.size (fun k_ => some k_ ≠ (s_.2.2.1 : Value).ownBlock) s_.1 y204) ∧ (Kd.R (Kd.int .i64) 3 w' w.heap.size (fun k_ => some k_ ≠ (s_.1 : Value).ownBlock) s_.2.2.1 y210) ∧ (Kd.R k40 40 w' w.heap.size (fun _ => True) u3 x3_2) ∧ (∃ c_, (s_.1 : Value) = .slice (some s_.2.1) y204.length c_) ∧ (∃ c_, (s_.2.2.1 : Value) = .slice (some s_.2.2.2) y210.length c_) ∧ (IsS62 w0 w' g s0_0 t208) ∧ (KeepBut w w' g none) ∧ (Below w0.heap.size w0 w')) ?_ ?_
                  rotate_left
                  ·intro hJ3_4_6_8_9
                   refine join_ (σ := Value × Addr) 6 #[true, true, true, true, true, true, true, true, true, false, true, true, false, false, false, false, false] (fun s_ => [(49, .int .i64 t202), (50, s_.1), (52, .int .i64 t207), (54, .int .i64 (rd y204 t207)), (57, .int .i64 t213), (53, .pointer (some (s_.2.add (t207).toNat)))]) (fun s_ w' => (Kd.R (Kd.int .i64) 3 w' w.heap.size (fun _ => True) s_.1 y204) ∧ (Kd.R k40 40 w' w.heap.size (fun _ => True) u3 x3_2) ∧ (∃ c_, (s_.1 : Value) = .slice (some s_.2) y204.length c_) ∧ (IsS62 w0 w' g s0_0 t214) ∧ (KeepBut w w' g none) ∧ (Below w0.heap.size w0 w')) ?_ ?_
                   rotate_left
                   ·intro hJ3_4_6_8_11
                    refine join_ (σ := Value × Addr × Value × Addr) 5 #[true, true, true, true, true, true, true, true, false, true, true, true, true, false, false, false, false] (fun s_ => [(49, .int .i64 t202), (50, s_.1), (52, .int .i64 t207), (55, s_.2.2.1), (57, .int .i64 t213), (53, .pointer (some (s_.2.1.add (t207).toNat))), (58, .pointer (some (s_.2.2.2.add (t213).toNat)))]) (fun s_ w' => (Kd.R (Kd.int .i64) 3 w' w.heap.size (fun k_ => some k_ ≠ (s_.2.2.1 : Value).ownBlock) s_.1 y204) ∧ (Kd.R (Kd.int .i64) 3 w' w.heap.size (fun k_ => some k_ ≠ (s_.1 : Value).ownBlock) s_.2.2.1 y210) ∧ (Kd.R k40 40 w' w.heap.size (fun _ => True) u3 x3_2) ∧ (∃ c_, (s_.1 : Value) = .slice (some s_.2.1) y204.length c_) ∧ (∃ c_, (s_.2.2.1 : Value) = .slice (some s_.2.2.2) y210.length c_) ∧ (IsS62 w0 w' g s0_0 t214) ∧ (KeepBut w w' g none) ∧ (Below w0.heap.size w0 w')) ?_ ?_
                    rotate_left
                    ·intro hJ3_4_6_9_11
                     refine join_ (σ := Value × Addr) 6 #[true, true, true, true, false, true, true, false, false, true, true, true, true, true, false, false, false] (fun s_ => [(49, .int .i64 t202), (52, .int .i64 t207), (55, s_.1), (57, .int .i64 t213), (59, .int .i64 (rd y210 t213)), (58, .pointer (some (s_.2.add (t213).toNat)))]) (fun s_ w' => (Kd.R (Kd.int .i64) 3 w' w.heap.size (fun _ => True) s_.1 y210) ∧ (Kd.R k40 40 w' w.heap.size (fun _ => True) u3 x3_2) ∧ (∃ c_, (s_.1 : Value) = .slice (some s_.2) y210.length c_) ∧ (IsS62 w0 w' g s0_0 t214) ∧ (KeepBut w w' g none) ∧ (Below w0.heap.size w0 w')) ?_ ?_
                     rotate_left
                     ·intro hJ3_6_9_11_13
                      refine join_ (σ := Value × Addr) 7 #[true, true, true, true, true, true, true, true, true, false, true, false, false, false, false, false, false] (fun s_ => [(49, .int .i64 t202), (50, s_.1), (52, .int .i64 t207), (54, .int .i64 (rd y204 t207)), (53, .pointer (some (s_.2.add (t207).toNat)))]) (fun s_ w' => (Kd.R (Kd.int .i64) 3 w' w.heap.size (fun _ => True) s_.1 y204) ∧ (Kd.R k40 40 w' w.heap.size (fun _ => True) u3 x3_2) ∧ (∃ c_, (s_.1 : Value) = .slice (some s_.2) y204.length c_) ∧ (IsS62 w0 w' g s0_0 t208) ∧ (KeepBut w w' g none) ∧ (Below w0.heap.size w0 w')) ?_ ?_
                      rotate_left
                      ·intro hJ3_4_6_8
                       refine join_ (σ := Value × Addr × Value × Addr) 7 #[true, true, true, true, true, true, true, true, false, true, true, false, false, false, false, false, false] (fun s_ => [(49, .int .i64 t202), (50, s_.1), (52, .int .i64 t207), (55, s_.2.2.1), (53, .pointer (some (s_.2.1.add (t207).toNat)))]) (fun s_ w' => (Kd.R (Kd.int .i64) 3 w' w.heap.size (fun k_ => some k_ ≠ (s_.2.2.1 : Value).ownBlock) s_.1 y204) ∧ (Kd.R (Kd.int .i64) 3 w' w.heap.size (fun k_ => some k_ ≠ (s_.1 : Value).ownBlock) s_.2.2.1 y210) ∧ (Kd.R k40 40 w' w.heap.size (fun _ => True) u3 x3_2) ∧ (∃ c_, (s_.1 : Value) = .slice (some s_.2.1) y204.length c_) ∧ (∃ c_, (s_.2.2.1 : Value) = .slice (some s_.2.2.2) y210.length c_) ∧ (IsS62 w0 w' g s0_0 t208) ∧ (KeepBut w w' g none) ∧ (Below w0.heap.size w0 w')) ?_ ?_
                       rotate_left
                       ·intro hJ3_4_6_9
                        refine join_ (σ := Value × Addr) 7 #[true, true, true, true, true, true, true, true, false, false, true, true, false, false, false, false, false] (fun s_ => [(49, .int .i64 t202), (50, s_.1), (52, .int .i64 t207), (57, .int .i64 t213), (53, .pointer (some (s_.2.add (t207).toNat)))]) (fun s_ w' => (Kd.R (Kd.int .i64) 3 w' w.heap.size (fun _ => True) s_.1 y204) ∧ (Kd.R k40 40 w' w.heap.size (fun _ => True) u3 x3_2) ∧ (∃ c_, (s_.1 : Value) = .slice (some s_.2) y204.length c_) ∧ (IsS62 w0 w' g s0_0 t214) ∧ (KeepBut w w' g none) ∧ (Below w0.heap.size w0 w')) ?_ ?_
                        rotate_left
                        ·intro hJ3_4_6_11
                         refine join_ (σ := Value × Addr) 7 #[true, true, true, true, false, true, true, false, false, true, true, true, true, false, false, false, false] (fun s_ => [(49, .int .i64 t202), (52, .int .i64 t207), (55, s_.1), (57, .int .i64 t213), (58, .pointer (some (s_.2.add (t213).toNat)))]) (fun s_ w' => (Kd.R (Kd.int .i64) 3 w' w.heap.size (fun _ => True) s_.1 y210) ∧ (Kd.R k40 40 w' w.heap.size (fun _ => True) u3 x3_2) ∧ (∃ c_, (s_.1 : Value) = .slice (some s_.2) y210.length c_) ∧ (IsS62 w0 w' g s0_0 t214) ∧ (KeepBut w w' g none) ∧ (Below w0.heap.size w0 w')) ?_ ?_
                         rotate_left
                         ·intro hJ3_6_9_11
                          refine join_ (σ := Value × Addr) 8 #[true, true, true, true, true, true, true, true, false, false, true, false, false, false, false, false, false] (fun s_ => [(49, .int .i64 t202), (50, s_.1), (52, .int .i64 t207), (53, .pointer (some (s_.2.add (t207).toNat)))]) (fun s_ w' => (Kd.R (Kd.int .i64) 3 w' w.heap.size (fun _ => True) s_.1 y204) ∧ (Kd.R k40 40 w' w.heap.size (fun _ => True) u3 x3_2) ∧ (∃ c_, (s_.1 : Value) = .slice (some s_.2) y204.length c_) ∧ (IsS62 w0 w' g s0_0 t208) ∧ (KeepBut w w' g none) ∧ (Below w0.heap.size w0 w')) ?_ ?_
                          rotate_left
                          ·intro hJ3_4_6
                           refine join_ (σ := Value × Addr × Value × Addr) 9 #[true, true, true, true, true, true, false, false, false, true, true, false, false, false, false, false, false] (fun s_ => [(49, .int .i64 t202), (50, s_.1), (55, s_.2.2.1)]) (fun s_ w' => (Kd.R (Kd.int .i64) 3 w' w.heap.size (fun k_ => some k_ ≠ (s_.2.2.1 : Value).ownBlock) s_.1 y204) ∧ (Kd.R (Kd.int .i64) 3 w' w.heap.size (fun k_ => some k_ ≠ (s_.1 : Value).ownBlock) s_.2.2.1 y210) ∧ (Kd.R k40 40 w' w.heap.size (fun _ => True) u3 x3_2) ∧ (∃ c_, (s_.1 : Value) = .slice (some s_.2.1) y204.length c_) ∧ (∃ c_, (s_.2.2.1 : Value) = .slice (some s_.2.2.2) y210.length c_) ∧ (IsS62 w0 w' g s0_0 t203) ∧ (KeepBut w w' g none) ∧ (Below w0.heap.size w0 w')) ?_ ?_
                           rotate_left
                           ·intro hJ3_4_9
                            refine join_ (σ := Value × Addr) 9 #[true, true, true, true, false, true, true, false, false, true, true, false, false, false, false, false, false] (fun s_ => [(49, .int .i64 t202), (52, .int .i64 t207), (55, s_.1)]) (fun s_ w' => (Kd.R (Kd.int .i64) 3 w' w.heap.size (fun _ => True) s_.1 y210) ∧ (Kd.R k40 40 w' w.heap.size (fun _ => True) u3 x3_2) ∧ (∃ c_, (s_.1 : Value) = .slice (some s_.2) y210.length c_) ∧ (IsS62 w0 w' g s0_0 t208) ∧ (KeepBut w w' g none) ∧ (Below w0.heap.size w0 w')) ?_ ?_
                            rotate_left
                            ·intro hJ3_6_9
                             refine join_ (σ := Unit) 9 #[true, true, true, true, false, true, true, false, false, false, true, true, false, false, false, false, false] (fun s_ => [(49, .int .i64 t202), (52, .int .i64 t207), (57, .int .i64 t213)]) (fun s_ w' => (Kd.R k40 40 w' w.heap.size (fun _ => True) u3 x3_2) ∧ (IsS62 w0 w' g s0_0 t214) ∧ (KeepBut w w' g none) ∧ (Below w0.heap.size w0 w')) ?_ ?_
                             rotate_left
                             ·intro hJ3_6_11
                              refine join_ (σ := Value × Addr) 10 #[true, true, true, true, true, true, false, false, false, false, true, false, false, false, false, false, false] (fun s_ => [(49, .int .i64 t202), (50, s_.1)]) (fun s_ w' => (Kd.R (Kd.int .i64) 3 w' w.heap.size (fun _ => True) s_.1 y204) ∧ (Kd.R k40 40 w' w.heap.size (fun _ => True) u3 x3_2) ∧ (∃ c_, (s_.1 : Value) = .slice (some s_.2) y204.length c_) ∧ (IsS62 w0 w' g s0_0 t203) ∧ (KeepBut w w' g none) ∧ (Below w0.heap.size w0 w')) ?_ ?_
                              rotate_left
                              ·intro hJ3_4
                               refine join_ (σ := Unit) 10 #[true, true, true, true, false, true, true, false, false, false, true, false, false, false, false, false, false] (fun s_ => [(49, .int .i64 t202), (52, .int .i64 t207)]) (fun s_ w' => (Kd.R k40 40 w' w.heap.size (fun _ => True) u3 x3_2) ∧ (IsS62 w0 w' g s0_0 t208) ∧ (KeepBut w w' g none) ∧ (Below w0.heap.size w0 w')) ?_ ?_
                               rotate_left
                               ·intro hJ3_6
                                refine join_ (σ := Value × Addr) 10 #[true, true, true, true, false, true, false, false, false, true, true, false, false, false, false, false, false] (fun s_ => [(49, .int .i64 t202), (55, s_.1)]) (fun s_ w' => (Kd.R (Kd.int .i64) 3 w' w.heap.size (fun _ => True) s_.1 y210) ∧ (Kd.R k40 40 w' w.heap.size (fun _ => True) u3 x3_2) ∧ (∃ c_, (s_.1 : Value) = .slice (some s_.2) y210.length c_) ∧ (IsS62 w0 w' g s0_0 t203) ∧ (KeepBut w w' g none) ∧ (Below w0.heap.size w0 w')) ?_ ?_
                                rotate_left
                                ·intro hJ3_9
                                 refine join_ (σ := Value × Addr × Value × Addr) 10 #[true, true, true, false, true, true, false, false, false, true, true, false, false, false, false, false, false] (fun s_ => [(50, s_.1), (55, s_.2.2.1)]) (fun s_ w' => (Kd.R (Kd.int .i64) 3 w' w.heap.size (fun k_ => some k_ ≠ (s_.2.2.1 : Value).ownBlock) s_.1 y204) ∧ (Kd.R (Kd.int .i64) 3 w' w.heap.size (fun k_ => some k_ ≠ (s_.1 : Value).ownBlock) s_.2.2.1 y210) ∧ (Kd.R k40 40 w' w.heap.size (fun _ => True) u3 x3_2) ∧ (∃ c_, (s_.1 : Value) = .slice (some s_.2.1) y204.length c_) ∧ (∃ c_, (s_.2.2.1 : Value) = .slice (some s_.2.2.2) y210.length c_) ∧ (IsS62 w0 w' g s0_0 x1001_37) ∧ (KeepBut w w' g none) ∧ (Below w0.heap.size w0 w')) ?_ ?_
                                 rotate_left
                                 ·intro hJ4_9
                                  refine join_ (σ := Unit) 11 #[true, true, true, true, false, true, false, false, false, false, true, false, false, false, false, false, false] (fun s_ => [(49, .int .i64 t202)]) (fun s_ w' => (Kd.R k40 40 w' w.heap.size (fun _ => True) u3 x3_2) ∧ (IsS62 w0 w' g s0_0 t203) ∧ (KeepBut w w' g none) ∧ (Below w0.heap.size w0 w')) ?_ ?_
                                  rotate_left
                                  ·intro hJ3
                                   refine join_ (σ := Value × Addr) 11 #[true, true, true, false, true, true, false, false, false, false, true, false, false, false, false, false, false] (fun s_ => [(50, s_.1)]) (fun s_ w' => (Kd.R (Kd.int .i64) 3 w' w.heap.size (fun _ => True) s_.1 y204) ∧ (Kd.R k40 40 w' w.heap.size (fun _ => True) u3 x3_2) ∧ (∃ c_, (s_.1 : Value) = .slice (some s_.2) y204.length c_) ∧ (IsS62 w0 w' g s0_0 x1001_37) ∧ (KeepBut w w' g none) ∧ (Below w0.heap.size w0 w')) ?_ ?_
                                   rotate_left
                                   ·intro hJ4
                                    refine join_ (σ := Value × Addr) 11 #[true, true, true, false, false, true, false, false, false, true, true, false, false, false, false, false, false] (fun s_ => [(55, s_.1)]) (fun s_ w' => (Kd.R (Kd.int .i64) 3 w' w.heap.size (fun _ => True) s_.1 y210) ∧ (Kd.R k40 40 w' w.heap.size (fun _ => True) u3 x3_2) ∧ (∃ c_, (s_.1 : Value) = .slice (some s_.2) y210.length c_) ∧ (IsS62 w0 w' g s0_0 x1001_37) ∧ (KeepBut w w' g none) ∧ (Below w0.heap.size w0 w')) ?_ ?_
                                    rotate_left
                                    ·intro hJ9
                                     refine three_ (i := 3) (j := 4) (k := 9) (Ni := some 49) (Nj := some 50) (Nk := some 55) #[true, true, true, true, false, true, false, false, false, false, true, false, false, false, false, false, false] #[true, true, true, false, true, true, false, false, false, false, true, false, false, false, false, false, false] #[true, true, true, false, false, true, false, false, false, true, true, false, false, false, false, false, false] rfl rfl rfl rfl rfl rfl (three_of HT_.out pL) (by decide) (by decide) (by decide) (fun K hK => ?_) (fun K hK => ?_) (fun K hK => ?_)
                                     ·skip
                                      refine goes_ Try.func46 pL rfl #[.pointer (some ⟨g, 0, none⟩), .int .i64 x4_3] (by rfl) rfl rfl pM ?_
                                      with_reducible refine (spec_l6Rd_pick.calls kj37 g s0_0 x1001_37 x4_3 t202 t203 w0 _ ?side1 ?side2 A43.out).mono ?_
                                      (case side1 => repeat (first | (with_reducible first | exact HI0.out | apply IsS62.alloc | apply IsS62.drewN | apply IsS62.drew | apply IsS62.set_1) | exact HI0.out))
                                      (case side2 => repeat (first | (with_reducible first | exact HB.out | apply below_alloc | apply pw_below_drewN | apply below_drew1 | refine below_set ?_ (IsS62.ge HI0.out)) | exact HB.out))
                                      rintro e w54 ⟨rfl, hi, hb, hk⟩
                                      refine ⟨_, rfl, ?_⟩
                                      have n0_ := Aside0.mk (Kd.R_mono (Kd.R_keep (IsS62.apart (show IsS62 w0 _ g s0_0 x1001_37 from by repeat (first | (with_reducible first | exact HI0.out | apply IsS62.alloc | apply IsS62.drewN | apply IsS62.drew | apply IsS62.set_1) | exact HI0.out)) (pR HO_3) (by decide)) hk (fun _ h => h.2)) (fun _ h => h.1))
                                      have n1_ := Aside0.mk (KeepBut.trans pK hk (.inl rfl))
                                      have n2_ := Aside0.mk (hb)
                                      have n3_ := Aside0.mk (hi)
                                      clear HO_3
                                      clear HK
                                      clear HB
                                      clear HI0
                                      have HO_3 := n0_
                                      have HK := n1_
                                      have HB := n2_
                                      have HI0 := n3_
                                      clear n0_ n1_ n2_ n3_
                                      (try clear hb)
                                      (try clear hb2)
                                      (try clear hk)
                                      (try clear hi)
                                      refine hK.out _ _ trivial (fun hHeld => ?_)
                                      clear hK K
                                      refine norm_ (a' := ?_) ?_ ?_
                                      rotate_left
                                      ·show Act.put _ (some 49) _ = _
                                       exact pP
                                      exact norm_ (by first | (simp only [putAll, Act.put, List.setIfInBounds_toArray, List.set_cons_zero, List.set_cons_succ]; done) | (simp only [putAll, Act.put, List.setIfInBounds_toArray, List.set_cons_zero, List.set_cons_succ]; rfl)) (hJ3 () _ ⟨(pR HO_3), (by repeat (first | (with_reducible first | exact HI0.out | apply IsS62.alloc | apply IsS62.drewN | apply IsS62.drew | apply IsS62.set_1) | exact HI0.out)), pK, (by repeat (first | (with_reducible first | exact HB.out | apply below_alloc | apply pw_below_drewN | apply below_drew1 | refine below_set ?_ (IsS62.ge HI0.out)) | exact HB.out))⟩)
                                     ·skip
                                      refine Kd.R_lit_step (Kd.int .i64) _ 3 ?hg (N := 50) ?hd (xs := ([0, 4, 5] : List Int)) (inner := [.int .i64 0, .int .i64 4, .int .i64 5]) (ok := fun _ => True) (okp := fun _ => True) ?hr ?hp (fun _ hk => hk) trivial (Below.refl _ _) (Nat.le_refl _) (by simp) ?_; (case hd => rfl); (case hg => rfl); (case hr => first | (go_simp; done) | (go_simp; rfl)); (case hp => exact (Reps.one (show Kd.M (Kd.int .i64) _ _ _ 0 [.int .i64 0] from rfl) (Reps.one (show Kd.M (Kd.int .i64) _ _ _ 4 [.int .i64 4] from rfl) (Reps.one (show Kd.M (Kd.int .i64) _ _ _ 5 [.int .i64 5] from rfl) (Reps.none _ _)))))
                                      intro v205 w54 ho55 hb hg_ hnew_
                                      clear hg_ hnew_
                                      (first | rw [← Ny204.out] at ho55 | (simp only [Int.reduceToNat] at ho55; rw [← Ny204.out] at ho55))
                                      have n0_ := Aside0.mk (Kd.R_below (pR HO_3) hb)
                                      have n1_ := Aside0.mk (Kd.R_lower ho55 (keep_size (w := w) (g := g) (row := none) pK))
                                      have n2_ := Aside0.mk (IsS62.below (by repeat (first | (with_reducible first | exact HI0.out | apply IsS62.alloc | apply IsS62.drewN | apply IsS62.drew | apply IsS62.set_1) | exact HI0.out)) hb)
                                      have n3_ := Aside0.mk (KeepBut.trans pK (KeepBut.of_below hb g none) (.inl rfl))
                                      have n4_ := Aside0.mk (below_step (by repeat (first | (with_reducible first | exact HB.out | apply below_alloc | apply pw_below_drewN | apply below_drew1 | refine below_set ?_ (IsS62.ge HI0.out)) | exact HB.out)) hb)
                                      clear HO_3
                                      clear HI0
                                      clear HK
                                      clear HB
                                      have HO_3 := n0_
                                      have HO206 := n1_
                                      have HI0 := n2_
                                      have HK := n3_
                                      have HB := n4_
                                      clear n0_ n1_ n2_ n3_ n4_
                                      clear hb ho55
                                      obtain ⟨Ao56, co56, eo56⟩ := Kd.R_slice HO206.out
                                      subst eo56
                                      obtain ⟨ado56, fo56, _⟩ := Kd.at_int (Kd.R_reads' HO206.out).2.2 0 (by decide) (by rw [Ny204.out]; simp)
                                      cases fo56
                                      refine hK.out _ _ trivial (fun hHeld => ?_)
                                      clear hK K
                                      refine norm_ (a' := ?_) ?_ ?_
                                      rotate_left
                                      ·show Act.put _ (some 50) _ = _
                                       exact pP
                                      exact norm_ (by first | (simp only [putAll, Act.put, List.setIfInBounds_toArray, List.set_cons_zero, List.set_cons_succ]; done) | (simp only [putAll, Act.put, List.setIfInBounds_toArray, List.set_cons_zero, List.set_cons_succ]; rfl)) (hJ4 (.slice (some ado56) y204.length co56, ado56) _ ⟨(pR HO206), (pR HO_3), ⟨_, rfl⟩, (by repeat (first | (with_reducible first | exact HI0.out | apply IsS62.alloc | apply IsS62.drewN | apply IsS62.drew | apply IsS62.set_1) | exact HI0.out)), pK, (by repeat (first | (with_reducible first | exact HB.out | apply below_alloc | apply pw_below_drewN | apply below_drew1 | refine below_set ?_ (IsS62.ge HI0.out)) | exact HB.out))⟩)
                                     ·skip
                                      refine Kd.R_lit_step (Kd.int .i64) _ 3 ?hg (N := 55) ?hd (xs := ([(-1), 255, 256] : List Int)) (inner := [.int .i64 (-1), .int .i64 255, .int .i64 256]) (ok := fun _ => True) (okp := fun _ => True) ?hr ?hp (fun _ hk => hk) trivial (Below.refl _ _) (Nat.le_refl _) (by simp) ?_; (case hd => rfl); (case hg => rfl); (case hr => first | (go_simp; done) | (go_simp; rfl)); (case hp => exact (Reps.one (show Kd.M (Kd.int .i64) _ _ _ (-1) [.int .i64 (-1)] from rfl) (Reps.one (show Kd.M (Kd.int .i64) _ _ _ 255 [.int .i64 255] from rfl) (Reps.one (show Kd.M (Kd.int .i64) _ _ _ 256 [.int .i64 256] from rfl) (Reps.none _ _)))))
                                      intro v211 w54 ho55 hb hg_ hnew_
                                      clear hg_ hnew_
                                      (first | rw [← Ny210.out] at ho55 | (simp only [Int.reduceToNat] at ho55; rw [← Ny210.out] at ho55))
                                      have n0_ := Aside0.mk (Kd.R_below (pR HO_3) hb)
                                      have n1_ := Aside0.mk (Kd.R_lower ho55 (keep_size (w := w) (g := g) (row := none) pK))
                                      have n2_ := Aside0.mk (IsS62.below (by repeat (first | (with_reducible first | exact HI0.out | apply IsS62.alloc | apply IsS62.drewN | apply IsS62.drew | apply IsS62.set_1) | exact HI0.out)) hb)
                                      have n3_ := Aside0.mk (KeepBut.trans pK (KeepBut.of_below hb g none) (.inl rfl))
                                      have n4_ := Aside0.mk (below_step (by repeat (first | (with_reducible first | exact HB.out | apply below_alloc | apply pw_below_drewN | apply below_drew1 | refine below_set ?_ (IsS62.ge HI0.out)) | exact HB.out)) hb)
                                      clear HO_3
                                      clear HI0
                                      clear HK
                                      clear HB
                                      have HO_3 := n0_
                                      have HO212 := n1_
                                      have HI0 := n2_
                                      have HK := n3_
                                      have HB := n4_
                                      clear n0_ n1_ n2_ n3_ n4_
                                      clear hb ho55
                                      obtain ⟨Ao56, co56, eo56⟩ := Kd.R_slice HO212.out
                                      subst eo56
                                      obtain ⟨ado56, fo56, _⟩ := Kd.at_int (Kd.R_reads' HO212.out).2.2 0 (by decide) (by rw [Ny210.out]; simp)
                                      cases fo56
                                      refine hK.out _ _ trivial (fun hHeld => ?_)
                                      clear hK K
                                      refine norm_ (a' := ?_) ?_ ?_
                                      rotate_left
                                      ·show Act.put _ (some 55) _ = _
                                       exact pP
                                      exact norm_ (by first | (simp only [putAll, Act.put, List.setIfInBounds_toArray, List.set_cons_zero, List.set_cons_succ]; done) | (simp only [putAll, Act.put, List.setIfInBounds_toArray, List.set_cons_zero, List.set_cons_succ]; rfl)) (hJ9 (.slice (some ado56) y210.length co56, ado56) _ ⟨(pR HO212), (pR HO_3), ⟨_, rfl⟩, (by repeat (first | (with_reducible first | exact HI0.out | apply IsS62.alloc | apply IsS62.drewN | apply IsS62.drew | apply IsS62.set_1) | exact HI0.out)), pK, (by repeat (first | (with_reducible first | exact HB.out | apply below_alloc | apply pw_below_drewN | apply below_drew1 | refine below_set ?_ (IsS62.ge HI0.out)) | exact HB.out))⟩)
                                    ·skip
                                     rintro ⟨v211, adz_v211⟩ w57 ⟨h0_, h1_, h2_, h3_, h4_, h5_⟩
                                     have n0_ : Aside0 (Kd.R (Kd.int .i64) 3 w57 w.heap.size (fun _ => True) v211 y210) := ⟨h0_⟩
                                     have n1_ : Aside0 (Kd.R k40 40 w57 w.heap.size (fun _ => True) u3 x3_2) := ⟨h1_⟩
                                     have n2_ : Aside0 (∃ c_, (v211 : Value) = .slice (some adz_v211) y210.length c_) := ⟨h2_⟩
                                     have n3_ : Aside0 (IsS62 w0 w57 g s0_0 x1001_37) := ⟨h3_⟩
                                     have n4_ : Aside0 (KeepBut w w57 g none) := ⟨h4_⟩
                                     have n5_ : Aside0 (Below w0.heap.size w0 w57) := ⟨h5_⟩
                                     clear HO_3
                                     clear HI0
                                     clear HK
                                     clear HB
                                     clear h0_ h1_ h2_ h3_ h4_ h5_
                                     have HO212 := n0_
                                     have HO_3 := n1_
                                     have HA_HO212 := n2_
                                     have HI0 := n3_
                                     have HK := n4_
                                     have HB := n5_
                                     clear n0_ n1_ n2_ n3_ n4_ n5_
                                     have hHeld := trivial
                                     obtain ⟨co58, eo58⟩ := HA_HO212.out
                                     clear HA_HO212
                                     subst eo58
                                     refine norm_ (a' := ?_) ?_ ?_
                                     rotate_left
                                     ·simp only [putAll, Act.put, List.setIfInBounds_toArray, List.set_cons_zero, List.set_cons_succ]
                                      rfl
                                     refine two_ (i := 3) (j := 4) (Ni := some 49) (Nj := some 50) #[true, true, true, true, false, true, false, false, false, true, true, false, false, false, false, false, false] #[true, true, true, false, true, true, false, false, false, true, true, false, false, false, false, false, false] rfl rfl rfl rfl (two_of HT_.out pL) (by decide) (by decide) (fun K hK => ?_) (fun K hK => ?_)
                                     ·skip
                                      refine goes_ Try.func46 pL rfl #[.pointer (some ⟨g, 0, none⟩), .int .i64 x4_3] (by rfl) rfl rfl pM ?_
                                      with_reducible refine (spec_l6Rd_pick.calls kj37 g s0_0 x1001_37 x4_3 t202 t203 w0 _ ?side1 ?side2 A43.out).mono ?_
                                      (case side1 => repeat (first | (with_reducible first | exact HI0.out | apply IsS62.alloc | apply IsS62.drewN | apply IsS62.drew | apply IsS62.set_1) | exact HI0.out))
                                      (case side2 => repeat (first | (with_reducible first | exact HB.out | apply below_alloc | apply pw_below_drewN | apply below_drew1 | refine below_set ?_ (IsS62.ge HI0.out)) | exact HB.out))
                                      rintro e w59 ⟨rfl, hi, hb, hk⟩
                                      refine ⟨_, rfl, ?_⟩
                                      have n0_ := Aside0.mk (Kd.R_mono (Kd.R_keep (IsS62.apart (show IsS62 w0 _ g s0_0 x1001_37 from by repeat (first | (with_reducible first | exact HI0.out | apply IsS62.alloc | apply IsS62.drewN | apply IsS62.drew | apply IsS62.set_1) | exact HI0.out)) (pR HO_3) (by decide)) hk (fun _ h => h.2)) (fun _ h => h.1))
                                      have n1_ := Aside0.mk (Kd.R_mono (Kd.R_keep (IsS62.apart (show IsS62 w0 _ g s0_0 x1001_37 from by repeat (first | (with_reducible first | exact HI0.out | apply IsS62.alloc | apply IsS62.drewN | apply IsS62.drew | apply IsS62.set_1) | exact HI0.out)) (pR HO212) (by decide)) hk (fun _ h => h.2)) (fun _ h => h.1))
                                      have n2_ := Aside0.mk (KeepBut.trans pK hk (.inl rfl))
                                      have n3_ := Aside0.mk (hb)
                                      have n4_ := Aside0.mk (hi)
                                      clear HO_3
                                      clear HO212
                                      clear HK
                                      clear HB
                                      clear HI0
                                      have HO_3 := n0_
                                      have HO212 := n1_
                                      have HK := n2_
                                      have HB := n3_
                                      have HI0 := n4_
                                      clear n0_ n1_ n2_ n3_ n4_
                                      (try clear hb)
                                      (try clear hb2)
                                      (try clear hk)
                                      (try clear hi)
                                      refine hK.out _ _ trivial (fun hHeld => ?_)
                                      clear hK K
                                      refine norm_ (a' := ?_) ?_ ?_
                                      rotate_left
                                      ·show Act.put _ (some 49) _ = _
                                       exact pP
                                      exact norm_ (by first | (simp only [putAll, Act.put, List.setIfInBounds_toArray, List.set_cons_zero, List.set_cons_succ]; done) | (simp only [putAll, Act.put, List.setIfInBounds_toArray, List.set_cons_zero, List.set_cons_succ]; rfl)) (hJ3_9 (.slice (some adz_v211) y210.length co58, adz_v211) _ ⟨(pR HO212), (pR HO_3), ⟨_, rfl⟩, (by repeat (first | (with_reducible first | exact HI0.out | apply IsS62.alloc | apply IsS62.drewN | apply IsS62.drew | apply IsS62.set_1) | exact HI0.out)), pK, (by repeat (first | (with_reducible first | exact HB.out | apply below_alloc | apply pw_below_drewN | apply below_drew1 | refine below_set ?_ (IsS62.ge HI0.out)) | exact HB.out))⟩)
                                     ·skip
                                      refine Kd.R_lit_step (Kd.int .i64) _ 3 ?hg (N := 50) ?hd (xs := ([0, 4, 5] : List Int)) (inner := [.int .i64 0, .int .i64 4, .int .i64 5]) (ok := fun _ => True) (okp := fun _ => True) ?hr ?hp (fun _ hk => hk) trivial (Below.refl _ _) (Nat.le_refl _) (by simp) ?_; (case hd => rfl); (case hg => rfl); (case hr => first | (go_simp; done) | (go_simp; rfl)); (case hp => exact (Reps.one (show Kd.M (Kd.int .i64) _ _ _ 0 [.int .i64 0] from rfl) (Reps.one (show Kd.M (Kd.int .i64) _ _ _ 4 [.int .i64 4] from rfl) (Reps.one (show Kd.M (Kd.int .i64) _ _ _ 5 [.int .i64 5] from rfl) (Reps.none _ _)))))
                                      intro v205 w59 ho60 hb hg_ hnew_
                                      clear hg_ hnew_
                                      (first | rw [← Ny204.out] at ho60 | (simp only [Int.reduceToNat] at ho60; rw [← Ny204.out] at ho60))
                                      have n0_ := Aside0.mk (Kd.R_below (pR HO_3) hb)
                                      have n1_ := Aside0.mk (Kd.R_elder' (pR HO212) (Kd.R_base ho60) hb)
                                      have n2_ := Aside0.mk (Kd.R_lower (Kd.R_new' ho60 (Kd.R_lt (pR HO212))) (keep_size (w := w) (g := g) (row := none) pK))
                                      have n3_ := Aside0.mk (IsS62.below (by repeat (first | (with_reducible first | exact HI0.out | apply IsS62.alloc | apply IsS62.drewN | apply IsS62.drew | apply IsS62.set_1) | exact HI0.out)) hb)
                                      have n4_ := Aside0.mk (KeepBut.trans pK (KeepBut.of_below hb g none) (.inl rfl))
                                      have n5_ := Aside0.mk (below_step (by repeat (first | (with_reducible first | exact HB.out | apply below_alloc | apply pw_below_drewN | apply below_drew1 | refine below_set ?_ (IsS62.ge HI0.out)) | exact HB.out)) hb)
                                      clear HO_3
                                      clear HO212
                                      clear HI0
                                      clear HK
                                      clear HB
                                      have HO_3 := n0_
                                      have HO212 := n1_
                                      have HO206 := n2_
                                      have HI0 := n3_
                                      have HK := n4_
                                      have HB := n5_
                                      clear n0_ n1_ n2_ n3_ n4_ n5_
                                      clear hb ho60
                                      obtain ⟨Ao61, co61, eo61⟩ := Kd.R_slice HO206.out
                                      subst eo61
                                      obtain ⟨ado61, fo61, _⟩ := Kd.at_int (Kd.R_reads' HO206.out).2.2 0 (by decide) (by rw [Ny204.out]; simp)
                                      cases fo61
                                      refine hK.out _ _ trivial (fun hHeld => ?_)
                                      clear hK K
                                      refine norm_ (a' := ?_) ?_ ?_
                                      rotate_left
                                      ·show Act.put _ (some 50) _ = _
                                       exact pP
                                      exact norm_ (by first | (simp only [putAll, Act.put, List.setIfInBounds_toArray, List.set_cons_zero, List.set_cons_succ]; done) | (simp only [putAll, Act.put, List.setIfInBounds_toArray, List.set_cons_zero, List.set_cons_succ]; rfl)) (hJ4_9 (.slice (some ado61) y204.length co61, ado61, .slice (some adz_v211) y210.length co58, adz_v211) _ ⟨(by (with_reducible repeat (first | apply Kd.R_alloc | apply Kd.R_drewN | apply Kd.R_drew)); exact Kd.R_mono HO206.out (fun _ hk => hk.2)), (by (with_reducible repeat (first | apply Kd.R_alloc | apply Kd.R_drewN | apply Kd.R_drew)); exact Kd.R_mono HO212.out (fun _ hk => hk.2)), (pR HO_3), ⟨_, rfl⟩, ⟨_, rfl⟩, (by repeat (first | (with_reducible first | exact HI0.out | apply IsS62.alloc | apply IsS62.drewN | apply IsS62.drew | apply IsS62.set_1) | exact HI0.out)), pK, (by repeat (first | (with_reducible first | exact HB.out | apply below_alloc | apply pw_below_drewN | apply below_drew1 | refine below_set ?_ (IsS62.ge HI0.out)) | exact HB.out))⟩)
                                   ·skip
                                    rintro ⟨v205, adz_v205⟩ w57 ⟨h0_, h1_, h2_, h3_, h4_, h5_⟩
                                    have n0_ : Aside0 (Kd.R (Kd.int .i64) 3 w57 w.heap.size (fun _ => True) v205 y204) := ⟨h0_⟩
                                    have n1_ : Aside0 (Kd.R k40 40 w57 w.heap.size (fun _ => True) u3 x3_2) := ⟨h1_⟩
                                    have n2_ : Aside0 (∃ c_, (v205 : Value) = .slice (some adz_v205) y204.length c_) := ⟨h2_⟩
                                    have n3_ : Aside0 (IsS62 w0 w57 g s0_0 x1001_37) := ⟨h3_⟩
                                    have n4_ : Aside0 (KeepBut w w57 g none) := ⟨h4_⟩
                                    have n5_ : Aside0 (Below w0.heap.size w0 w57) := ⟨h5_⟩
                                    clear HO_3
                                    clear HI0
                                    clear HK
                                    clear HB
                                    clear h0_ h1_ h2_ h3_ h4_ h5_
                                    have HO206 := n0_
                                    have HO_3 := n1_
                                    have HA_HO206 := n2_
                                    have HI0 := n3_
                                    have HK := n4_
                                    have HB := n5_
                                    clear n0_ n1_ n2_ n3_ n4_ n5_
                                    have hHeld := trivial
                                    obtain ⟨co58, eo58⟩ := HA_HO206.out
                                    clear HA_HO206
                                    subst eo58
                                    refine norm_ (a' := ?_) ?_ ?_
                                    rotate_left
                                    ·simp only [putAll, Act.put, List.setIfInBounds_toArray, List.set_cons_zero, List.set_cons_succ]
                                     rfl
                                    refine two_ (i := 3) (j := 9) (Ni := some 49) (Nj := some 55) #[true, true, true, true, true, true, false, false, false, false, true, false, false, false, false, false, false] #[true, true, true, false, true, true, false, false, false, true, true, false, false, false, false, false, false] rfl rfl rfl rfl (two_of HT_.out pL) (by decide) (by decide) (fun K hK => ?_) (fun K hK => ?_)
                                    ·skip
                                     refine goes_ Try.func46 pL rfl #[.pointer (some ⟨g, 0, none⟩), .int .i64 x4_3] (by rfl) rfl rfl pM ?_
                                     with_reducible refine (spec_l6Rd_pick.calls kj37 g s0_0 x1001_37 x4_3 t202 t203 w0 _ ?side1 ?side2 A43.out).mono ?_
                                     (case side1 => repeat (first | (with_reducible first | exact HI0.out | apply IsS62.alloc | apply IsS62.drewN | apply IsS62.drew | apply IsS62.set_1) | exact HI0.out))
                                     (case side2 => repeat (first | (with_reducible first | exact HB.out | apply below_alloc | apply pw_below_drewN | apply below_drew1 | refine below_set ?_ (IsS62.ge HI0.out)) | exact HB.out))
                                     rintro e w59 ⟨rfl, hi, hb, hk⟩
                                     refine ⟨_, rfl, ?_⟩
                                     have n0_ := Aside0.mk (Kd.R_mono (Kd.R_keep (IsS62.apart (show IsS62 w0 _ g s0_0 x1001_37 from by repeat (first | (with_reducible first | exact HI0.out | apply IsS62.alloc | apply IsS62.drewN | apply IsS62.drew | apply IsS62.set_1) | exact HI0.out)) (pR HO_3) (by decide)) hk (fun _ h => h.2)) (fun _ h => h.1))
                                     have n1_ := Aside0.mk (Kd.R_mono (Kd.R_keep (IsS62.apart (show IsS62 w0 _ g s0_0 x1001_37 from by repeat (first | (with_reducible first | exact HI0.out | apply IsS62.alloc | apply IsS62.drewN | apply IsS62.drew | apply IsS62.set_1) | exact HI0.out)) (pR HO206) (by decide)) hk (fun _ h => h.2)) (fun _ h => h.1))
                                     have n2_ := Aside0.mk (KeepBut.trans pK hk (.inl rfl))
                                     have n3_ := Aside0.mk (hb)
                                     have n4_ := Aside0.mk (hi)
                                     clear HO_3
                                     clear HO206
                                     clear HK
                                     clear HB
                                     clear HI0
                                     have HO_3 := n0_
                                     have HO206 := n1_
                                     have HK := n2_
                                     have HB := n3_
                                     have HI0 := n4_
                                     clear n0_ n1_ n2_ n3_ n4_
                                     (try clear hb)
                                     (try clear hb2)
                                     (try clear hk)
                                     (try clear hi)
                                     refine hK.out _ _ trivial (fun hHeld => ?_)
                                     clear hK K
                                     refine norm_ (a' := ?_) ?_ ?_
                                     rotate_left
                                     ·show Act.put _ (some 49) _ = _
                                      exact pP
                                     exact norm_ (by first | (simp only [putAll, Act.put, List.setIfInBounds_toArray, List.set_cons_zero, List.set_cons_succ]; done) | (simp only [putAll, Act.put, List.setIfInBounds_toArray, List.set_cons_zero, List.set_cons_succ]; rfl)) (hJ3_4 (.slice (some adz_v205) y204.length co58, adz_v205) _ ⟨(pR HO206), (pR HO_3), ⟨_, rfl⟩, (by repeat (first | (with_reducible first | exact HI0.out | apply IsS62.alloc | apply IsS62.drewN | apply IsS62.drew | apply IsS62.set_1) | exact HI0.out)), pK, (by repeat (first | (with_reducible first | exact HB.out | apply below_alloc | apply pw_below_drewN | apply below_drew1 | refine below_set ?_ (IsS62.ge HI0.out)) | exact HB.out))⟩)
                                    ·skip
                                     refine Kd.R_lit_step (Kd.int .i64) _ 3 ?hg (N := 55) ?hd (xs := ([(-1), 255, 256] : List Int)) (inner := [.int .i64 (-1), .int .i64 255, .int .i64 256]) (ok := fun _ => True) (okp := fun _ => True) ?hr ?hp (fun _ hk => hk) trivial (Below.refl _ _) (Nat.le_refl _) (by simp) ?_; (case hd => rfl); (case hg => rfl); (case hr => first | (go_simp; done) | (go_simp; rfl)); (case hp => exact (Reps.one (show Kd.M (Kd.int .i64) _ _ _ (-1) [.int .i64 (-1)] from rfl) (Reps.one (show Kd.M (Kd.int .i64) _ _ _ 255 [.int .i64 255] from rfl) (Reps.one (show Kd.M (Kd.int .i64) _ _ _ 256 [.int .i64 256] from rfl) (Reps.none _ _)))))
                                     intro v211 w59 ho60 hb hg_ hnew_
                                     clear hg_ hnew_
                                     (first | rw [← Ny210.out] at ho60 | (simp only [Int.reduceToNat] at ho60; rw [← Ny210.out] at ho60))
                                     have n0_ := Aside0.mk (Kd.R_below (pR HO_3) hb)
                                     have n1_ := Aside0.mk (Kd.R_elder' (pR HO206) (Kd.R_base ho60) hb)
                                     have n2_ := Aside0.mk (Kd.R_lower (Kd.R_new' ho60 (Kd.R_lt (pR HO206))) (keep_size (w := w) (g := g) (row := none) pK))
                                     have n3_ := Aside0.mk (IsS62.below (by repeat (first | (with_reducible first | exact HI0.out | apply IsS62.alloc | apply IsS62.drewN | apply IsS62.drew | apply IsS62.set_1) | exact HI0.out)) hb)
                                     have n4_ := Aside0.mk (KeepBut.trans pK (KeepBut.of_below hb g none) (.inl rfl))
                                     have n5_ := Aside0.mk (below_step (by repeat (first | (with_reducible first | exact HB.out | apply below_alloc | apply pw_below_drewN | apply below_drew1 | refine below_set ?_ (IsS62.ge HI0.out)) | exact HB.out)) hb)
                                     clear HO_3
                                     clear HO206
                                     clear HI0
                                     clear HK
                                     clear HB
                                     have HO_3 := n0_
                                     have HO206 := n1_
                                     have HO212 := n2_
                                     have HI0 := n3_
                                     have HK := n4_
                                     have HB := n5_
                                     clear n0_ n1_ n2_ n3_ n4_ n5_
                                     clear hb ho60
                                     obtain ⟨Ao61, co61, eo61⟩ := Kd.R_slice HO212.out
                                     subst eo61
                                     obtain ⟨ado61, fo61, _⟩ := Kd.at_int (Kd.R_reads' HO212.out).2.2 0 (by decide) (by rw [Ny210.out]; simp)
                                     cases fo61
                                     refine hK.out _ _ trivial (fun hHeld => ?_)
                                     clear hK K
                                     refine norm_ (a' := ?_) ?_ ?_
                                     rotate_left
                                     ·show Act.put _ (some 55) _ = _
                                      exact pP
                                     exact norm_ (by first | (simp only [putAll, Act.put, List.setIfInBounds_toArray, List.set_cons_zero, List.set_cons_succ]; done) | (simp only [putAll, Act.put, List.setIfInBounds_toArray, List.set_cons_zero, List.set_cons_succ]; rfl)) (hJ4_9 (.slice (some adz_v205) y204.length co58, adz_v205, .slice (some ado61) y210.length co61, ado61) _ ⟨(by (with_reducible repeat (first | apply Kd.R_alloc | apply Kd.R_drewN | apply Kd.R_drew)); exact Kd.R_mono HO206.out (fun _ hk => hk.2)), (by (with_reducible repeat (first | apply Kd.R_alloc | apply Kd.R_drewN | apply Kd.R_drew)); exact Kd.R_mono HO212.out (fun _ hk => hk.2)), (pR HO_3), ⟨_, rfl⟩, ⟨_, rfl⟩, (by repeat (first | (with_reducible first | exact HI0.out | apply IsS62.alloc | apply IsS62.drewN | apply IsS62.drew | apply IsS62.set_1) | exact HI0.out)), pK, (by repeat (first | (with_reducible first | exact HB.out | apply below_alloc | apply pw_below_drewN | apply below_drew1 | refine below_set ?_ (IsS62.ge HI0.out)) | exact HB.out))⟩)
                                  ·skip
                                   rintro _ w55 ⟨h0_, h1_, h2_, h3_⟩
                                   have n0_ : Aside0 (Kd.R k40 40 w55 w.heap.size (fun _ => True) u3 x3_2) := ⟨h0_⟩
                                   have n1_ : Aside0 (IsS62 w0 w55 g s0_0 t203) := ⟨h1_⟩
                                   have n2_ : Aside0 (KeepBut w w55 g none) := ⟨h2_⟩
                                   have n3_ : Aside0 (Below w0.heap.size w0 w55) := ⟨h3_⟩
                                   clear HO_3
                                   clear HI0
                                   clear HK
                                   clear HB
                                   clear h0_ h1_ h2_ h3_
                                   have HO_3 := n0_
                                   have HI0 := n1_
                                   have HK := n2_
                                   have HB := n3_
                                   clear n0_ n1_ n2_ n3_
                                   have hHeld := trivial
                                   refine norm_ (a' := ?_) ?_ ?_
                                   rotate_left
                                   ·simp only [putAll, Act.put, List.setIfInBounds_toArray, List.set_cons_zero, List.set_cons_succ]
                                    rfl
                                   refine three_ (i := 4) (j := 6) (k := 9) (Ni := some 50) (Nj := some 52) (Nk := some 55) #[true, true, true, true, true, true, false, false, false, false, true, false, false, false, false, false, false] #[true, true, true, true, false, true, true, false, false, false, true, false, false, false, false, false, false] #[true, true, true, true, false, true, false, false, false, true, true, false, false, false, false, false, false] rfl rfl rfl rfl rfl rfl (three_of HT_.out pL) (by decide) (by decide) (by decide) (fun K hK => ?_) (fun K hK => ?_) (fun K hK => ?_)
                                   ·skip
                                    refine Kd.R_lit_step (Kd.int .i64) _ 3 ?hg (N := 50) ?hd (xs := ([0, 4, 5] : List Int)) (inner := [.int .i64 0, .int .i64 4, .int .i64 5]) (ok := fun _ => True) (okp := fun _ => True) ?hr ?hp (fun _ hk => hk) trivial (Below.refl _ _) (Nat.le_refl _) (by simp) ?_; (case hd => rfl); (case hg => rfl); (case hr => first | (go_simp; done) | (go_simp; rfl)); (case hp => exact (Reps.one (show Kd.M (Kd.int .i64) _ _ _ 0 [.int .i64 0] from rfl) (Reps.one (show Kd.M (Kd.int .i64) _ _ _ 4 [.int .i64 4] from rfl) (Reps.one (show Kd.M (Kd.int .i64) _ _ _ 5 [.int .i64 5] from rfl) (Reps.none _ _)))))
                                    intro v205 w56 ho57 hb hg_ hnew_
                                    clear hg_ hnew_
                                    (first | rw [← Ny204.out] at ho57 | (simp only [Int.reduceToNat] at ho57; rw [← Ny204.out] at ho57))
                                    have n0_ := Aside0.mk (Kd.R_below (pR HO_3) hb)
                                    have n1_ := Aside0.mk (Kd.R_lower ho57 (keep_size (w := w) (g := g) (row := none) pK))
                                    have n2_ := Aside0.mk (IsS62.below (by repeat (first | (with_reducible first | exact HI0.out | apply IsS62.alloc | apply IsS62.drewN | apply IsS62.drew | apply IsS62.set_1) | exact HI0.out)) hb)
                                    have n3_ := Aside0.mk (KeepBut.trans pK (KeepBut.of_below hb g none) (.inl rfl))
                                    have n4_ := Aside0.mk (below_step (by repeat (first | (with_reducible first | exact HB.out | apply below_alloc | apply pw_below_drewN | apply below_drew1 | refine below_set ?_ (IsS62.ge HI0.out)) | exact HB.out)) hb)
                                    clear HO_3
                                    clear HI0
                                    clear HK
                                    clear HB
                                    have HO_3 := n0_
                                    have HO206 := n1_
                                    have HI0 := n2_
                                    have HK := n3_
                                    have HB := n4_
                                    clear n0_ n1_ n2_ n3_ n4_
                                    clear hb ho57
                                    obtain ⟨Ao58, co58, eo58⟩ := Kd.R_slice HO206.out
                                    subst eo58
                                    obtain ⟨ado58, fo58, _⟩ := Kd.at_int (Kd.R_reads' HO206.out).2.2 0 (by decide) (by rw [Ny204.out]; simp)
                                    cases fo58
                                    refine hK.out _ _ trivial (fun hHeld => ?_)
                                    clear hK K
                                    refine norm_ (a' := ?_) ?_ ?_
                                    rotate_left
                                    ·show Act.put _ (some 50) _ = _
                                     exact pP
                                    exact norm_ (by first | (simp only [putAll, Act.put, List.setIfInBounds_toArray, List.set_cons_zero, List.set_cons_succ]; done) | (simp only [putAll, Act.put, List.setIfInBounds_toArray, List.set_cons_zero, List.set_cons_succ]; rfl)) (hJ3_4 (.slice (some ado58) y204.length co58, ado58) _ ⟨(pR HO206), (pR HO_3), ⟨_, rfl⟩, (by repeat (first | (with_reducible first | exact HI0.out | apply IsS62.alloc | apply IsS62.drewN | apply IsS62.drew | apply IsS62.set_1) | exact HI0.out)), pK, (by repeat (first | (with_reducible first | exact HB.out | apply below_alloc | apply pw_below_drewN | apply below_drew1 | refine below_set ?_ (IsS62.ge HI0.out)) | exact HB.out))⟩)
                                   ·skip
                                    refine goes_ Try.func46 pL rfl #[.pointer (some ⟨g, 0, none⟩), .int .i64 3] (by rfl) rfl rfl pM ?_
                                    with_reducible refine (spec_l6Rd_pick.calls kj37 g s0_0 t203 3 t207 t208 w0 _ ?side1 ?side2 A44.out).mono ?_
                                    (case side1 => repeat (first | (with_reducible first | exact HI0.out | apply IsS62.alloc | apply IsS62.drewN | apply IsS62.drew | apply IsS62.set_1) | exact HI0.out))
                                    (case side2 => repeat (first | (with_reducible first | exact HB.out | apply below_alloc | apply pw_below_drewN | apply below_drew1 | refine below_set ?_ (IsS62.ge HI0.out)) | exact HB.out))
                                    rintro e w56 ⟨rfl, hi, hb, hk⟩
                                    refine ⟨_, rfl, ?_⟩
                                    have n0_ := Aside0.mk (Kd.R_mono (Kd.R_keep (IsS62.apart (show IsS62 w0 _ g s0_0 t203 from by repeat (first | (with_reducible first | exact HI0.out | apply IsS62.alloc | apply IsS62.drewN | apply IsS62.drew | apply IsS62.set_1) | exact HI0.out)) (pR HO_3) (by decide)) hk (fun _ h => h.2)) (fun _ h => h.1))
                                    have n1_ := Aside0.mk (KeepBut.trans pK hk (.inl rfl))
                                    have n2_ := Aside0.mk (hb)
                                    have n3_ := Aside0.mk (hi)
                                    clear HO_3
                                    clear HK
                                    clear HB
                                    clear HI0
                                    have HO_3 := n0_
                                    have HK := n1_
                                    have HB := n2_
                                    have HI0 := n3_
                                    clear n0_ n1_ n2_ n3_
                                    (try clear hb)
                                    (try clear hb2)
                                    (try clear hk)
                                    (try clear hi)
                                    refine hK.out _ _ trivial (fun hHeld => ?_)
                                    clear hK K
                                    refine norm_ (a' := ?_) ?_ ?_
                                    rotate_left
                                    ·show Act.put _ (some 52) _ = _
                                     exact pP
                                    exact norm_ (by first | (simp only [putAll, Act.put, List.setIfInBounds_toArray, List.set_cons_zero, List.set_cons_succ]; done) | (simp only [putAll, Act.put, List.setIfInBounds_toArray, List.set_cons_zero, List.set_cons_succ]; rfl)) (hJ3_6 () _ ⟨(pR HO_3), (by repeat (first | (with_reducible first | exact HI0.out | apply IsS62.alloc | apply IsS62.drewN | apply IsS62.drew | apply IsS62.set_1) | exact HI0.out)), pK, (by repeat (first | (with_reducible first | exact HB.out | apply below_alloc | apply pw_below_drewN | apply below_drew1 | refine below_set ?_ (IsS62.ge HI0.out)) | exact HB.out))⟩)
                                   ·skip
                                    refine Kd.R_lit_step (Kd.int .i64) _ 3 ?hg (N := 55) ?hd (xs := ([(-1), 255, 256] : List Int)) (inner := [.int .i64 (-1), .int .i64 255, .int .i64 256]) (ok := fun _ => True) (okp := fun _ => True) ?hr ?hp (fun _ hk => hk) trivial (Below.refl _ _) (Nat.le_refl _) (by simp) ?_; (case hd => rfl); (case hg => rfl); (case hr => first | (go_simp; done) | (go_simp; rfl)); (case hp => exact (Reps.one (show Kd.M (Kd.int .i64) _ _ _ (-1) [.int .i64 (-1)] from rfl) (Reps.one (show Kd.M (Kd.int .i64) _ _ _ 255 [.int .i64 255] from rfl) (Reps.one (show Kd.M (Kd.int .i64) _ _ _ 256 [.int .i64 256] from rfl) (Reps.none _ _)))))
                                    intro v211 w56 ho57 hb hg_ hnew_
                                    clear hg_ hnew_
                                    (first | rw [← Ny210.out] at ho57 | (simp only [Int.reduceToNat] at ho57; rw [← Ny210.out] at ho57))
                                    have n0_ := Aside0.mk (Kd.R_below (pR HO_3) hb)
                                    have n1_ := Aside0.mk (Kd.R_lower ho57 (keep_size (w := w) (g := g) (row := none) pK))
                                    have n2_ := Aside0.mk (IsS62.below (by repeat (first | (with_reducible first | exact HI0.out | apply IsS62.alloc | apply IsS62.drewN | apply IsS62.drew | apply IsS62.set_1) | exact HI0.out)) hb)
                                    have n3_ := Aside0.mk (KeepBut.trans pK (KeepBut.of_below hb g none) (.inl rfl))
                                    have n4_ := Aside0.mk (below_step (by repeat (first | (with_reducible first | exact HB.out | apply below_alloc | apply pw_below_drewN | apply below_drew1 | refine below_set ?_ (IsS62.ge HI0.out)) | exact HB.out)) hb)
                                    clear HO_3
                                    clear HI0
                                    clear HK
                                    clear HB
                                    have HO_3 := n0_
                                    have HO212 := n1_
                                    have HI0 := n2_
                                    have HK := n3_
                                    have HB := n4_
                                    clear n0_ n1_ n2_ n3_ n4_
                                    clear hb ho57
                                    obtain ⟨Ao58, co58, eo58⟩ := Kd.R_slice HO212.out
                                    subst eo58
                                    obtain ⟨ado58, fo58, _⟩ := Kd.at_int (Kd.R_reads' HO212.out).2.2 0 (by decide) (by rw [Ny210.out]; simp)
                                    cases fo58
                                    refine hK.out _ _ trivial (fun hHeld => ?_)
                                    clear hK K
                                    refine norm_ (a' := ?_) ?_ ?_
                                    rotate_left
                                    ·show Act.put _ (some 55) _ = _
                                     exact pP
                                    exact norm_ (by first | (simp only [putAll, Act.put, List.setIfInBounds_toArray, List.set_cons_zero, List.set_cons_succ]; done) | (simp only [putAll, Act.put, List.setIfInBounds_toArray, List.set_cons_zero, List.set_cons_succ]; rfl)) (hJ3_9 (.slice (some ado58) y210.length co58, ado58) _ ⟨(pR HO212), (pR HO_3), ⟨_, rfl⟩, (by repeat (first | (with_reducible first | exact HI0.out | apply IsS62.alloc | apply IsS62.drewN | apply IsS62.drew | apply IsS62.set_1) | exact HI0.out)), pK, (by repeat (first | (with_reducible first | exact HB.out | apply below_alloc | apply pw_below_drewN | apply below_drew1 | refine below_set ?_ (IsS62.ge HI0.out)) | exact HB.out))⟩)
                                 ·skip
                                  rintro ⟨v205, adz_v205, v211, adz_v211⟩ w60 ⟨h0_, h1_, h2_, h3_, h4_, h5_, h6_, h7_⟩
                                  have n0_ : Aside0 (Kd.R (Kd.int .i64) 3 w60 w.heap.size (fun k_ => some k_ ≠ (v211 : Value).ownBlock) v205 y204) := ⟨h0_⟩
                                  have n1_ : Aside0 (Kd.R (Kd.int .i64) 3 w60 w.heap.size (fun k_ => some k_ ≠ (v205 : Value).ownBlock) v211 y210) := ⟨h1_⟩
                                  have n2_ : Aside0 (Kd.R k40 40 w60 w.heap.size (fun _ => True) u3 x3_2) := ⟨h2_⟩
                                  have n3_ : Aside0 (∃ c_, (v205 : Value) = .slice (some adz_v205) y204.length c_) := ⟨h3_⟩
                                  have n4_ : Aside0 (∃ c_, (v211 : Value) = .slice (some adz_v211) y210.length c_) := ⟨h4_⟩
                                  have n5_ : Aside0 (IsS62 w0 w60 g s0_0 x1001_37) := ⟨h5_⟩
                                  have n6_ : Aside0 (KeepBut w w60 g none) := ⟨h6_⟩
                                  have n7_ : Aside0 (Below w0.heap.size w0 w60) := ⟨h7_⟩
                                  clear HO_3
                                  clear HI0
                                  clear HK
                                  clear HB
                                  clear h0_ h1_ h2_ h3_ h4_ h5_ h6_ h7_
                                  have HO206 := n0_
                                  have HO212 := n1_
                                  have HO_3 := n2_
                                  have HA_HO206 := n3_
                                  have HA_HO212 := n4_
                                  have HI0 := n5_
                                  have HK := n6_
                                  have HB := n7_
                                  clear n0_ n1_ n2_ n3_ n4_ n5_ n6_ n7_
                                  have hHeld := trivial
                                  obtain ⟨co61, eo61⟩ := HA_HO206.out
                                  clear HA_HO206
                                  subst eo61
                                  obtain ⟨co62, eo62⟩ := HA_HO212.out
                                  clear HA_HO212
                                  subst eo62
                                  refine norm_ (a' := ?_) ?_ ?_
                                  rotate_left
                                  ·simp only [putAll, Act.put, List.setIfInBounds_toArray, List.set_cons_zero, List.set_cons_succ]
                                   rfl
                                  refine one_ (i := 3) (N := some 49) #[true, true, true, true, true, true, false, false, false, true, true, false, false, false, false, false, false] rfl rfl (one_of HT_.out pL) (by decide) (fun K hK => ?_)
                                  refine goes_ Try.func46 pL rfl #[.pointer (some ⟨g, 0, none⟩), .int .i64 x4_3] (by rfl) rfl rfl pM ?_
                                  with_reducible refine (spec_l6Rd_pick.calls kj37 g s0_0 x1001_37 x4_3 t202 t203 w0 _ ?side1 ?side2 A43.out).mono ?_
                                  (case side1 => repeat (first | (with_reducible first | exact HI0.out | apply IsS62.alloc | apply IsS62.drewN | apply IsS62.drew | apply IsS62.set_1) | exact HI0.out))
                                  (case side2 => repeat (first | (with_reducible first | exact HB.out | apply below_alloc | apply pw_below_drewN | apply below_drew1 | refine below_set ?_ (IsS62.ge HI0.out)) | exact HB.out))
                                  rintro e w63 ⟨rfl, hi, hb, hk⟩
                                  refine ⟨_, rfl, ?_⟩
                                  have n0_ := Aside0.mk (Kd.R_mono (Kd.R_keep (IsS62.apart (show IsS62 w0 _ g s0_0 x1001_37 from by repeat (first | (with_reducible first | exact HI0.out | apply IsS62.alloc | apply IsS62.drewN | apply IsS62.drew | apply IsS62.set_1) | exact HI0.out)) (pR HO_3) (by decide)) hk (fun _ h => h.2)) (fun _ h => h.1))
                                  have n1_ := Aside0.mk (Kd.R_mono (Kd.R_keep (IsS62.apart (show IsS62 w0 _ g s0_0 x1001_37 from by repeat (first | (with_reducible first | exact HI0.out | apply IsS62.alloc | apply IsS62.drewN | apply IsS62.drew | apply IsS62.set_1) | exact HI0.out)) (pR HO206) (by decide)) hk (fun _ h => h.2)) (fun _ h => h.1))
                                  have n2_ := Aside0.mk (Kd.R_mono (Kd.R_keep (IsS62.apart (show IsS62 w0 _ g s0_0 x1001_37 from by repeat (first | (with_reducible first | exact HI0.out | apply IsS62.alloc | apply IsS62.drewN | apply IsS62.drew | apply IsS62.set_1) | exact HI0.out)) (pR HO212) (by decide)) hk (fun _ h => h.2)) (fun _ h => h.1))
                                  have n3_ := Aside0.mk (KeepBut.trans pK hk (.inl rfl))
                                  have n4_ := Aside0.mk (hb)
                                  have n5_ := Aside0.mk (hi)
                                  clear HO_3
                                  clear HO206
                                  clear HO212
                                  clear HK
                                  clear HB
                                  clear HI0
                                  have HO_3 := n0_
                                  have HO206 := n1_
                                  have HO212 := n2_
                                  have HK := n3_
                                  have HB := n4_
                                  have HI0 := n5_
                                  clear n0_ n1_ n2_ n3_ n4_ n5_
                                  (try clear hb)
                                  (try clear hb2)
                                  (try clear hk)
                                  (try clear hi)
                                  refine hK.out _ _ trivial (fun hHeld => ?_)
                                  clear hK K
                                  refine norm_ (a' := ?_) ?_ ?_
                                  rotate_left
                                  ·show Act.put _ (some 49) _ = _
                                   exact pP
                                  exact norm_ (by first | (simp only [putAll, Act.put, List.setIfInBounds_toArray, List.set_cons_zero, List.set_cons_succ]; done) | (simp only [putAll, Act.put, List.setIfInBounds_toArray, List.set_cons_zero, List.set_cons_succ]; rfl)) (hJ3_4_9 (.slice (some adz_v205) y204.length co61, adz_v205, .slice (some adz_v211) y210.length co62, adz_v211) _ ⟨(pR HO206), (pR HO212), (pR HO_3), ⟨_, rfl⟩, ⟨_, rfl⟩, (by repeat (first | (with_reducible first | exact HI0.out | apply IsS62.alloc | apply IsS62.drewN | apply IsS62.drew | apply IsS62.set_1) | exact HI0.out)), pK, (by repeat (first | (with_reducible first | exact HB.out | apply below_alloc | apply pw_below_drewN | apply below_drew1 | refine below_set ?_ (IsS62.ge HI0.out)) | exact HB.out))⟩)
                                ·skip
                                 rintro ⟨v211, adz_v211⟩ w58 ⟨h0_, h1_, h2_, h3_, h4_, h5_⟩
                                 have n0_ : Aside0 (Kd.R (Kd.int .i64) 3 w58 w.heap.size (fun _ => True) v211 y210) := ⟨h0_⟩
                                 have n1_ : Aside0 (Kd.R k40 40 w58 w.heap.size (fun _ => True) u3 x3_2) := ⟨h1_⟩
                                 have n2_ : Aside0 (∃ c_, (v211 : Value) = .slice (some adz_v211) y210.length c_) := ⟨h2_⟩
                                 have n3_ : Aside0 (IsS62 w0 w58 g s0_0 t203) := ⟨h3_⟩
                                 have n4_ : Aside0 (KeepBut w w58 g none) := ⟨h4_⟩
                                 have n5_ : Aside0 (Below w0.heap.size w0 w58) := ⟨h5_⟩
                                 clear HO_3
                                 clear HI0
                                 clear HK
                                 clear HB
                                 clear h0_ h1_ h2_ h3_ h4_ h5_
                                 have HO212 := n0_
                                 have HO_3 := n1_
                                 have HA_HO212 := n2_
                                 have HI0 := n3_
                                 have HK := n4_
                                 have HB := n5_
                                 clear n0_ n1_ n2_ n3_ n4_ n5_
                                 have hHeld := trivial
                                 obtain ⟨co59, eo59⟩ := HA_HO212.out
                                 clear HA_HO212
                                 subst eo59
                                 refine norm_ (a' := ?_) ?_ ?_
                                 rotate_left
                                 ·simp only [putAll, Act.put, List.setIfInBounds_toArray, List.set_cons_zero, List.set_cons_succ]
                                  rfl
                                 refine two_ (i := 4) (j := 6) (Ni := some 50) (Nj := some 52) #[true, true, true, true, true, true, false, false, false, true, true, false, false, false, false, false, false] #[true, true, true, true, false, true, true, false, false, true, true, false, false, false, false, false, false] rfl rfl rfl rfl (two_of HT_.out pL) (by decide) (by decide) (fun K hK => ?_) (fun K hK => ?_)
                                 ·skip
                                  refine Kd.R_lit_step (Kd.int .i64) _ 3 ?hg (N := 50) ?hd (xs := ([0, 4, 5] : List Int)) (inner := [.int .i64 0, .int .i64 4, .int .i64 5]) (ok := fun _ => True) (okp := fun _ => True) ?hr ?hp (fun _ hk => hk) trivial (Below.refl _ _) (Nat.le_refl _) (by simp) ?_; (case hd => rfl); (case hg => rfl); (case hr => first | (go_simp; done) | (go_simp; rfl)); (case hp => exact (Reps.one (show Kd.M (Kd.int .i64) _ _ _ 0 [.int .i64 0] from rfl) (Reps.one (show Kd.M (Kd.int .i64) _ _ _ 4 [.int .i64 4] from rfl) (Reps.one (show Kd.M (Kd.int .i64) _ _ _ 5 [.int .i64 5] from rfl) (Reps.none _ _)))))
                                  intro v205 w60 ho61 hb hg_ hnew_
                                  clear hg_ hnew_
                                  (first | rw [← Ny204.out] at ho61 | (simp only [Int.reduceToNat] at ho61; rw [← Ny204.out] at ho61))
                                  have n0_ := Aside0.mk (Kd.R_below (pR HO_3) hb)
                                  have n1_ := Aside0.mk (Kd.R_elder' (pR HO212) (Kd.R_base ho61) hb)
                                  have n2_ := Aside0.mk (Kd.R_lower (Kd.R_new' ho61 (Kd.R_lt (pR HO212))) (keep_size (w := w) (g := g) (row := none) pK))
                                  have n3_ := Aside0.mk (IsS62.below (by repeat (first | (with_reducible first | exact HI0.out | apply IsS62.alloc | apply IsS62.drewN | apply IsS62.drew | apply IsS62.set_1) | exact HI0.out)) hb)
                                  have n4_ := Aside0.mk (KeepBut.trans pK (KeepBut.of_below hb g none) (.inl rfl))
                                  have n5_ := Aside0.mk (below_step (by repeat (first | (with_reducible first | exact HB.out | apply below_alloc | apply pw_below_drewN | apply below_drew1 | refine below_set ?_ (IsS62.ge HI0.out)) | exact HB.out)) hb)
                                  clear HO_3
                                  clear HO212
                                  clear HI0
                                  clear HK
                                  clear HB
                                  have HO_3 := n0_
                                  have HO212 := n1_
                                  have HO206 := n2_
                                  have HI0 := n3_
                                  have HK := n4_
                                  have HB := n5_
                                  clear n0_ n1_ n2_ n3_ n4_ n5_
                                  clear hb ho61
                                  obtain ⟨Ao62, co62, eo62⟩ := Kd.R_slice HO206.out
                                  subst eo62
                                  obtain ⟨ado62, fo62, _⟩ := Kd.at_int (Kd.R_reads' HO206.out).2.2 0 (by decide) (by rw [Ny204.out]; simp)
                                  cases fo62
                                  refine hK.out _ _ trivial (fun hHeld => ?_)
                                  clear hK K
                                  refine norm_ (a' := ?_) ?_ ?_
                                  rotate_left
                                  ·show Act.put _ (some 50) _ = _
                                   exact pP
                                  exact norm_ (by first | (simp only [putAll, Act.put, List.setIfInBounds_toArray, List.set_cons_zero, List.set_cons_succ]; done) | (simp only [putAll, Act.put, List.setIfInBounds_toArray, List.set_cons_zero, List.set_cons_succ]; rfl)) (hJ3_4_9 (.slice (some ado62) y204.length co62, ado62, .slice (some adz_v211) y210.length co59, adz_v211) _ ⟨(by (with_reducible repeat (first | apply Kd.R_alloc | apply Kd.R_drewN | apply Kd.R_drew)); exact Kd.R_mono HO206.out (fun _ hk => hk.2)), (by (with_reducible repeat (first | apply Kd.R_alloc | apply Kd.R_drewN | apply Kd.R_drew)); exact Kd.R_mono HO212.out (fun _ hk => hk.2)), (pR HO_3), ⟨_, rfl⟩, ⟨_, rfl⟩, (by repeat (first | (with_reducible first | exact HI0.out | apply IsS62.alloc | apply IsS62.drewN | apply IsS62.drew | apply IsS62.set_1) | exact HI0.out)), pK, (by repeat (first | (with_reducible first | exact HB.out | apply below_alloc | apply pw_below_drewN | apply below_drew1 | refine below_set ?_ (IsS62.ge HI0.out)) | exact HB.out))⟩)
                                 ·skip
                                  refine goes_ Try.func46 pL rfl #[.pointer (some ⟨g, 0, none⟩), .int .i64 3] (by rfl) rfl rfl pM ?_
                                  with_reducible refine (spec_l6Rd_pick.calls kj37 g s0_0 t203 3 t207 t208 w0 _ ?side1 ?side2 A44.out).mono ?_
                                  (case side1 => repeat (first | (with_reducible first | exact HI0.out | apply IsS62.alloc | apply IsS62.drewN | apply IsS62.drew | apply IsS62.set_1) | exact HI0.out))
                                  (case side2 => repeat (first | (with_reducible first | exact HB.out | apply below_alloc | apply pw_below_drewN | apply below_drew1 | refine below_set ?_ (IsS62.ge HI0.out)) | exact HB.out))
                                  rintro e w60 ⟨rfl, hi, hb, hk⟩
                                  refine ⟨_, rfl, ?_⟩
                                  have n0_ := Aside0.mk (Kd.R_mono (Kd.R_keep (IsS62.apart (show IsS62 w0 _ g s0_0 t203 from by repeat (first | (with_reducible first | exact HI0.out | apply IsS62.alloc | apply IsS62.drewN | apply IsS62.drew | apply IsS62.set_1) | exact HI0.out)) (pR HO_3) (by decide)) hk (fun _ h => h.2)) (fun _ h => h.1))
                                  have n1_ := Aside0.mk (Kd.R_mono (Kd.R_keep (IsS62.apart (show IsS62 w0 _ g s0_0 t203 from by repeat (first | (with_reducible first | exact HI0.out | apply IsS62.alloc | apply IsS62.drewN | apply IsS62.drew | apply IsS62.set_1) | exact HI0.out)) (pR HO212) (by decide)) hk (fun _ h => h.2)) (fun _ h => h.1))
                                  have n2_ := Aside0.mk (KeepBut.trans pK hk (.inl rfl))
                                  have n3_ := Aside0.mk (hb)
                                  have n4_ := Aside0.mk (hi)
                                  clear HO_3
                                  clear HO212
                                  clear HK
                                  clear HB
                                  clear HI0
                                  have HO_3 := n0_
                                  have HO212 := n1_
                                  have HK := n2_
                                  have HB := n3_
                                  have HI0 := n4_
                                  clear n0_ n1_ n2_ n3_ n4_
                                  (try clear hb)
                                  (try clear hb2)
                                  (try clear hk)
                                  (try clear hi)
                                  refine hK.out _ _ trivial (fun hHeld => ?_)
                                  clear hK K
                                  refine norm_ (a' := ?_) ?_ ?_
                                  rotate_left
                                  ·show Act.put _ (some 52) _ = _
                                   exact pP
                                  exact norm_ (by first | (simp only [putAll, Act.put, List.setIfInBounds_toArray, List.set_cons_zero, List.set_cons_succ]; done) | (simp only [putAll, Act.put, List.setIfInBounds_toArray, List.set_cons_zero, List.set_cons_succ]; rfl)) (hJ3_6_9 (.slice (some adz_v211) y210.length co59, adz_v211) _ ⟨(pR HO212), (pR HO_3), ⟨_, rfl⟩, (by repeat (first | (with_reducible first | exact HI0.out | apply IsS62.alloc | apply IsS62.drewN | apply IsS62.drew | apply IsS62.set_1) | exact HI0.out)), pK, (by repeat (first | (with_reducible first | exact HB.out | apply below_alloc | apply pw_below_drewN | apply below_drew1 | refine below_set ?_ (IsS62.ge HI0.out)) | exact HB.out))⟩)
                               ·skip
                                rintro _ w56 ⟨h0_, h1_, h2_, h3_⟩
                                have n0_ : Aside0 (Kd.R k40 40 w56 w.heap.size (fun _ => True) u3 x3_2) := ⟨h0_⟩
                                have n1_ : Aside0 (IsS62 w0 w56 g s0_0 t208) := ⟨h1_⟩
                                have n2_ : Aside0 (KeepBut w w56 g none) := ⟨h2_⟩
                                have n3_ : Aside0 (Below w0.heap.size w0 w56) := ⟨h3_⟩
                                clear HO_3
                                clear HI0
                                clear HK
                                clear HB
                                clear h0_ h1_ h2_ h3_
                                have HO_3 := n0_
                                have HI0 := n1_
                                have HK := n2_
                                have HB := n3_
                                clear n0_ n1_ n2_ n3_
                                have hHeld := trivial
                                refine norm_ (a' := ?_) ?_ ?_
                                rotate_left
                                ·simp only [putAll, Act.put, List.setIfInBounds_toArray, List.set_cons_zero, List.set_cons_succ]
                                 rfl
                                refine three_ (i := 4) (j := 9) (k := 11) (Ni := some 50) (Nj := some 55) (Nk := some 57) #[true, true, true, true, true, true, true, false, false, false, true, false, false, false, false, false, false] #[true, true, true, true, false, true, true, false, false, true, true, false, false, false, false, false, false] #[true, true, true, true, false, true, true, false, false, false, true, true, false, false, false, false, false] rfl rfl rfl rfl rfl rfl (three_of HT_.out pL) (by decide) (by decide) (by decide) (fun K hK => ?_) (fun K hK => ?_) (fun K hK => ?_)
                                ·skip
                                 refine Kd.R_lit_step (Kd.int .i64) _ 3 ?hg (N := 50) ?hd (xs := ([0, 4, 5] : List Int)) (inner := [.int .i64 0, .int .i64 4, .int .i64 5]) (ok := fun _ => True) (okp := fun _ => True) ?hr ?hp (fun _ hk => hk) trivial (Below.refl _ _) (Nat.le_refl _) (by simp) ?_; (case hd => rfl); (case hg => rfl); (case hr => first | (go_simp; done) | (go_simp; rfl)); (case hp => exact (Reps.one (show Kd.M (Kd.int .i64) _ _ _ 0 [.int .i64 0] from rfl) (Reps.one (show Kd.M (Kd.int .i64) _ _ _ 4 [.int .i64 4] from rfl) (Reps.one (show Kd.M (Kd.int .i64) _ _ _ 5 [.int .i64 5] from rfl) (Reps.none _ _)))))
                                 intro v205 w57 ho58 hb hg_ hnew_
                                 clear hg_ hnew_
                                 (first | rw [← Ny204.out] at ho58 | (simp only [Int.reduceToNat] at ho58; rw [← Ny204.out] at ho58))
                                 have n0_ := Aside0.mk (Kd.R_below (pR HO_3) hb)
                                 have n1_ := Aside0.mk (Kd.R_lower ho58 (keep_size (w := w) (g := g) (row := none) pK))
                                 have n2_ := Aside0.mk (IsS62.below (by repeat (first | (with_reducible first | exact HI0.out | apply IsS62.alloc | apply IsS62.drewN | apply IsS62.drew | apply IsS62.set_1) | exact HI0.out)) hb)
                                 have n3_ := Aside0.mk (KeepBut.trans pK (KeepBut.of_below hb g none) (.inl rfl))
                                 have n4_ := Aside0.mk (below_step (by repeat (first | (with_reducible first | exact HB.out | apply below_alloc | apply pw_below_drewN | apply below_drew1 | refine below_set ?_ (IsS62.ge HI0.out)) | exact HB.out)) hb)
                                 clear HO_3
                                 clear HI0
                                 clear HK
                                 clear HB
                                 have HO_3 := n0_
                                 have HO206 := n1_
                                 have HI0 := n2_
                                 have HK := n3_
                                 have HB := n4_
                                 clear n0_ n1_ n2_ n3_ n4_
                                 clear hb ho58
                                 obtain ⟨Ao59, co59, eo59⟩ := Kd.R_slice HO206.out
                                 subst eo59
                                 obtain ⟨ado59, fo59, _⟩ := Kd.at_int (Kd.R_reads' HO206.out).2.2 0 (by decide) (by rw [Ny204.out]; simp)
                                 cases fo59
                                 refine hK.out _ _ trivial (fun hHeld => ?_)
                                 clear hK K
                                 refine norm_ (a' := ?_) ?_ ?_
                                 rotate_left
                                 ·show Act.put _ (some 50) _ = _
                                  exact pP
                                 refine pure_ (i := 7) (N := some 53) (v := ?_) (a' := ?_) #[true, true, true, true, true, true, true, true, false, false, true, false, false, false, false, false, false] rfl rfl (any_of HT_.out pL) (fun _ _ _ h => h) (Or.inl ⟨by rfl, ?_⟩) ?_ ?_
                                 rotate_left
                                 ·intro w'
                                  go_simp
                                  with_reducible rfl
                                 rotate_left
                                 ·exact pP
                                 exact norm_ (by first | (simp only [putAll, Act.put, List.setIfInBounds_toArray, List.set_cons_zero, List.set_cons_succ]; done) | (simp only [putAll, Act.put, List.setIfInBounds_toArray, List.set_cons_zero, List.set_cons_succ]; rfl)) (hJ3_4_6 (.slice (some ado59) y204.length co59, ado59) _ ⟨(pR HO206), (pR HO_3), ⟨_, rfl⟩, (by repeat (first | (with_reducible first | exact HI0.out | apply IsS62.alloc | apply IsS62.drewN | apply IsS62.drew | apply IsS62.set_1) | exact HI0.out)), pK, (by repeat (first | (with_reducible first | exact HB.out | apply below_alloc | apply pw_below_drewN | apply below_drew1 | refine below_set ?_ (IsS62.ge HI0.out)) | exact HB.out))⟩)
                                ·skip
                                 refine Kd.R_lit_step (Kd.int .i64) _ 3 ?hg (N := 55) ?hd (xs := ([(-1), 255, 256] : List Int)) (inner := [.int .i64 (-1), .int .i64 255, .int .i64 256]) (ok := fun _ => True) (okp := fun _ => True) ?hr ?hp (fun _ hk => hk) trivial (Below.refl _ _) (Nat.le_refl _) (by simp) ?_; (case hd => rfl); (case hg => rfl); (case hr => first | (go_simp; done) | (go_simp; rfl)); (case hp => exact (Reps.one (show Kd.M (Kd.int .i64) _ _ _ (-1) [.int .i64 (-1)] from rfl) (Reps.one (show Kd.M (Kd.int .i64) _ _ _ 255 [.int .i64 255] from rfl) (Reps.one (show Kd.M (Kd.int .i64) _ _ _ 256 [.int .i64 256] from rfl) (Reps.none _ _)))))
                                 intro v211 w57 ho58 hb hg_ hnew_
                                 clear hg_ hnew_
                                 (first | rw [← Ny210.out] at ho58 | (simp only [Int.reduceToNat] at ho58; rw [← Ny210.out] at ho58))
                                 have n0_ := Aside0.mk (Kd.R_below (pR HO_3) hb)
                                 have n1_ := Aside0.mk (Kd.R_lower ho58 (keep_size (w := w) (g := g) (row := none) pK))
                                 have n2_ := Aside0.mk (IsS62.below (by repeat (first | (with_reducible first | exact HI0.out | apply IsS62.alloc | apply IsS62.drewN | apply IsS62.drew | apply IsS62.set_1) | exact HI0.out)) hb)
                                 have n3_ := Aside0.mk (KeepBut.trans pK (KeepBut.of_below hb g none) (.inl rfl))
                                 have n4_ := Aside0.mk (below_step (by repeat (first | (with_reducible first | exact HB.out | apply below_alloc | apply pw_below_drewN | apply below_drew1 | refine below_set ?_ (IsS62.ge HI0.out)) | exact HB.out)) hb)
                                 clear HO_3
                                 clear HI0
                                 clear HK
                                 clear HB
                                 have HO_3 := n0_
                                 have HO212 := n1_
                                 have HI0 := n2_
                                 have HK := n3_
                                 have HB := n4_
                                 clear n0_ n1_ n2_ n3_ n4_
                                 clear hb ho58
                                 obtain ⟨Ao59, co59, eo59⟩ := Kd.R_slice HO212.out
                                 subst eo59
                                 obtain ⟨ado59, fo59, _⟩ := Kd.at_int (Kd.R_reads' HO212.out).2.2 0 (by decide) (by rw [Ny210.out]; simp)
                                 cases fo59
                                 refine hK.out _ _ trivial (fun hHeld => ?_)
                                 clear hK K
                                 refine norm_ (a' := ?_) ?_ ?_
                                 rotate_left
                                 ·show Act.put _ (some 55) _ = _
                                  exact pP
                                 exact norm_ (by first | (simp only [putAll, Act.put, List.setIfInBounds_toArray, List.set_cons_zero, List.set_cons_succ]; done) | (simp only [putAll, Act.put, List.setIfInBounds_toArray, List.set_cons_zero, List.set_cons_succ]; rfl)) (hJ3_6_9 (.slice (some ado59) y210.length co59, ado59) _ ⟨(pR HO212), (pR HO_3), ⟨_, rfl⟩, (by repeat (first | (with_reducible first | exact HI0.out | apply IsS62.alloc | apply IsS62.drewN | apply IsS62.drew | apply IsS62.set_1) | exact HI0.out)), pK, (by repeat (first | (with_reducible first | exact HB.out | apply below_alloc | apply pw_below_drewN | apply below_drew1 | refine below_set ?_ (IsS62.ge HI0.out)) | exact HB.out))⟩)
                                ·skip
                                 refine goes_ Try.func46 pL rfl #[.pointer (some ⟨g, 0, none⟩), .int .i64 3] (by rfl) rfl rfl pM ?_
                                 with_reducible refine (spec_l6Rd_pick.calls kj37 g s0_0 t208 3 t213 t214 w0 _ ?side1 ?side2 A47.out).mono ?_
                                 (case side1 => repeat (first | (with_reducible first | exact HI0.out | apply IsS62.alloc | apply IsS62.drewN | apply IsS62.drew | apply IsS62.set_1) | exact HI0.out))
                                 (case side2 => repeat (first | (with_reducible first | exact HB.out | apply below_alloc | apply pw_below_drewN | apply below_drew1 | refine below_set ?_ (IsS62.ge HI0.out)) | exact HB.out))
                                 rintro e w57 ⟨rfl, hi, hb, hk⟩
                                 refine ⟨_, rfl, ?_⟩
                                 have n0_ := Aside0.mk (Kd.R_mono (Kd.R_keep (IsS62.apart (show IsS62 w0 _ g s0_0 t208 from by repeat (first | (with_reducible first | exact HI0.out | apply IsS62.alloc | apply IsS62.drewN | apply IsS62.drew | apply IsS62.set_1) | exact HI0.out)) (pR HO_3) (by decide)) hk (fun _ h => h.2)) (fun _ h => h.1))
                                 have n1_ := Aside0.mk (KeepBut.trans pK hk (.inl rfl))
                                 have n2_ := Aside0.mk (hb)
                                 have n3_ := Aside0.mk (hi)
                                 clear HO_3
                                 clear HK
                                 clear HB
                                 clear HI0
                                 have HO_3 := n0_
                                 have HK := n1_
                                 have HB := n2_
                                 have HI0 := n3_
                                 clear n0_ n1_ n2_ n3_
                                 (try clear hb)
                                 (try clear hb2)
                                 (try clear hk)
                                 (try clear hi)
                                 refine hK.out _ _ trivial (fun hHeld => ?_)
                                 clear hK K
                                 refine norm_ (a' := ?_) ?_ ?_
                                 rotate_left
                                 ·show Act.put _ (some 57) _ = _
                                  exact pP
                                 exact norm_ (by first | (simp only [putAll, Act.put, List.setIfInBounds_toArray, List.set_cons_zero, List.set_cons_succ]; done) | (simp only [putAll, Act.put, List.setIfInBounds_toArray, List.set_cons_zero, List.set_cons_succ]; rfl)) (hJ3_6_11 () _ ⟨(pR HO_3), (by repeat (first | (with_reducible first | exact HI0.out | apply IsS62.alloc | apply IsS62.drewN | apply IsS62.drew | apply IsS62.set_1) | exact HI0.out)), pK, (by repeat (first | (with_reducible first | exact HB.out | apply below_alloc | apply pw_below_drewN | apply below_drew1 | refine below_set ?_ (IsS62.ge HI0.out)) | exact HB.out))⟩)
                              ·skip
                               rintro ⟨v205, adz_v205⟩ w58 ⟨h0_, h1_, h2_, h3_, h4_, h5_⟩
                               have n0_ : Aside0 (Kd.R (Kd.int .i64) 3 w58 w.heap.size (fun _ => True) v205 y204) := ⟨h0_⟩
                               have n1_ : Aside0 (Kd.R k40 40 w58 w.heap.size (fun _ => True) u3 x3_2) := ⟨h1_⟩
                               have n2_ : Aside0 (∃ c_, (v205 : Value) = .slice (some adz_v205) y204.length c_) := ⟨h2_⟩
                               have n3_ : Aside0 (IsS62 w0 w58 g s0_0 t203) := ⟨h3_⟩
                               have n4_ : Aside0 (KeepBut w w58 g none) := ⟨h4_⟩
                               have n5_ : Aside0 (Below w0.heap.size w0 w58) := ⟨h5_⟩
                               clear HO_3
                               clear HI0
                               clear HK
                               clear HB
                               clear h0_ h1_ h2_ h3_ h4_ h5_
                               have HO206 := n0_
                               have HO_3 := n1_
                               have HA_HO206 := n2_
                               have HI0 := n3_
                               have HK := n4_
                               have HB := n5_
                               clear n0_ n1_ n2_ n3_ n4_ n5_
                               have hHeld := trivial
                               obtain ⟨co59, eo59⟩ := HA_HO206.out
                               clear HA_HO206
                               subst eo59
                               refine norm_ (a' := ?_) ?_ ?_
                               rotate_left
                               ·simp only [putAll, Act.put, List.setIfInBounds_toArray, List.set_cons_zero, List.set_cons_succ]
                                rfl
                               refine two_ (i := 6) (j := 9) (Ni := some 52) (Nj := some 55) #[true, true, true, true, true, true, true, false, false, false, true, false, false, false, false, false, false] #[true, true, true, true, true, true, false, false, false, true, true, false, false, false, false, false, false] rfl rfl rfl rfl (two_of HT_.out pL) (by decide) (by decide) (fun K hK => ?_) (fun K hK => ?_)
                               ·skip
                                refine goes_ Try.func46 pL rfl #[.pointer (some ⟨g, 0, none⟩), .int .i64 3] (by rfl) rfl rfl pM ?_
                                with_reducible refine (spec_l6Rd_pick.calls kj37 g s0_0 t203 3 t207 t208 w0 _ ?side1 ?side2 A44.out).mono ?_
                                (case side1 => repeat (first | (with_reducible first | exact HI0.out | apply IsS62.alloc | apply IsS62.drewN | apply IsS62.drew | apply IsS62.set_1) | exact HI0.out))
                                (case side2 => repeat (first | (with_reducible first | exact HB.out | apply below_alloc | apply pw_below_drewN | apply below_drew1 | refine below_set ?_ (IsS62.ge HI0.out)) | exact HB.out))
                                rintro e w60 ⟨rfl, hi, hb, hk⟩
                                refine ⟨_, rfl, ?_⟩
                                have n0_ := Aside0.mk (Kd.R_mono (Kd.R_keep (IsS62.apart (show IsS62 w0 _ g s0_0 t203 from by repeat (first | (with_reducible first | exact HI0.out | apply IsS62.alloc | apply IsS62.drewN | apply IsS62.drew | apply IsS62.set_1) | exact HI0.out)) (pR HO_3) (by decide)) hk (fun _ h => h.2)) (fun _ h => h.1))
                                have n1_ := Aside0.mk (Kd.R_mono (Kd.R_keep (IsS62.apart (show IsS62 w0 _ g s0_0 t203 from by repeat (first | (with_reducible first | exact HI0.out | apply IsS62.alloc | apply IsS62.drewN | apply IsS62.drew | apply IsS62.set_1) | exact HI0.out)) (pR HO206) (by decide)) hk (fun _ h => h.2)) (fun _ h => h.1))
                                have n2_ := Aside0.mk (KeepBut.trans pK hk (.inl rfl))
                                have n3_ := Aside0.mk (hb)
                                have n4_ := Aside0.mk (hi)
                                clear HO_3
                                clear HO206
                                clear HK
                                clear HB
                                clear HI0
                                have HO_3 := n0_
                                have HO206 := n1_
                                have HK := n2_
                                have HB := n3_
                                have HI0 := n4_
                                clear n0_ n1_ n2_ n3_ n4_
                                (try clear hb)
                                (try clear hb2)
                                (try clear hk)
                                (try clear hi)
                                refine hK.out _ _ trivial (fun hHeld => ?_)
                                clear hK K
                                refine norm_ (a' := ?_) ?_ ?_
                                rotate_left
                                ·show Act.put _ (some 52) _ = _
                                 exact pP
                                refine pure_ (i := 7) (N := some 53) (v := ?_) (a' := ?_) #[true, true, true, true, true, true, true, true, false, false, true, false, false, false, false, false, false] rfl rfl (any_of HT_.out pL) (fun _ _ _ h => h) (Or.inl ⟨by rfl, ?_⟩) ?_ ?_
                                rotate_left
                                ·intro w'
                                 go_simp
                                 with_reducible rfl
                                rotate_left
                                ·exact pP
                                exact norm_ (by first | (simp only [putAll, Act.put, List.setIfInBounds_toArray, List.set_cons_zero, List.set_cons_succ]; done) | (simp only [putAll, Act.put, List.setIfInBounds_toArray, List.set_cons_zero, List.set_cons_succ]; rfl)) (hJ3_4_6 (.slice (some adz_v205) y204.length co59, adz_v205) _ ⟨(pR HO206), (pR HO_3), ⟨_, rfl⟩, (by repeat (first | (with_reducible first | exact HI0.out | apply IsS62.alloc | apply IsS62.drewN | apply IsS62.drew | apply IsS62.set_1) | exact HI0.out)), pK, (by repeat (first | (with_reducible first | exact HB.out | apply below_alloc | apply pw_below_drewN | apply below_drew1 | refine below_set ?_ (IsS62.ge HI0.out)) | exact HB.out))⟩)
                               ·skip
                                refine Kd.R_lit_step (Kd.int .i64) _ 3 ?hg (N := 55) ?hd (xs := ([(-1), 255, 256] : List Int)) (inner := [.int .i64 (-1), .int .i64 255, .int .i64 256]) (ok := fun _ => True) (okp := fun _ => True) ?hr ?hp (fun _ hk => hk) trivial (Below.refl _ _) (Nat.le_refl _) (by simp) ?_; (case hd => rfl); (case hg => rfl); (case hr => first | (go_simp; done) | (go_simp; rfl)); (case hp => exact (Reps.one (show Kd.M (Kd.int .i64) _ _ _ (-1) [.int .i64 (-1)] from rfl) (Reps.one (show Kd.M (Kd.int .i64) _ _ _ 255 [.int .i64 255] from rfl) (Reps.one (show Kd.M (Kd.int .i64) _ _ _ 256 [.int .i64 256] from rfl) (Reps.none _ _)))))
                                intro v211 w60 ho61 hb hg_ hnew_
                                clear hg_ hnew_
                                (first | rw [← Ny210.out] at ho61 | (simp only [Int.reduceToNat] at ho61; rw [← Ny210.out] at ho61))
                                have n0_ := Aside0.mk (Kd.R_below (pR HO_3) hb)
                                have n1_ := Aside0.mk (Kd.R_elder' (pR HO206) (Kd.R_base ho61) hb)
                                have n2_ := Aside0.mk (Kd.R_lower (Kd.R_new' ho61 (Kd.R_lt (pR HO206))) (keep_size (w := w) (g := g) (row := none) pK))
                                have n3_ := Aside0.mk (IsS62.below (by repeat (first | (with_reducible first | exact HI0.out | apply IsS62.alloc | apply IsS62.drewN | apply IsS62.drew | apply IsS62.set_1) | exact HI0.out)) hb)
                                have n4_ := Aside0.mk (KeepBut.trans pK (KeepBut.of_below hb g none) (.inl rfl))
                                have n5_ := Aside0.mk (below_step (by repeat (first | (with_reducible first | exact HB.out | apply below_alloc | apply pw_below_drewN | apply below_drew1 | refine below_set ?_ (IsS62.ge HI0.out)) | exact HB.out)) hb)
                                clear HO_3
                                clear HO206
                                clear HI0
                                clear HK
                                clear HB
                                have HO_3 := n0_
                                have HO206 := n1_
                                have HO212 := n2_
                                have HI0 := n3_
                                have HK := n4_
                                have HB := n5_
                                clear n0_ n1_ n2_ n3_ n4_ n5_
                                clear hb ho61
                                obtain ⟨Ao62, co62, eo62⟩ := Kd.R_slice HO212.out
                                subst eo62
                                obtain ⟨ado62, fo62, _⟩ := Kd.at_int (Kd.R_reads' HO212.out).2.2 0 (by decide) (by rw [Ny210.out]; simp)
                                cases fo62
                                refine hK.out _ _ trivial (fun hHeld => ?_)
                                clear hK K
                                refine norm_ (a' := ?_) ?_ ?_
                                rotate_left
                                ·show Act.put _ (some 55) _ = _
                                 exact pP
                                exact norm_ (by first | (simp only [putAll, Act.put, List.setIfInBounds_toArray, List.set_cons_zero, List.set_cons_succ]; done) | (simp only [putAll, Act.put, List.setIfInBounds_toArray, List.set_cons_zero, List.set_cons_succ]; rfl)) (hJ3_4_9 (.slice (some adz_v205) y204.length co59, adz_v205, .slice (some ado62) y210.length co62, ado62) _ ⟨(by (with_reducible repeat (first | apply Kd.R_alloc | apply Kd.R_drewN | apply Kd.R_drew)); exact Kd.R_mono HO206.out (fun _ hk => hk.2)), (by (with_reducible repeat (first | apply Kd.R_alloc | apply Kd.R_drewN | apply Kd.R_drew)); exact Kd.R_mono HO212.out (fun _ hk => hk.2)), (pR HO_3), ⟨_, rfl⟩, ⟨_, rfl⟩, (by repeat (first | (with_reducible first | exact HI0.out | apply IsS62.alloc | apply IsS62.drewN | apply IsS62.drew | apply IsS62.set_1) | exact HI0.out)), pK, (by repeat (first | (with_reducible first | exact HB.out | apply below_alloc | apply pw_below_drewN | apply below_drew1 | refine below_set ?_ (IsS62.ge HI0.out)) | exact HB.out))⟩)
                             ·skip
                              rintro _ w57 ⟨h0_, h1_, h2_, h3_⟩
                              have n0_ : Aside0 (Kd.R k40 40 w57 w.heap.size (fun _ => True) u3 x3_2) := ⟨h0_⟩
                              have n1_ : Aside0 (IsS62 w0 w57 g s0_0 t214) := ⟨h1_⟩
                              have n2_ : Aside0 (KeepBut w w57 g none) := ⟨h2_⟩
                              have n3_ : Aside0 (Below w0.heap.size w0 w57) := ⟨h3_⟩
                              clear HO_3
                              clear HI0
                              clear HK
                              clear HB
                              clear h0_ h1_ h2_ h3_
                              have HO_3 := n0_
                              have HI0 := n1_
                              have HK := n2_
                              have HB := n3_
                              clear n0_ n1_ n2_ n3_
                              have hHeld := trivial
                              refine norm_ (a' := ?_) ?_ ?_
                              rotate_left
                              ·simp only [putAll, Act.put, List.setIfInBounds_toArray, List.set_cons_zero, List.set_cons_succ]
                               rfl
                              refine two_ (i := 4) (j := 9) (Ni := some 50) (Nj := some 55) #[true, true, true, true, true, true, true, false, false, false, true, true, false, false, false, false, false] #[true, true, true, true, false, true, true, false, false, true, true, true, false, false, false, false, false] rfl rfl rfl rfl (two_of HT_.out pL) (by decide) (by decide) (fun K hK => ?_) (fun K hK => ?_)
                              ·skip
                               refine Kd.R_lit_step (Kd.int .i64) _ 3 ?hg (N := 50) ?hd (xs := ([0, 4, 5] : List Int)) (inner := [.int .i64 0, .int .i64 4, .int .i64 5]) (ok := fun _ => True) (okp := fun _ => True) ?hr ?hp (fun _ hk => hk) trivial (Below.refl _ _) (Nat.le_refl _) (by simp) ?_; (case hd => rfl); (case hg => rfl); (case hr => first | (go_simp; done) | (go_simp; rfl)); (case hp => exact (Reps.one (show Kd.M (Kd.int .i64) _ _ _ 0 [.int .i64 0] from rfl) (Reps.one (show Kd.M (Kd.int .i64) _ _ _ 4 [.int .i64 4] from rfl) (Reps.one (show Kd.M (Kd.int .i64) _ _ _ 5 [.int .i64 5] from rfl) (Reps.none _ _)))))
                               intro v205 w58 ho59 hb hg_ hnew_
                               clear hg_ hnew_
                               (first | rw [← Ny204.out] at ho59 | (simp only [Int.reduceToNat] at ho59; rw [← Ny204.out] at ho59))
                               have n0_ := Aside0.mk (Kd.R_below (pR HO_3) hb)
                               have n1_ := Aside0.mk (Kd.R_lower ho59 (keep_size (w := w) (g := g) (row := none) pK))
                               have n2_ := Aside0.mk (IsS62.below (by repeat (first | (with_reducible first | exact HI0.out | apply IsS62.alloc | apply IsS62.drewN | apply IsS62.drew | apply IsS62.set_1) | exact HI0.out)) hb)
                               have n3_ := Aside0.mk (KeepBut.trans pK (KeepBut.of_below hb g none) (.inl rfl))
                               have n4_ := Aside0.mk (below_step (by repeat (first | (with_reducible first | exact HB.out | apply below_alloc | apply pw_below_drewN | apply below_drew1 | refine below_set ?_ (IsS62.ge HI0.out)) | exact HB.out)) hb)
                               clear HO_3
                               clear HI0
                               clear HK
                               clear HB
                               have HO_3 := n0_
                               have HO206 := n1_
                               have HI0 := n2_
                               have HK := n3_
                               have HB := n4_
                               clear n0_ n1_ n2_ n3_ n4_
                               clear hb ho59
                               obtain ⟨Ao60, co60, eo60⟩ := Kd.R_slice HO206.out
                               subst eo60
                               obtain ⟨ado60, fo60, _⟩ := Kd.at_int (Kd.R_reads' HO206.out).2.2 0 (by decide) (by rw [Ny204.out]; simp)
                               cases fo60
                               refine hK.out _ _ trivial (fun hHeld => ?_)
                               clear hK K
                               refine norm_ (a' := ?_) ?_ ?_
                               rotate_left
                               ·show Act.put _ (some 50) _ = _
                                exact pP
                               refine pure_ (i := 7) (N := some 53) (v := ?_) (a' := ?_) #[true, true, true, true, true, true, true, true, false, false, true, true, false, false, false, false, false] rfl rfl (any_of HT_.out pL) (fun _ _ _ h => h) (Or.inl ⟨by rfl, ?_⟩) ?_ ?_
                               rotate_left
                               ·intro w'
                                go_simp
                                with_reducible rfl
                               rotate_left
                               ·exact pP
                               exact norm_ (by first | (simp only [putAll, Act.put, List.setIfInBounds_toArray, List.set_cons_zero, List.set_cons_succ]; done) | (simp only [putAll, Act.put, List.setIfInBounds_toArray, List.set_cons_zero, List.set_cons_succ]; rfl)) (hJ3_4_6_11 (.slice (some ado60) y204.length co60, ado60) _ ⟨(pR HO206), (pR HO_3), ⟨_, rfl⟩, (by repeat (first | (with_reducible first | exact HI0.out | apply IsS62.alloc | apply IsS62.drewN | apply IsS62.drew | apply IsS62.set_1) | exact HI0.out)), pK, (by repeat (first | (with_reducible first | exact HB.out | apply below_alloc | apply pw_below_drewN | apply below_drew1 | refine below_set ?_ (IsS62.ge HI0.out)) | exact HB.out))⟩)
                              ·skip
                               refine Kd.R_lit_step (Kd.int .i64) _ 3 ?hg (N := 55) ?hd (xs := ([(-1), 255, 256] : List Int)) (inner := [.int .i64 (-1), .int .i64 255, .int .i64 256]) (ok := fun _ => True) (okp := fun _ => True) ?hr ?hp (fun _ hk => hk) trivial (Below.refl _ _) (Nat.le_refl _) (by simp) ?_; (case hd => rfl); (case hg => rfl); (case hr => first | (go_simp; done) | (go_simp; rfl)); (case hp => exact (Reps.one (show Kd.M (Kd.int .i64) _ _ _ (-1) [.int .i64 (-1)] from rfl) (Reps.one (show Kd.M (Kd.int .i64) _ _ _ 255 [.int .i64 255] from rfl) (Reps.one (show Kd.M (Kd.int .i64) _ _ _ 256 [.int .i64 256] from rfl) (Reps.none _ _)))))
                               intro v211 w58 ho59 hb hg_ hnew_
                               clear hg_ hnew_
                               (first | rw [← Ny210.out] at ho59 | (simp only [Int.reduceToNat] at ho59; rw [← Ny210.out] at ho59))
                               have n0_ := Aside0.mk (Kd.R_below (pR HO_3) hb)
                               have n1_ := Aside0.mk (Kd.R_lower ho59 (keep_size (w := w) (g := g) (row := none) pK))
                               have n2_ := Aside0.mk (IsS62.below (by repeat (first | (with_reducible first | exact HI0.out | apply IsS62.alloc | apply IsS62.drewN | apply IsS62.drew | apply IsS62.set_1) | exact HI0.out)) hb)
                               have n3_ := Aside0.mk (KeepBut.trans pK (KeepBut.of_below hb g none) (.inl rfl))
                               have n4_ := Aside0.mk (below_step (by repeat (first | (with_reducible first | exact HB.out | apply below_alloc | apply pw_below_drewN | apply below_drew1 | refine below_set ?_ (IsS62.ge HI0.out)) | exact HB.out)) hb)
                               clear HO_3
                               clear HI0
                               clear HK
                               clear HB
                               have HO_3 := n0_
                               have HO212 := n1_
                               have HI0 := n2_
                               have HK := n3_
                               have HB := n4_
                               clear n0_ n1_ n2_ n3_ n4_
                               clear hb ho59
                               obtain ⟨Ao60, co60, eo60⟩ := Kd.R_slice HO212.out
                               subst eo60
                               obtain ⟨ado60, fo60, _⟩ := Kd.at_int (Kd.R_reads' HO212.out).2.2 0 (by decide) (by rw [Ny210.out]; simp)
                               cases fo60
                               refine hK.out _ _ trivial (fun hHeld => ?_)
                               clear hK K
                               refine norm_ (a' := ?_) ?_ ?_
                               rotate_left
                               ·show Act.put _ (some 55) _ = _
                                exact pP
                               refine pure_ (i := 12) (N := some 58) (v := ?_) (a' := ?_) #[true, true, true, true, false, true, true, false, false, true, true, true, true, false, false, false, false] rfl rfl (any_of HT_.out pL) (fun _ _ _ h => h) (Or.inl ⟨by rfl, ?_⟩) ?_ ?_
                               rotate_left
                               ·intro w'
                                go_simp
                                with_reducible rfl
                               rotate_left
                               ·exact pP
                               exact norm_ (by first | (simp only [putAll, Act.put, List.setIfInBounds_toArray, List.set_cons_zero, List.set_cons_succ]; done) | (simp only [putAll, Act.put, List.setIfInBounds_toArray, List.set_cons_zero, List.set_cons_succ]; rfl)) (hJ3_6_9_11 (.slice (some ado60) y210.length co60, ado60) _ ⟨(pR HO212), (pR HO_3), ⟨_, rfl⟩, (by repeat (first | (with_reducible first | exact HI0.out | apply IsS62.alloc | apply IsS62.drewN | apply IsS62.drew | apply IsS62.set_1) | exact HI0.out)), pK, (by repeat (first | (with_reducible first | exact HB.out | apply below_alloc | apply pw_below_drewN | apply below_drew1 | refine below_set ?_ (IsS62.ge HI0.out)) | exact HB.out))⟩)
                            ·skip
                             rintro ⟨v211, adz_v211⟩ w59 ⟨h0_, h1_, h2_, h3_, h4_, h5_⟩
                             have n0_ : Aside0 (Kd.R (Kd.int .i64) 3 w59 w.heap.size (fun _ => True) v211 y210) := ⟨h0_⟩
                             have n1_ : Aside0 (Kd.R k40 40 w59 w.heap.size (fun _ => True) u3 x3_2) := ⟨h1_⟩
                             have n2_ : Aside0 (∃ c_, (v211 : Value) = .slice (some adz_v211) y210.length c_) := ⟨h2_⟩
                             have n3_ : Aside0 (IsS62 w0 w59 g s0_0 t208) := ⟨h3_⟩
                             have n4_ : Aside0 (KeepBut w w59 g none) := ⟨h4_⟩
                             have n5_ : Aside0 (Below w0.heap.size w0 w59) := ⟨h5_⟩
                             clear HO_3
                             clear HI0
                             clear HK
                             clear HB
                             clear h0_ h1_ h2_ h3_ h4_ h5_
                             have HO212 := n0_
                             have HO_3 := n1_
                             have HA_HO212 := n2_
                             have HI0 := n3_
                             have HK := n4_
                             have HB := n5_
                             clear n0_ n1_ n2_ n3_ n4_ n5_
                             have hHeld := trivial
                             obtain ⟨co60, eo60⟩ := HA_HO212.out
                             clear HA_HO212
                             subst eo60
                             refine norm_ (a' := ?_) ?_ ?_
                             rotate_left
                             ·simp only [putAll, Act.put, List.setIfInBounds_toArray, List.set_cons_zero, List.set_cons_succ]
                              rfl
                             refine two_ (i := 4) (j := 11) (Ni := some 50) (Nj := some 57) #[true, true, true, true, true, true, true, false, false, true, true, false, false, false, false, false, false] #[true, true, true, true, false, true, true, false, false, true, true, true, false, false, false, false, false] rfl rfl rfl rfl (two_of HT_.out pL) (by decide) (by decide) (fun K hK => ?_) (fun K hK => ?_)
                             ·skip
                              refine Kd.R_lit_step (Kd.int .i64) _ 3 ?hg (N := 50) ?hd (xs := ([0, 4, 5] : List Int)) (inner := [.int .i64 0, .int .i64 4, .int .i64 5]) (ok := fun _ => True) (okp := fun _ => True) ?hr ?hp (fun _ hk => hk) trivial (Below.refl _ _) (Nat.le_refl _) (by simp) ?_; (case hd => rfl); (case hg => rfl); (case hr => first | (go_simp; done) | (go_simp; rfl)); (case hp => exact (Reps.one (show Kd.M (Kd.int .i64) _ _ _ 0 [.int .i64 0] from rfl) (Reps.one (show Kd.M (Kd.int .i64) _ _ _ 4 [.int .i64 4] from rfl) (Reps.one (show Kd.M (Kd.int .i64) _ _ _ 5 [.int .i64 5] from rfl) (Reps.none _ _)))))
                              intro v205 w61 ho62 hb hg_ hnew_
                              clear hg_ hnew_
                              (first | rw [← Ny204.out] at ho62 | (simp only [Int.reduceToNat] at ho62; rw [← Ny204.out] at ho62))
                              have n0_ := Aside0.mk (Kd.R_below (pR HO_3) hb)
                              have n1_ := Aside0.mk (Kd.R_elder' (pR HO212) (Kd.R_base ho62) hb)
                              have n2_ := Aside0.mk (Kd.R_lower (Kd.R_new' ho62 (Kd.R_lt (pR HO212))) (keep_size (w := w) (g := g) (row := none) pK))
                              have n3_ := Aside0.mk (IsS62.below (by repeat (first | (with_reducible first | exact HI0.out | apply IsS62.alloc | apply IsS62.drewN | apply IsS62.drew | apply IsS62.set_1) | exact HI0.out)) hb)
                              have n4_ := Aside0.mk (KeepBut.trans pK (KeepBut.of_below hb g none) (.inl rfl))
                              have n5_ := Aside0.mk (below_step (by repeat (first | (with_reducible first | exact HB.out | apply below_alloc | apply pw_below_drewN | apply below_drew1 | refine below_set ?_ (IsS62.ge HI0.out)) | exact HB.out)) hb)
                              clear HO_3
                              clear HO212
                              clear HI0
                              clear HK
                              clear HB
                              have HO_3 := n0_
                              have HO212 := n1_
                              have HO206 := n2_
                              have HI0 := n3_
                              have HK := n4_
                              have HB := n5_
                              clear n0_ n1_ n2_ n3_ n4_ n5_
                              clear hb ho62
                              obtain ⟨Ao63, co63, eo63⟩ := Kd.R_slice HO206.out
                              subst eo63
                              obtain ⟨ado63, fo63, _⟩ := Kd.at_int (Kd.R_reads' HO206.out).2.2 0 (by decide) (by rw [Ny204.out]; simp)
                              cases fo63
                              refine hK.out _ _ trivial (fun hHeld => ?_)
                              clear hK K
                              refine norm_ (a' := ?_) ?_ ?_
                              rotate_left
                              ·show Act.put _ (some 50) _ = _
                               exact pP
                              refine pure_ (i := 7) (N := some 53) (v := ?_) (a' := ?_) #[true, true, true, true, true, true, true, true, false, true, true, false, false, false, false, false, false] rfl rfl (any_of HT_.out pL) (fun _ _ _ h => h) (Or.inl ⟨by rfl, ?_⟩) ?_ ?_
                              rotate_left
                              ·intro w'
                               go_simp
                               with_reducible rfl
                              rotate_left
                              ·exact pP
                              exact norm_ (by first | (simp only [putAll, Act.put, List.setIfInBounds_toArray, List.set_cons_zero, List.set_cons_succ]; done) | (simp only [putAll, Act.put, List.setIfInBounds_toArray, List.set_cons_zero, List.set_cons_succ]; rfl)) (hJ3_4_6_9 (.slice (some ado63) y204.length co63, ado63, .slice (some adz_v211) y210.length co60, adz_v211) _ ⟨(by (with_reducible repeat (first | apply Kd.R_alloc | apply Kd.R_drewN | apply Kd.R_drew)); exact Kd.R_mono HO206.out (fun _ hk => hk.2)), (by (with_reducible repeat (first | apply Kd.R_alloc | apply Kd.R_drewN | apply Kd.R_drew)); exact Kd.R_mono HO212.out (fun _ hk => hk.2)), (pR HO_3), ⟨_, rfl⟩, ⟨_, rfl⟩, (by repeat (first | (with_reducible first | exact HI0.out | apply IsS62.alloc | apply IsS62.drewN | apply IsS62.drew | apply IsS62.set_1) | exact HI0.out)), pK, (by repeat (first | (with_reducible first | exact HB.out | apply below_alloc | apply pw_below_drewN | apply below_drew1 | refine below_set ?_ (IsS62.ge HI0.out)) | exact HB.out))⟩)
                             ·skip
                              refine goes_ Try.func46 pL rfl #[.pointer (some ⟨g, 0, none⟩), .int .i64 3] (by rfl) rfl rfl pM ?_
                              with_reducible refine (spec_l6Rd_pick.calls kj37 g s0_0 t208 3 t213 t214 w0 _ ?side1 ?side2 A47.out).mono ?_
                              (case side1 => repeat (first | (with_reducible first | exact HI0.out | apply IsS62.alloc | apply IsS62.drewN | apply IsS62.drew | apply IsS62.set_1) | exact HI0.out))
                              (case side2 => repeat (first | (with_reducible first | exact HB.out | apply below_alloc | apply pw_below_drewN | apply below_drew1 | refine below_set ?_ (IsS62.ge HI0.out)) | exact HB.out))
                              rintro e w61 ⟨rfl, hi, hb, hk⟩
                              refine ⟨_, rfl, ?_⟩
                              have n0_ := Aside0.mk (Kd.R_mono (Kd.R_keep (IsS62.apart (show IsS62 w0 _ g s0_0 t208 from by repeat (first | (with_reducible first | exact HI0.out | apply IsS62.alloc | apply IsS62.drewN | apply IsS62.drew | apply IsS62.set_1) | exact HI0.out)) (pR HO_3) (by decide)) hk (fun _ h => h.2)) (fun _ h => h.1))
                              have n1_ := Aside0.mk (Kd.R_mono (Kd.R_keep (IsS62.apart (show IsS62 w0 _ g s0_0 t208 from by repeat (first | (with_reducible first | exact HI0.out | apply IsS62.alloc | apply IsS62.drewN | apply IsS62.drew | apply IsS62.set_1) | exact HI0.out)) (pR HO212) (by decide)) hk (fun _ h => h.2)) (fun _ h => h.1))
                              have n2_ := Aside0.mk (KeepBut.trans pK hk (.inl rfl))
                              have n3_ := Aside0.mk (hb)
                              have n4_ := Aside0.mk (hi)
                              clear HO_3
                              clear HO212
                              clear HK
                              clear HB
                              clear HI0
                              have HO_3 := n0_
                              have HO212 := n1_
                              have HK := n2_
                              have HB := n3_
                              have HI0 := n4_
                              clear n0_ n1_ n2_ n3_ n4_
                              (try clear hb)
                              (try clear hb2)
                              (try clear hk)
                              (try clear hi)
                              refine hK.out _ _ trivial (fun hHeld => ?_)
                              clear hK K
                              refine norm_ (a' := ?_) ?_ ?_
                              rotate_left
                              ·show Act.put _ (some 57) _ = _
                               exact pP
                              refine pure_ (i := 12) (N := some 58) (v := ?_) (a' := ?_) #[true, true, true, true, false, true, true, false, false, true, true, true, true, false, false, false, false] rfl rfl (any_of HT_.out pL) (fun _ _ _ h => h) (Or.inl ⟨by rfl, ?_⟩) ?_ ?_
                              rotate_left
                              ·intro w'
                               go_simp
                               with_reducible rfl
                              rotate_left
                              ·exact pP
                              exact norm_ (by first | (simp only [putAll, Act.put, List.setIfInBounds_toArray, List.set_cons_zero, List.set_cons_succ]; done) | (simp only [putAll, Act.put, List.setIfInBounds_toArray, List.set_cons_zero, List.set_cons_succ]; rfl)) (hJ3_6_9_11 (.slice (some adz_v211) y210.length co60, adz_v211) _ ⟨(pR HO212), (pR HO_3), ⟨_, rfl⟩, (by repeat (first | (with_reducible first | exact HI0.out | apply IsS62.alloc | apply IsS62.drewN | apply IsS62.drew | apply IsS62.set_1) | exact HI0.out)), pK, (by repeat (first | (with_reducible first | exact HB.out | apply below_alloc | apply pw_below_drewN | apply below_drew1 | refine below_set ?_ (IsS62.ge HI0.out)) | exact HB.out))⟩)
                           ·skip
                            rintro ⟨v205, adz_v205, v211, adz_v211⟩ w61 ⟨h0_, h1_, h2_, h3_, h4_, h5_, h6_, h7_⟩
                            have n0_ : Aside0 (Kd.R (Kd.int .i64) 3 w61 w.heap.size (fun k_ => some k_ ≠ (v211 : Value).ownBlock) v205 y204) := ⟨h0_⟩
                            have n1_ : Aside0 (Kd.R (Kd.int .i64) 3 w61 w.heap.size (fun k_ => some k_ ≠ (v205 : Value).ownBlock) v211 y210) := ⟨h1_⟩
                            have n2_ : Aside0 (Kd.R k40 40 w61 w.heap.size (fun _ => True) u3 x3_2) := ⟨h2_⟩
                            have n3_ : Aside0 (∃ c_, (v205 : Value) = .slice (some adz_v205) y204.length c_) := ⟨h3_⟩
                            have n4_ : Aside0 (∃ c_, (v211 : Value) = .slice (some adz_v211) y210.length c_) := ⟨h4_⟩
                            have n5_ : Aside0 (IsS62 w0 w61 g s0_0 t203) := ⟨h5_⟩
                            have n6_ : Aside0 (KeepBut w w61 g none) := ⟨h6_⟩
                            have n7_ : Aside0 (Below w0.heap.size w0 w61) := ⟨h7_⟩
                            clear HO_3
                            clear HI0
                            clear HK
                            clear HB
                            clear h0_ h1_ h2_ h3_ h4_ h5_ h6_ h7_
                            have HO206 := n0_
                            have HO212 := n1_
                            have HO_3 := n2_
                            have HA_HO206 := n3_
                            have HA_HO212 := n4_
                            have HI0 := n5_
                            have HK := n6_
                            have HB := n7_
                            clear n0_ n1_ n2_ n3_ n4_ n5_ n6_ n7_
                            have hHeld := trivial
                            obtain ⟨co62, eo62⟩ := HA_HO206.out
                            clear HA_HO206
                            subst eo62
                            obtain ⟨co63, eo63⟩ := HA_HO212.out
                            clear HA_HO212
                            subst eo63
                            refine norm_ (a' := ?_) ?_ ?_
                            rotate_left
                            ·simp only [putAll, Act.put, List.setIfInBounds_toArray, List.set_cons_zero, List.set_cons_succ]
                             rfl
                            refine one_ (i := 6) (N := some 52) #[true, true, true, true, true, true, true, false, false, true, true, false, false, false, false, false, false] rfl rfl (one_of HT_.out pL) (by decide) (fun K hK => ?_)
                            refine goes_ Try.func46 pL rfl #[.pointer (some ⟨g, 0, none⟩), .int .i64 3] (by rfl) rfl rfl pM ?_
                            with_reducible refine (spec_l6Rd_pick.calls kj37 g s0_0 t203 3 t207 t208 w0 _ ?side1 ?side2 A44.out).mono ?_
                            (case side1 => repeat (first | (with_reducible first | exact HI0.out | apply IsS62.alloc | apply IsS62.drewN | apply IsS62.drew | apply IsS62.set_1) | exact HI0.out))
                            (case side2 => repeat (first | (with_reducible first | exact HB.out | apply below_alloc | apply pw_below_drewN | apply below_drew1 | refine below_set ?_ (IsS62.ge HI0.out)) | exact HB.out))
                            rintro e w64 ⟨rfl, hi, hb, hk⟩
                            refine ⟨_, rfl, ?_⟩
                            have n0_ := Aside0.mk (Kd.R_mono (Kd.R_keep (IsS62.apart (show IsS62 w0 _ g s0_0 t203 from by repeat (first | (with_reducible first | exact HI0.out | apply IsS62.alloc | apply IsS62.drewN | apply IsS62.drew | apply IsS62.set_1) | exact HI0.out)) (pR HO_3) (by decide)) hk (fun _ h => h.2)) (fun _ h => h.1))
                            have n1_ := Aside0.mk (Kd.R_mono (Kd.R_keep (IsS62.apart (show IsS62 w0 _ g s0_0 t203 from by repeat (first | (with_reducible first | exact HI0.out | apply IsS62.alloc | apply IsS62.drewN | apply IsS62.drew | apply IsS62.set_1) | exact HI0.out)) (pR HO206) (by decide)) hk (fun _ h => h.2)) (fun _ h => h.1))
                            have n2_ := Aside0.mk (Kd.R_mono (Kd.R_keep (IsS62.apart (show IsS62 w0 _ g s0_0 t203 from by repeat (first | (with_reducible first | exact HI0.out | apply IsS62.alloc | apply IsS62.drewN | apply IsS62.drew | apply IsS62.set_1) | exact HI0.out)) (pR HO212) (by decide)) hk (fun _ h => h.2)) (fun _ h => h.1))
                            have n3_ := Aside0.mk (KeepBut.trans pK hk (.inl rfl))
                            have n4_ := Aside0.mk (hb)
                            have n5_ := Aside0.mk (hi)
                            clear HO_3
                            clear HO206
                            clear HO212
                            clear HK
                            clear HB
                            clear HI0
                            have HO_3 := n0_
                            have HO206 := n1_
                            have HO212 := n2_
                            have HK := n3_
                            have HB := n4_
                            have HI0 := n5_
                            clear n0_ n1_ n2_ n3_ n4_ n5_
                            (try clear hb)
                            (try clear hb2)
                            (try clear hk)
                            (try clear hi)
                            refine hK.out _ _ trivial (fun hHeld => ?_)
                            clear hK K
                            refine norm_ (a' := ?_) ?_ ?_
                            rotate_left
                            ·show Act.put _ (some 52) _ = _
                             exact pP
                            refine pure_ (i := 7) (N := some 53) (v := ?_) (a' := ?_) #[true, true, true, true, true, true, true, true, false, true, true, false, false, false, false, false, false] rfl rfl (any_of HT_.out pL) (fun _ _ _ h => h) (Or.inl ⟨by rfl, ?_⟩) ?_ ?_
                            rotate_left
                            ·intro w'
                             go_simp
                             with_reducible rfl
                            rotate_left
                            ·exact pP
                            exact norm_ (by first | (simp only [putAll, Act.put, List.setIfInBounds_toArray, List.set_cons_zero, List.set_cons_succ]; done) | (simp only [putAll, Act.put, List.setIfInBounds_toArray, List.set_cons_zero, List.set_cons_succ]; rfl)) (hJ3_4_6_9 (.slice (some adz_v205) y204.length co62, adz_v205, .slice (some adz_v211) y210.length co63, adz_v211) _ ⟨(pR HO206), (pR HO212), (pR HO_3), ⟨_, rfl⟩, ⟨_, rfl⟩, (by repeat (first | (with_reducible first | exact HI0.out | apply IsS62.alloc | apply IsS62.drewN | apply IsS62.drew | apply IsS62.set_1) | exact HI0.out)), pK, (by repeat (first | (with_reducible first | exact HB.out | apply below_alloc | apply pw_below_drewN | apply below_drew1 | refine below_set ?_ (IsS62.ge HI0.out)) | exact HB.out))⟩)
                          ·skip
                           rintro ⟨v205, adz_v205⟩ w59 ⟨h0_, h1_, h2_, h3_, h4_, h5_⟩
                           have n0_ : Aside0 (Kd.R (Kd.int .i64) 3 w59 w.heap.size (fun _ => True) v205 y204) := ⟨h0_⟩
                           have n1_ : Aside0 (Kd.R k40 40 w59 w.heap.size (fun _ => True) u3 x3_2) := ⟨h1_⟩
                           have n2_ : Aside0 (∃ c_, (v205 : Value) = .slice (some adz_v205) y204.length c_) := ⟨h2_⟩
                           have n3_ : Aside0 (IsS62 w0 w59 g s0_0 t208) := ⟨h3_⟩
                           have n4_ : Aside0 (KeepBut w w59 g none) := ⟨h4_⟩
                           have n5_ : Aside0 (Below w0.heap.size w0 w59) := ⟨h5_⟩
                           clear HO_3
                           clear HI0
                           clear HK
                           clear HB
                           clear h0_ h1_ h2_ h3_ h4_ h5_
                           have HO206 := n0_
                           have HO_3 := n1_
                           have HA_HO206 := n2_
                           have HI0 := n3_
                           have HK := n4_
                           have HB := n5_
                           clear n0_ n1_ n2_ n3_ n4_ n5_
                           have hHeld := trivial
                           obtain ⟨co60, eo60⟩ := HA_HO206.out
                           clear HA_HO206
                           subst eo60
                           refine norm_ (a' := ?_) ?_ ?_
                           rotate_left
                           ·simp only [putAll, Act.put, List.setIfInBounds_toArray, List.set_cons_zero, List.set_cons_succ]
                            rfl
                           refine three_ (i := 8) (j := 9) (k := 11) (Ni := some 54) (Nj := some 55) (Nk := some 57) #[true, true, true, true, true, true, true, true, true, false, true, false, false, false, false, false, false] #[true, true, true, true, true, true, true, true, false, true, true, false, false, false, false, false, false] #[true, true, true, true, true, true, true, true, false, false, true, true, false, false, false, false, false] rfl rfl rfl rfl rfl rfl (three_of HT_.out pL) (by decide) (by decide) (by decide) (fun K hK => ?_) (fun K hK => ?_) (fun K hK => ?_)
                           ·skip
                            (have p209 : 0 ≤ (t207 : Int) := of_decide_eq_true pA; have q209 : t207 < (y204.length : Int) := of_decide_eq_true pA; obtain ⟨ad209, e209, hx209_0⟩ := Kd.at_int (Kd.R_reads' HO206.out).2.2 t207 p209 q209; obtain rfl : adz_v205 = ad209 := (by injection e209))
                            refine value_ (w1 := ?_) (v := ?_) (by rfl) rfl ?_ ?_
                            rotate_left 2
                            ·go_simp
                             constructor
                             ·rfl
                             ·rfl
                            clear hx209_0
                            refine hK.out _ _ trivial (fun hHeld => ?_)
                            clear hK K
                            refine norm_ (a' := ?_) ?_ ?_
                            rotate_left
                            ·show Act.put _ (some 54) _ = _
                             exact pP
                            exact norm_ (by first | (simp only [putAll, Act.put, List.setIfInBounds_toArray, List.set_cons_zero, List.set_cons_succ]; done) | (simp only [putAll, Act.put, List.setIfInBounds_toArray, List.set_cons_zero, List.set_cons_succ]; rfl)) (hJ3_4_6_8 (.slice (some adz_v205) y204.length co60, adz_v205) _ ⟨(pR HO206), (pR HO_3), ⟨_, rfl⟩, (by repeat (first | (with_reducible first | exact HI0.out | apply IsS62.alloc | apply IsS62.drewN | apply IsS62.drew | apply IsS62.set_1) | exact HI0.out)), pK, (by repeat (first | (with_reducible first | exact HB.out | apply below_alloc | apply pw_below_drewN | apply below_drew1 | refine below_set ?_ (IsS62.ge HI0.out)) | exact HB.out))⟩)
                           ·skip
                            refine Kd.R_lit_step (Kd.int .i64) _ 3 ?hg (N := 55) ?hd (xs := ([(-1), 255, 256] : List Int)) (inner := [.int .i64 (-1), .int .i64 255, .int .i64 256]) (ok := fun _ => True) (okp := fun _ => True) ?hr ?hp (fun _ hk => hk) trivial (Below.refl _ _) (Nat.le_refl _) (by simp) ?_; (case hd => rfl); (case hg => rfl); (case hr => first | (go_simp; done) | (go_simp; rfl)); (case hp => exact (Reps.one (show Kd.M (Kd.int .i64) _ _ _ (-1) [.int .i64 (-1)] from rfl) (Reps.one (show Kd.M (Kd.int .i64) _ _ _ 255 [.int .i64 255] from rfl) (Reps.one (show Kd.M (Kd.int .i64) _ _ _ 256 [.int .i64 256] from rfl) (Reps.none _ _)))))
                            intro v211 w61 ho62 hb hg_ hnew_
                            clear hg_ hnew_
                            (first | rw [← Ny210.out] at ho62 | (simp only [Int.reduceToNat] at ho62; rw [← Ny210.out] at ho62))
                            have n0_ := Aside0.mk (Kd.R_below (pR HO_3) hb)
                            have n1_ := Aside0.mk (Kd.R_elder' (pR HO206) (Kd.R_base ho62) hb)
                            have n2_ := Aside0.mk (Kd.R_lower (Kd.R_new' ho62 (Kd.R_lt (pR HO206))) (keep_size (w := w) (g := g) (row := none) pK))
                            have n3_ := Aside0.mk (IsS62.below (by repeat (first | (with_reducible first | exact HI0.out | apply IsS62.alloc | apply IsS62.drewN | apply IsS62.drew | apply IsS62.set_1) | exact HI0.out)) hb)
                            have n4_ := Aside0.mk (KeepBut.trans pK (KeepBut.of_below hb g none) (.inl rfl))
                            have n5_ := Aside0.mk (below_step (by repeat (first | (with_reducible first | exact HB.out | apply below_alloc | apply pw_below_drewN | apply below_drew1 | refine below_set ?_ (IsS62.ge HI0.out)) | exact HB.out)) hb)
                            clear HO_3
                            clear HO206
                            clear HI0
                            clear HK
                            clear HB
                            have HO_3 := n0_
                            have HO206 := n1_
                            have HO212 := n2_
                            have HI0 := n3_
                            have HK := n4_
                            have HB := n5_
                            clear n0_ n1_ n2_ n3_ n4_ n5_
                            clear hb ho62
                            obtain ⟨Ao63, co63, eo63⟩ := Kd.R_slice HO212.out
                            subst eo63
                            obtain ⟨ado63, fo63, _⟩ := Kd.at_int (Kd.R_reads' HO212.out).2.2 0 (by decide) (by rw [Ny210.out]; simp)
                            cases fo63
                            refine hK.out _ _ trivial (fun hHeld => ?_)
                            clear hK K
                            refine norm_ (a' := ?_) ?_ ?_
                            rotate_left
                            ·show Act.put _ (some 55) _ = _
                             exact pP
                            exact norm_ (by first | (simp only [putAll, Act.put, List.setIfInBounds_toArray, List.set_cons_zero, List.set_cons_succ]; done) | (simp only [putAll, Act.put, List.setIfInBounds_toArray, List.set_cons_zero, List.set_cons_succ]; rfl)) (hJ3_4_6_9 (.slice (some adz_v205) y204.length co60, adz_v205, .slice (some ado63) y210.length co63, ado63) _ ⟨(by (with_reducible repeat (first | apply Kd.R_alloc | apply Kd.R_drewN | apply Kd.R_drew)); exact Kd.R_mono HO206.out (fun _ hk => hk.2)), (by (with_reducible repeat (first | apply Kd.R_alloc | apply Kd.R_drewN | apply Kd.R_drew)); exact Kd.R_mono HO212.out (fun _ hk => hk.2)), (pR HO_3), ⟨_, rfl⟩, ⟨_, rfl⟩, (by repeat (first | (with_reducible first | exact HI0.out | apply IsS62.alloc | apply IsS62.drewN | apply IsS62.drew | apply IsS62.set_1) | exact HI0.out)), pK, (by repeat (first | (with_reducible first | exact HB.out | apply below_alloc | apply pw_below_drewN | apply below_drew1 | refine below_set ?_ (IsS62.ge HI0.out)) | exact HB.out))⟩)
                           ·skip
                            refine goes_ Try.func46 pL rfl #[.pointer (some ⟨g, 0, none⟩), .int .i64 3] (by rfl) rfl rfl pM ?_
                            with_reducible refine (spec_l6Rd_pick.calls kj37 g s0_0 t208 3 t213 t214 w0 _ ?side1 ?side2 A47.out).mono ?_
                            (case side1 => repeat (first | (with_reducible first | exact HI0.out | apply IsS62.alloc | apply IsS62.drewN | apply IsS62.drew | apply IsS62.set_1) | exact HI0.out))
                            (case side2 => repeat (first | (with_reducible first | exact HB.out | apply below_alloc | apply pw_below_drewN | apply below_drew1 | refine below_set ?_ (IsS62.ge HI0.out)) | exact HB.out))
                            rintro e w61 ⟨rfl, hi, hb, hk⟩
                            refine ⟨_, rfl, ?_⟩
                            have n0_ := Aside0.mk (Kd.R_mono (Kd.R_keep (IsS62.apart (show IsS62 w0 _ g s0_0 t208 from by repeat (first | (with_reducible first | exact HI0.out | apply IsS62.alloc | apply IsS62.drewN | apply IsS62.drew | apply IsS62.set_1) | exact HI0.out)) (pR HO_3) (by decide)) hk (fun _ h => h.2)) (fun _ h => h.1))
                            have n1_ := Aside0.mk (Kd.R_mono (Kd.R_keep (IsS62.apart (show IsS62 w0 _ g s0_0 t208 from by repeat (first | (with_reducible first | exact HI0.out | apply IsS62.alloc | apply IsS62.drewN | apply IsS62.drew | apply IsS62.set_1) | exact HI0.out)) (pR HO206) (by decide)) hk (fun _ h => h.2)) (fun _ h => h.1))
                            have n2_ := Aside0.mk (KeepBut.trans pK hk (.inl rfl))
                            have n3_ := Aside0.mk (hb)
                            have n4_ := Aside0.mk (hi)
                            clear HO_3
                            clear HO206
                            clear HK
                            clear HB
                            clear HI0
                            have HO_3 := n0_
                            have HO206 := n1_
                            have HK := n2_
                            have HB := n3_
                            have HI0 := n4_
                            clear n0_ n1_ n2_ n3_ n4_
                            (try clear hb)
                            (try clear hb2)
                            (try clear hk)
                            (try clear hi)
                            refine hK.out _ _ trivial (fun hHeld => ?_)
                            clear hK K
                            refine norm_ (a' := ?_) ?_ ?_
                            rotate_left
                            ·show Act.put _ (some 57) _ = _
                             exact pP
                            exact norm_ (by first | (simp only [putAll, Act.put, List.setIfInBounds_toArray, List.set_cons_zero, List.set_cons_succ]; done) | (simp only [putAll, Act.put, List.setIfInBounds_toArray, List.set_cons_zero, List.set_cons_succ]; rfl)) (hJ3_4_6_11 (.slice (some adz_v205) y204.length co60, adz_v205) _ ⟨(pR HO206), (pR HO_3), ⟨_, rfl⟩, (by repeat (first | (with_reducible first | exact HI0.out | apply IsS62.alloc | apply IsS62.drewN | apply IsS62.drew | apply IsS62.set_1) | exact HI0.out)), pK, (by repeat (first | (with_reducible first | exact HB.out | apply below_alloc | apply pw_below_drewN | apply below_drew1 | refine below_set ?_ (IsS62.ge HI0.out)) | exact HB.out))⟩)
                         ·skip
                          rintro ⟨v211, adz_v211⟩ w60 ⟨h0_, h1_, h2_, h3_, h4_, h5_⟩
                          have n0_ : Aside0 (Kd.R (Kd.int .i64) 3 w60 w.heap.size (fun _ => True) v211 y210) := ⟨h0_⟩
                          have n1_ : Aside0 (Kd.R k40 40 w60 w.heap.size (fun _ => True) u3 x3_2) := ⟨h1_⟩
                          have n2_ : Aside0 (∃ c_, (v211 : Value) = .slice (some adz_v211) y210.length c_) := ⟨h2_⟩
                          have n3_ : Aside0 (IsS62 w0 w60 g s0_0 t214) := ⟨h3_⟩
                          have n4_ : Aside0 (KeepBut w w60 g none) := ⟨h4_⟩
                          have n5_ : Aside0 (Below w0.heap.size w0 w60) := ⟨h5_⟩
                          clear HO_3
                          clear HI0
                          clear HK
                          clear HB
                          clear h0_ h1_ h2_ h3_ h4_ h5_
                          have HO212 := n0_
                          have HO_3 := n1_
                          have HA_HO212 := n2_
                          have HI0 := n3_
                          have HK := n4_
                          have HB := n5_
                          clear n0_ n1_ n2_ n3_ n4_ n5_
                          have hHeld := trivial
                          obtain ⟨co61, eo61⟩ := HA_HO212.out
                          clear HA_HO212
                          subst eo61
                          refine norm_ (a' := ?_) ?_ ?_
                          rotate_left
                          ·simp only [putAll, Act.put, List.setIfInBounds_toArray, List.set_cons_zero, List.set_cons_succ]
                           rfl
                          refine two_ (i := 4) (j := 13) (Ni := some 50) (Nj := some 59) #[true, true, true, true, true, true, true, false, false, true, true, true, true, false, false, false, false] #[true, true, true, true, false, true, true, false, false, true, true, true, true, true, false, false, false] rfl rfl rfl rfl (two_of HT_.out pL) (by decide) (by decide) (fun K hK => ?_) (fun K hK => ?_)
                          ·skip
                           refine Kd.R_lit_step (Kd.int .i64) _ 3 ?hg (N := 50) ?hd (xs := ([0, 4, 5] : List Int)) (inner := [.int .i64 0, .int .i64 4, .int .i64 5]) (ok := fun _ => True) (okp := fun _ => True) ?hr ?hp (fun _ hk => hk) trivial (Below.refl _ _) (Nat.le_refl _) (by simp) ?_; (case hd => rfl); (case hg => rfl); (case hr => first | (go_simp; done) | (go_simp; rfl)); (case hp => exact (Reps.one (show Kd.M (Kd.int .i64) _ _ _ 0 [.int .i64 0] from rfl) (Reps.one (show Kd.M (Kd.int .i64) _ _ _ 4 [.int .i64 4] from rfl) (Reps.one (show Kd.M (Kd.int .i64) _ _ _ 5 [.int .i64 5] from rfl) (Reps.none _ _)))))
                           intro v205 w62 ho63 hb hg_ hnew_
                           clear hg_ hnew_
                           (first | rw [← Ny204.out] at ho63 | (simp only [Int.reduceToNat] at ho63; rw [← Ny204.out] at ho63))
                           have n0_ := Aside0.mk (Kd.R_below (pR HO_3) hb)
                           have n1_ := Aside0.mk (Kd.R_elder' (pR HO212) (Kd.R_base ho63) hb)
                           have n2_ := Aside0.mk (Kd.R_lower (Kd.R_new' ho63 (Kd.R_lt (pR HO212))) (keep_size (w := w) (g := g) (row := none) pK))
                           have n3_ := Aside0.mk (IsS62.below (by repeat (first | (with_reducible first | exact HI0.out | apply IsS62.alloc | apply IsS62.drewN | apply IsS62.drew | apply IsS62.set_1) | exact HI0.out)) hb)
                           have n4_ := Aside0.mk (KeepBut.trans pK (KeepBut.of_below hb g none) (.inl rfl))
                           have n5_ := Aside0.mk (below_step (by repeat (first | (with_reducible first | exact HB.out | apply below_alloc | apply pw_below_drewN | apply below_drew1 | refine below_set ?_ (IsS62.ge HI0.out)) | exact HB.out)) hb)
                           clear HO_3
                           clear HO212
                           clear HI0
                           clear HK
                           clear HB
                           have HO_3 := n0_
                           have HO212 := n1_
                           have HO206 := n2_
                           have HI0 := n3_
                           have HK := n4_
                           have HB := n5_
                           clear n0_ n1_ n2_ n3_ n4_ n5_
                           clear hb ho63
                           obtain ⟨Ao64, co64, eo64⟩ := Kd.R_slice HO206.out
                           subst eo64
                           obtain ⟨ado64, fo64, _⟩ := Kd.at_int (Kd.R_reads' HO206.out).2.2 0 (by decide) (by rw [Ny204.out]; simp)
                           cases fo64
                           refine hK.out _ _ trivial (fun hHeld => ?_)
                           clear hK K
                           refine norm_ (a' := ?_) ?_ ?_
                           rotate_left
                           ·show Act.put _ (some 50) _ = _
                            exact pP
                           refine pure_ (i := 7) (N := some 53) (v := ?_) (a' := ?_) #[true, true, true, true, true, true, true, true, false, true, true, true, true, false, false, false, false] rfl rfl (any_of HT_.out pL) (fun _ _ _ h => h) (Or.inl ⟨by rfl, ?_⟩) ?_ ?_
                           rotate_left
                           ·intro w'
                            go_simp
                            with_reducible rfl
                           rotate_left
                           ·exact pP
                           exact norm_ (by first | (simp only [putAll, Act.put, List.setIfInBounds_toArray, List.set_cons_zero, List.set_cons_succ]; done) | (simp only [putAll, Act.put, List.setIfInBounds_toArray, List.set_cons_zero, List.set_cons_succ]; rfl)) (hJ3_4_6_9_11 (.slice (some ado64) y204.length co64, ado64, .slice (some adz_v211) y210.length co61, adz_v211) _ ⟨(by (with_reducible repeat (first | apply Kd.R_alloc | apply Kd.R_drewN | apply Kd.R_drew)); exact Kd.R_mono HO206.out (fun _ hk => hk.2)), (by (with_reducible repeat (first | apply Kd.R_alloc | apply Kd.R_drewN | apply Kd.R_drew)); exact Kd.R_mono HO212.out (fun _ hk => hk.2)), (pR HO_3), ⟨_, rfl⟩, ⟨_, rfl⟩, (by repeat (first | (with_reducible first | exact HI0.out | apply IsS62.alloc | apply IsS62.drewN | apply IsS62.drew | apply IsS62.set_1) | exact HI0.out)), pK, (by repeat (first | (with_reducible first | exact HB.out | apply below_alloc | apply pw_below_drewN | apply below_drew1 | refine below_set ?_ (IsS62.ge HI0.out)) | exact HB.out))⟩)
                          ·skip
                           (have p215 : 0 ≤ (t213 : Int) := of_decide_eq_true pA; have q215 : t213 < (y210.length : Int) := of_decide_eq_true pA; obtain ⟨ad215, e215, hx215_0⟩ := Kd.at_int (Kd.R_reads' HO212.out).2.2 t213 p215 q215; obtain rfl : adz_v211 = ad215 := (by injection e215))
                           refine value_ (w1 := ?_) (v := ?_) (by rfl) rfl ?_ ?_
                           rotate_left 2
                           ·go_simp
                            constructor
                            ·rfl
                            ·rfl
                           clear hx215_0
                           refine hK.out _ _ trivial (fun hHeld => ?_)
                           clear hK K
                           refine norm_ (a' := ?_) ?_ ?_
                           rotate_left
                           ·show Act.put _ (some 59) _ = _
                            exact pP
                           exact norm_ (by first | (simp only [putAll, Act.put, List.setIfInBounds_toArray, List.set_cons_zero, List.set_cons_succ]; done) | (simp only [putAll, Act.put, List.setIfInBounds_toArray, List.set_cons_zero, List.set_cons_succ]; rfl)) (hJ3_6_9_11_13 (.slice (some adz_v211) y210.length co61, adz_v211) _ ⟨(pR HO212), (pR HO_3), ⟨_, rfl⟩, (by repeat (first | (with_reducible first | exact HI0.out | apply IsS62.alloc | apply IsS62.drewN | apply IsS62.drew | apply IsS62.set_1) | exact HI0.out)), pK, (by repeat (first | (with_reducible first | exact HB.out | apply below_alloc | apply pw_below_drewN | apply below_drew1 | refine below_set ?_ (IsS62.ge HI0.out)) | exact HB.out))⟩)
                        ·skip
                         rintro ⟨v205, adz_v205⟩ w60 ⟨h0_, h1_, h2_, h3_, h4_, h5_⟩
                         have n0_ : Aside0 (Kd.R (Kd.int .i64) 3 w60 w.heap.size (fun _ => True) v205 y204) := ⟨h0_⟩
                         have n1_ : Aside0 (Kd.R k40 40 w60 w.heap.size (fun _ => True) u3 x3_2) := ⟨h1_⟩
                         have n2_ : Aside0 (∃ c_, (v205 : Value) = .slice (some adz_v205) y204.length c_) := ⟨h2_⟩
                         have n3_ : Aside0 (IsS62 w0 w60 g s0_0 t214) := ⟨h3_⟩
                         have n4_ : Aside0 (KeepBut w w60 g none) := ⟨h4_⟩
                         have n5_ : Aside0 (Below w0.heap.size w0 w60) := ⟨h5_⟩
                         clear HO_3
                         clear HI0
                         clear HK
                         clear HB
                         clear h0_ h1_ h2_ h3_ h4_ h5_
                         have HO206 := n0_
                         have HO_3 := n1_
                         have HA_HO206 := n2_
                         have HI0 := n3_
                         have HK := n4_
                         have HB := n5_
                         clear n0_ n1_ n2_ n3_ n4_ n5_
                         have hHeld := trivial
                         obtain ⟨co61, eo61⟩ := HA_HO206.out
                         clear HA_HO206
                         subst eo61
                         refine norm_ (a' := ?_) ?_ ?_
                         rotate_left
                         ·simp only [putAll, Act.put, List.setIfInBounds_toArray, List.set_cons_zero, List.set_cons_succ]
                          rfl
                         refine two_ (i := 8) (j := 9) (Ni := some 54) (Nj := some 55) #[true, true, true, true, true, true, true, true, true, false, true, true, false, false, false, false, false] #[true, true, true, true, true, true, true, true, false, true, true, true, false, false, false, false, false] rfl rfl rfl rfl (two_of HT_.out pL) (by decide) (by decide) (fun K hK => ?_) (fun K hK => ?_)
                         ·skip
                          (have p209 : 0 ≤ (t207 : Int) := of_decide_eq_true pA; have q209 : t207 < (y204.length : Int) := of_decide_eq_true pA; obtain ⟨ad209, e209, hx209_0⟩ := Kd.at_int (Kd.R_reads' HO206.out).2.2 t207 p209 q209; obtain rfl : adz_v205 = ad209 := (by injection e209))
                          refine value_ (w1 := ?_) (v := ?_) (by rfl) rfl ?_ ?_
                          rotate_left 2
                          ·go_simp
                           constructor
                           ·rfl
                           ·rfl
                          clear hx209_0
                          refine hK.out _ _ trivial (fun hHeld => ?_)
                          clear hK K
                          refine norm_ (a' := ?_) ?_ ?_
                          rotate_left
                          ·show Act.put _ (some 54) _ = _
                           exact pP
                          exact norm_ (by first | (simp only [putAll, Act.put, List.setIfInBounds_toArray, List.set_cons_zero, List.set_cons_succ]; done) | (simp only [putAll, Act.put, List.setIfInBounds_toArray, List.set_cons_zero, List.set_cons_succ]; rfl)) (hJ3_4_6_8_11 (.slice (some adz_v205) y204.length co61, adz_v205) _ ⟨(pR HO206), (pR HO_3), ⟨_, rfl⟩, (by repeat (first | (with_reducible first | exact HI0.out | apply IsS62.alloc | apply IsS62.drewN | apply IsS62.drew | apply IsS62.set_1) | exact HI0.out)), pK, (by repeat (first | (with_reducible first | exact HB.out | apply below_alloc | apply pw_below_drewN | apply below_drew1 | refine below_set ?_ (IsS62.ge HI0.out)) | exact HB.out))⟩)
                         ·skip
                          refine Kd.R_lit_step (Kd.int .i64) _ 3 ?hg (N := 55) ?hd (xs := ([(-1), 255, 256] : List Int)) (inner := [.int .i64 (-1), .int .i64 255, .int .i64 256]) (ok := fun _ => True) (okp := fun _ => True) ?hr ?hp (fun _ hk => hk) trivial (Below.refl _ _) (Nat.le_refl _) (by simp) ?_; (case hd => rfl); (case hg => rfl); (case hr => first | (go_simp; done) | (go_simp; rfl)); (case hp => exact (Reps.one (show Kd.M (Kd.int .i64) _ _ _ (-1) [.int .i64 (-1)] from rfl) (Reps.one (show Kd.M (Kd.int .i64) _ _ _ 255 [.int .i64 255] from rfl) (Reps.one (show Kd.M (Kd.int .i64) _ _ _ 256 [.int .i64 256] from rfl) (Reps.none _ _)))))
                          intro v211 w62 ho63 hb hg_ hnew_
                          clear hg_ hnew_
                          (first | rw [← Ny210.out] at ho63 | (simp only [Int.reduceToNat] at ho63; rw [← Ny210.out] at ho63))
                          have n0_ := Aside0.mk (Kd.R_below (pR HO_3) hb)
                          have n1_ := Aside0.mk (Kd.R_elder' (pR HO206) (Kd.R_base ho63) hb)
                          have n2_ := Aside0.mk (Kd.R_lower (Kd.R_new' ho63 (Kd.R_lt (pR HO206))) (keep_size (w := w) (g := g) (row := none) pK))
                          have n3_ := Aside0.mk (IsS62.below (by repeat (first | (with_reducible first | exact HI0.out | apply IsS62.alloc | apply IsS62.drewN | apply IsS62.drew | apply IsS62.set_1) | exact HI0.out)) hb)
                          have n4_ := Aside0.mk (KeepBut.trans pK (KeepBut.of_below hb g none) (.inl rfl))
                          have n5_ := Aside0.mk (below_step (by repeat (first | (with_reducible first | exact HB.out | apply below_alloc | apply pw_below_drewN | apply below_drew1 | refine below_set ?_ (IsS62.ge HI0.out)) | exact HB.out)) hb)
                          clear HO_3
                          clear HO206
                          clear HI0
                          clear HK
                          clear HB
                          have HO_3 := n0_
                          have HO206 := n1_
                          have HO212 := n2_
                          have HI0 := n3_
                          have HK := n4_
                          have HB := n5_
                          clear n0_ n1_ n2_ n3_ n4_ n5_
                          clear hb ho63
                          obtain ⟨Ao64, co64, eo64⟩ := Kd.R_slice HO212.out
                          subst eo64
                          obtain ⟨ado64, fo64, _⟩ := Kd.at_int (Kd.R_reads' HO212.out).2.2 0 (by decide) (by rw [Ny210.out]; simp)
                          cases fo64
                          refine hK.out _ _ trivial (fun hHeld => ?_)
                          clear hK K
                          refine norm_ (a' := ?_) ?_ ?_
                          rotate_left
                          ·show Act.put _ (some 55) _ = _
                           exact pP
                          refine pure_ (i := 12) (N := some 58) (v := ?_) (a' := ?_) #[true, true, true, true, true, true, true, true, false, true, true, true, true, false, false, false, false] rfl rfl (any_of HT_.out pL) (fun _ _ _ h => h) (Or.inl ⟨by rfl, ?_⟩) ?_ ?_
                          rotate_left
                          ·intro w'
                           go_simp
                           with_reducible rfl
                          rotate_left
                          ·exact pP
                          exact norm_ (by first | (simp only [putAll, Act.put, List.setIfInBounds_toArray, List.set_cons_zero, List.set_cons_succ]; done) | (simp only [putAll, Act.put, List.setIfInBounds_toArray, List.set_cons_zero, List.set_cons_succ]; rfl)) (hJ3_4_6_9_11 (.slice (some adz_v205) y204.length co61, adz_v205, .slice (some ado64) y210.length co64, ado64) _ ⟨(by (with_reducible repeat (first | apply Kd.R_alloc | apply Kd.R_drewN | apply Kd.R_drew)); exact Kd.R_mono HO206.out (fun _ hk => hk.2)), (by (with_reducible repeat (first | apply Kd.R_alloc | apply Kd.R_drewN | apply Kd.R_drew)); exact Kd.R_mono HO212.out (fun _ hk => hk.2)), (pR HO_3), ⟨_, rfl⟩, ⟨_, rfl⟩, (by repeat (first | (with_reducible first | exact HI0.out | apply IsS62.alloc | apply IsS62.drewN | apply IsS62.drew | apply IsS62.set_1) | exact HI0.out)), pK, (by repeat (first | (with_reducible first | exact HB.out | apply below_alloc | apply pw_below_drewN | apply below_drew1 | refine below_set ?_ (IsS62.ge HI0.out)) | exact HB.out))⟩)
                       ·skip
                        rintro ⟨v205, adz_v205, v211, adz_v211⟩ w62 ⟨h0_, h1_, h2_, h3_, h4_, h5_, h6_, h7_⟩
                        have n0_ : Aside0 (Kd.R (Kd.int .i64) 3 w62 w.heap.size (fun k_ => some k_ ≠ (v211 : Value).ownBlock) v205 y204) := ⟨h0_⟩
                        have n1_ : Aside0 (Kd.R (Kd.int .i64) 3 w62 w.heap.size (fun k_ => some k_ ≠ (v205 : Value).ownBlock) v211 y210) := ⟨h1_⟩
                        have n2_ : Aside0 (Kd.R k40 40 w62 w.heap.size (fun _ => True) u3 x3_2) := ⟨h2_⟩
                        have n3_ : Aside0 (∃ c_, (v205 : Value) = .slice (some adz_v205) y204.length c_) := ⟨h3_⟩
                        have n4_ : Aside0 (∃ c_, (v211 : Value) = .slice (some adz_v211) y210.length c_) := ⟨h4_⟩
                        have n5_ : Aside0 (IsS62 w0 w62 g s0_0 t208) := ⟨h5_⟩
                        have n6_ : Aside0 (KeepBut w w62 g none) := ⟨h6_⟩
                        have n7_ : Aside0 (Below w0.heap.size w0 w62) := ⟨h7_⟩
                        clear HO_3
                        clear HI0
                        clear HK
                        clear HB
                        clear h0_ h1_ h2_ h3_ h4_ h5_ h6_ h7_
                        have HO206 := n0_
                        have HO212 := n1_
                        have HO_3 := n2_
                        have HA_HO206 := n3_
                        have HA_HO212 := n4_
                        have HI0 := n5_
                        have HK := n6_
                        have HB := n7_
                        clear n0_ n1_ n2_ n3_ n4_ n5_ n6_ n7_
                        have hHeld := trivial
                        obtain ⟨co63, eo63⟩ := HA_HO206.out
                        clear HA_HO206
                        subst eo63
                        obtain ⟨co64, eo64⟩ := HA_HO212.out
                        clear HA_HO212
                        subst eo64
                        refine norm_ (a' := ?_) ?_ ?_
                        rotate_left
                        ·simp only [putAll, Act.put, List.setIfInBounds_toArray, List.set_cons_zero, List.set_cons_succ]
                         rfl
                        refine two_ (i := 8) (j := 11) (Ni := some 54) (Nj := some 57) #[true, true, true, true, true, true, true, true, true, true, true, false, false, false, false, false, false] #[true, true, true, true, true, true, true, true, false, true, true, true, false, false, false, false, false] rfl rfl rfl rfl (two_of HT_.out pL) (by decide) (by decide) (fun K hK => ?_) (fun K hK => ?_)
                        ·skip
                         (have p209 : 0 ≤ (t207 : Int) := of_decide_eq_true pA; have q209 : t207 < (y204.length : Int) := of_decide_eq_true pA; obtain ⟨ad209, e209, hx209_0⟩ := Kd.at_int (Kd.R_reads' HO206.out).2.2 t207 p209 q209; obtain rfl : adz_v205 = ad209 := (by injection e209))
                         refine value_ (w1 := ?_) (v := ?_) (by rfl) rfl ?_ ?_
                         rotate_left 2
                         ·go_simp
                          constructor
                          ·rfl
                          ·rfl
                         clear hx209_0
                         refine hK.out _ _ trivial (fun hHeld => ?_)
                         clear hK K
                         refine norm_ (a' := ?_) ?_ ?_
                         rotate_left
                         ·show Act.put _ (some 54) _ = _
                          exact pP
                         exact norm_ (by first | (simp only [putAll, Act.put, List.setIfInBounds_toArray, List.set_cons_zero, List.set_cons_succ]; done) | (simp only [putAll, Act.put, List.setIfInBounds_toArray, List.set_cons_zero, List.set_cons_succ]; rfl)) (hJ3_4_6_8_9 (.slice (some adz_v205) y204.length co63, adz_v205, .slice (some adz_v211) y210.length co64, adz_v211) _ ⟨(pR HO206), (pR HO212), (pR HO_3), ⟨_, rfl⟩, ⟨_, rfl⟩, (by repeat (first | (with_reducible first | exact HI0.out | apply IsS62.alloc | apply IsS62.drewN | apply IsS62.drew | apply IsS62.set_1) | exact HI0.out)), pK, (by repeat (first | (with_reducible first | exact HB.out | apply below_alloc | apply pw_below_drewN | apply below_drew1 | refine below_set ?_ (IsS62.ge HI0.out)) | exact HB.out))⟩)
                        ·skip
                         refine goes_ Try.func46 pL rfl #[.pointer (some ⟨g, 0, none⟩), .int .i64 3] (by rfl) rfl rfl pM ?_
                         with_reducible refine (spec_l6Rd_pick.calls kj37 g s0_0 t208 3 t213 t214 w0 _ ?side1 ?side2 A47.out).mono ?_
                         (case side1 => repeat (first | (with_reducible first | exact HI0.out | apply IsS62.alloc | apply IsS62.drewN | apply IsS62.drew | apply IsS62.set_1) | exact HI0.out))
                         (case side2 => repeat (first | (with_reducible first | exact HB.out | apply below_alloc | apply pw_below_drewN | apply below_drew1 | refine below_set ?_ (IsS62.ge HI0.out)) | exact HB.out))
                         rintro e w65 ⟨rfl, hi, hb, hk⟩
                         refine ⟨_, rfl, ?_⟩
                         have n0_ := Aside0.mk (Kd.R_mono (Kd.R_keep (IsS62.apart (show IsS62 w0 _ g s0_0 t208 from by repeat (first | (with_reducible first | exact HI0.out | apply IsS62.alloc | apply IsS62.drewN | apply IsS62.drew | apply IsS62.set_1) | exact HI0.out)) (pR HO_3) (by decide)) hk (fun _ h => h.2)) (fun _ h => h.1))
                         have n1_ := Aside0.mk (Kd.R_mono (Kd.R_keep (IsS62.apart (show IsS62 w0 _ g s0_0 t208 from by repeat (first | (with_reducible first | exact HI0.out | apply IsS62.alloc | apply IsS62.drewN | apply IsS62.drew | apply IsS62.set_1) | exact HI0.out)) (pR HO206) (by decide)) hk (fun _ h => h.2)) (fun _ h => h.1))
                         have n2_ := Aside0.mk (Kd.R_mono (Kd.R_keep (IsS62.apart (show IsS62 w0 _ g s0_0 t208 from by repeat (first | (with_reducible first | exact HI0.out | apply IsS62.alloc | apply IsS62.drewN | apply IsS62.drew | apply IsS62.set_1) | exact HI0.out)) (pR HO212) (by decide)) hk (fun _ h => h.2)) (fun _ h => h.1))
                         have n3_ := Aside0.mk (KeepBut.trans pK hk (.inl rfl))
                         have n4_ := Aside0.mk (hb)
                         have n5_ := Aside0.mk (hi)
                         clear HO_3
                         clear HO206
                         clear HO212
                         clear HK
                         clear HB
                         clear HI0
                         have HO_3 := n0_
                         have HO206 := n1_
                         have HO212 := n2_
                         have HK := n3_
                         have HB := n4_
                         have HI0 := n5_
                         clear n0_ n1_ n2_ n3_ n4_ n5_
                         (try clear hb)
                         (try clear hb2)
                         (try clear hk)
                         (try clear hi)
                         refine hK.out _ _ trivial (fun hHeld => ?_)
                         clear hK K
                         refine norm_ (a' := ?_) ?_ ?_
                         rotate_left
                         ·show Act.put _ (some 57) _ = _
                          exact pP
                         refine pure_ (i := 12) (N := some 58) (v := ?_) (a' := ?_) #[true, true, true, true, true, true, true, true, false, true, true, true, true, false, false, false, false] rfl rfl (any_of HT_.out pL) (fun _ _ _ h => h) (Or.inl ⟨by rfl, ?_⟩) ?_ ?_
                         rotate_left
                         ·intro w'
                          go_simp
                          with_reducible rfl
                         rotate_left
                         ·exact pP
                         exact norm_ (by first | (simp only [putAll, Act.put, List.setIfInBounds_toArray, List.set_cons_zero, List.set_cons_succ]; done) | (simp only [putAll, Act.put, List.setIfInBounds_toArray, List.set_cons_zero, List.set_cons_succ]; rfl)) (hJ3_4_6_9_11 (.slice (some adz_v205) y204.length co63, adz_v205, .slice (some adz_v211) y210.length co64, adz_v211) _ ⟨(pR HO206), (pR HO212), (pR HO_3), ⟨_, rfl⟩, ⟨_, rfl⟩, (by repeat (first | (with_reducible first | exact HI0.out | apply IsS62.alloc | apply IsS62.drewN | apply IsS62.drew | apply IsS62.set_1) | exact HI0.out)), pK, (by repeat (first | (with_reducible first | exact HB.out | apply below_alloc | apply pw_below_drewN | apply below_drew1 | refine below_set ?_ (IsS62.ge HI0.out)) | exact HB.out))⟩)
                      ·skip
                       rintro ⟨v205, adz_v205⟩ w59 ⟨h0_, h1_, h2_, h3_, h4_, h5_⟩
                       have n0_ : Aside0 (Kd.R (Kd.int .i64) 3 w59 w.heap.size (fun _ => True) v205 y204) := ⟨h0_⟩
                       have n1_ : Aside0 (Kd.R k40 40 w59 w.heap.size (fun _ => True) u3 x3_2) := ⟨h1_⟩
                       have n2_ : Aside0 (∃ c_, (v205 : Value) = .slice (some adz_v205) y204.length c_) := ⟨h2_⟩
                       have n3_ : Aside0 (IsS62 w0 w59 g s0_0 t208) := ⟨h3_⟩
                       have n4_ : Aside0 (KeepBut w w59 g none) := ⟨h4_⟩
                       have n5_ : Aside0 (Below w0.heap.size w0 w59) := ⟨h5_⟩
                       clear HO_3
                       clear HI0
                       clear HK
                       clear HB
                       clear h0_ h1_ h2_ h3_ h4_ h5_
                       have HO206 := n0_
                       have HO_3 := n1_
                       have HA_HO206 := n2_
                       have HI0 := n3_
                       have HK := n4_
                       have HB := n5_
                       clear n0_ n1_ n2_ n3_ n4_ n5_
                       have hHeld := trivial
                       obtain ⟨co60, eo60⟩ := HA_HO206.out
                       clear HA_HO206
                       subst eo60
                       refine norm_ (a' := ?_) ?_ ?_
                       rotate_left
                       ·simp only [putAll, Act.put, List.setIfInBounds_toArray, List.set_cons_zero, List.set_cons_succ]
                        rfl
                       refine two_ (i := 9) (j := 11) (Ni := some 55) (Nj := some 57) #[true, true, true, true, true, true, true, true, true, true, true, false, false, false, false, false, false] #[true, true, true, true, true, true, true, true, true, false, true, true, false, false, false, false, false] rfl rfl rfl rfl (two_of HT_.out pL) (by decide) (by decide) (fun K hK => ?_) (fun K hK => ?_)
                       ·skip
                        refine Kd.R_lit_step (Kd.int .i64) _ 3 ?hg (N := 55) ?hd (xs := ([(-1), 255, 256] : List Int)) (inner := [.int .i64 (-1), .int .i64 255, .int .i64 256]) (ok := fun _ => True) (okp := fun _ => True) ?hr ?hp (fun _ hk => hk) trivial (Below.refl _ _) (Nat.le_refl _) (by simp) ?_; (case hd => rfl); (case hg => rfl); (case hr => first | (go_simp; done) | (go_simp; rfl)); (case hp => exact (Reps.one (show Kd.M (Kd.int .i64) _ _ _ (-1) [.int .i64 (-1)] from rfl) (Reps.one (show Kd.M (Kd.int .i64) _ _ _ 255 [.int .i64 255] from rfl) (Reps.one (show Kd.M (Kd.int .i64) _ _ _ 256 [.int .i64 256] from rfl) (Reps.none _ _)))))
                        intro v211 w61 ho62 hb hg_ hnew_
                        clear hg_ hnew_
                        (first | rw [← Ny210.out] at ho62 | (simp only [Int.reduceToNat] at ho62; rw [← Ny210.out] at ho62))
                        have n0_ := Aside0.mk (Kd.R_below (pR HO_3) hb)
                        have n1_ := Aside0.mk (Kd.R_elder' (pR HO206) (Kd.R_base ho62) hb)
                        have n2_ := Aside0.mk (Kd.R_lower (Kd.R_new' ho62 (Kd.R_lt (pR HO206))) (keep_size (w := w) (g := g) (row := none) pK))
                        have n3_ := Aside0.mk (IsS62.below (by repeat (first | (with_reducible first | exact HI0.out | apply IsS62.alloc | apply IsS62.drewN | apply IsS62.drew | apply IsS62.set_1) | exact HI0.out)) hb)
                        have n4_ := Aside0.mk (KeepBut.trans pK (KeepBut.of_below hb g none) (.inl rfl))
                        have n5_ := Aside0.mk (below_step (by repeat (first | (with_reducible first | exact HB.out | apply below_alloc | apply pw_below_drewN | apply below_drew1 | refine below_set ?_ (IsS62.ge HI0.out)) | exact HB.out)) hb)
                        clear HO_3
                        clear HO206
                        clear HI0
                        clear HK
                        clear HB
                        have HO_3 := n0_
                        have HO206 := n1_
                        have HO212 := n2_
                        have HI0 := n3_
                        have HK := n4_
                        have HB := n5_
                        clear n0_ n1_ n2_ n3_ n4_ n5_
                        clear hb ho62
                        obtain ⟨Ao63, co63, eo63⟩ := Kd.R_slice HO212.out
                        subst eo63
                        obtain ⟨ado63, fo63, _⟩ := Kd.at_int (Kd.R_reads' HO212.out).2.2 0 (by decide) (by rw [Ny210.out]; simp)
                        cases fo63
                        refine hK.out _ _ trivial (fun hHeld => ?_)
                        clear hK K
                        refine norm_ (a' := ?_) ?_ ?_
                        rotate_left
                        ·show Act.put _ (some 55) _ = _
                         exact pP
                        exact norm_ (by first | (simp only [putAll, Act.put, List.setIfInBounds_toArray, List.set_cons_zero, List.set_cons_succ]; done) | (simp only [putAll, Act.put, List.setIfInBounds_toArray, List.set_cons_zero, List.set_cons_succ]; rfl)) (hJ3_4_6_8_9 (.slice (some adz_v205) y204.length co60, adz_v205, .slice (some ado63) y210.length co63, ado63) _ ⟨(by (with_reducible repeat (first | apply Kd.R_alloc | apply Kd.R_drewN | apply Kd.R_drew)); exact Kd.R_mono HO206.out (fun _ hk => hk.2)), (by (with_reducible repeat (first | apply Kd.R_alloc | apply Kd.R_drewN | apply Kd.R_drew)); exact Kd.R_mono HO212.out (fun _ hk => hk.2)), (pR HO_3), ⟨_, rfl⟩, ⟨_, rfl⟩, (by repeat (first | (with_reducible first | exact HI0.out | apply IsS62.alloc | apply IsS62.drewN | apply IsS62.drew | apply IsS62.set_1) | exact HI0.out)), pK, (by repeat (first | (with_reducible first | exact HB.out | apply below_alloc | apply pw_below_drewN | apply below_drew1 | refine below_set ?_ (IsS62.ge HI0.out)) | exact HB.out))⟩)
                       ·skip
                        refine goes_ Try.func46 pL rfl #[.pointer (some ⟨g, 0, none⟩), .int .i64 3] (by rfl) rfl rfl pM ?_
                        with_reducible refine (spec_l6Rd_pick.calls kj37 g s0_0 t208 3 t213 t214 w0 _ ?side1 ?side2 A47.out).mono ?_
                        (case side1 => repeat (first | (with_reducible first | exact HI0.out | apply IsS62.alloc | apply IsS62.drewN | apply IsS62.drew | apply IsS62.set_1) | exact HI0.out))
                        (case side2 => repeat (first | (with_reducible first | exact HB.out | apply below_alloc | apply pw_below_drewN | apply below_drew1 | refine below_set ?_ (IsS62.ge HI0.out)) | exact HB.out))
                        rintro e w61 ⟨rfl, hi, hb, hk⟩
                        refine ⟨_, rfl, ?_⟩
                        have n0_ := Aside0.mk (Kd.R_mono (Kd.R_keep (IsS62.apart (show IsS62 w0 _ g s0_0 t208 from by repeat (first | (with_reducible first | exact HI0.out | apply IsS62.alloc | apply IsS62.drewN | apply IsS62.drew | apply IsS62.set_1) | exact HI0.out)) (pR HO_3) (by decide)) hk (fun _ h => h.2)) (fun _ h => h.1))
                        have n1_ := Aside0.mk (Kd.R_mono (Kd.R_keep (IsS62.apart (show IsS62 w0 _ g s0_0 t208 from by repeat (first | (with_reducible first | exact HI0.out | apply IsS62.alloc | apply IsS62.drewN | apply IsS62.drew | apply IsS62.set_1) | exact HI0.out)) (pR HO206) (by decide)) hk (fun _ h => h.2)) (fun _ h => h.1))
                        have n2_ := Aside0.mk (KeepBut.trans pK hk (.inl rfl))
                        have n3_ := Aside0.mk (hb)
                        have n4_ := Aside0.mk (hi)
                        clear HO_3
                        clear HO206
                        clear HK
                        clear HB
                        clear HI0
                        have HO_3 := n0_
                        have HO206 := n1_
                        have HK := n2_
                        have HB := n3_
                        have HI0 := n4_
                        clear n0_ n1_ n2_ n3_ n4_
                        (try clear hb)
                        (try clear hb2)
                        (try clear hk)
                        (try clear hi)
                        refine hK.out _ _ trivial (fun hHeld => ?_)
                        clear hK K
                        refine norm_ (a' := ?_) ?_ ?_
                        rotate_left
                        ·show Act.put _ (some 57) _ = _
                         exact pP
                        exact norm_ (by first | (simp only [putAll, Act.put, List.setIfInBounds_toArray, List.set_cons_zero, List.set_cons_succ]; done) | (simp only [putAll, Act.put, List.setIfInBounds_toArray, List.set_cons_zero, List.set_cons_succ]; rfl)) (hJ3_4_6_8_11 (.slice (some adz_v205) y204.length co60, adz_v205) _ ⟨(pR HO206), (pR HO_3), ⟨_, rfl⟩, (by repeat (first | (with_reducible first | exact HI0.out | apply IsS62.alloc | apply IsS62.drewN | apply IsS62.drew | apply IsS62.set_1) | exact HI0.out)), pK, (by repeat (first | (with_reducible first | exact HB.out | apply below_alloc | apply pw_below_drewN | apply below_drew1 | refine below_set ?_ (IsS62.ge HI0.out)) | exact HB.out))⟩)
                     ·skip
                      rintro ⟨v211, adz_v211⟩ w60 ⟨h0_, h1_, h2_, h3_, h4_, h5_⟩
                      have n0_ : Aside0 (Kd.R (Kd.int .i64) 3 w60 w.heap.size (fun _ => True) v211 y210) := ⟨h0_⟩
                      have n1_ : Aside0 (Kd.R k40 40 w60 w.heap.size (fun _ => True) u3 x3_2) := ⟨h1_⟩
                      have n2_ : Aside0 (∃ c_, (v211 : Value) = .slice (some adz_v211) y210.length c_) := ⟨h2_⟩
                      have n3_ : Aside0 (IsS62 w0 w60 g s0_0 t214) := ⟨h3_⟩
                      have n4_ : Aside0 (KeepBut w w60 g none) := ⟨h4_⟩
                      have n5_ : Aside0 (Below w0.heap.size w0 w60) := ⟨h5_⟩
                      clear HO_3
                      clear HI0
                      clear HK
                      clear HB
                      clear h0_ h1_ h2_ h3_ h4_ h5_
                      have HO212 := n0_
                      have HO_3 := n1_
                      have HA_HO212 := n2_
                      have HI0 := n3_
                      have HK := n4_
                      have HB := n5_
                      clear n0_ n1_ n2_ n3_ n4_ n5_
                      have hHeld := trivial
                      obtain ⟨co61, eo61⟩ := HA_HO212.out
                      clear HA_HO212
                      subst eo61
                      refine norm_ (a' := ?_) ?_ ?_
                      rotate_left
                      ·simp only [putAll, Act.put, List.setIfInBounds_toArray, List.set_cons_zero, List.set_cons_succ]
                       rfl
                      refine one_ (i := 4) (N := some 50) #[true, true, true, true, true, true, true, false, false, true, true, true, true, true, false, false, false] rfl rfl (one_of HT_.out pL) (by decide) (fun K hK => ?_)
                      refine Kd.R_lit_step (Kd.int .i64) _ 3 ?hg (N := 50) ?hd (xs := ([0, 4, 5] : List Int)) (inner := [.int .i64 0, .int .i64 4, .int .i64 5]) (ok := fun _ => True) (okp := fun _ => True) ?hr ?hp (fun _ hk => hk) trivial (Below.refl _ _) (Nat.le_refl _) (by simp) ?_; (case hd => rfl); (case hg => rfl); (case hr => first | (go_simp; done) | (go_simp; rfl)); (case hp => exact (Reps.one (show Kd.M (Kd.int .i64) _ _ _ 0 [.int .i64 0] from rfl) (Reps.one (show Kd.M (Kd.int .i64) _ _ _ 4 [.int .i64 4] from rfl) (Reps.one (show Kd.M (Kd.int .i64) _ _ _ 5 [.int .i64 5] from rfl) (Reps.none _ _)))))
                      intro v205 w62 ho63 hb hg_ hnew_
                      clear hg_ hnew_
                      (first | rw [← Ny204.out] at ho63 | (simp only [Int.reduceToNat] at ho63; rw [← Ny204.out] at ho63))
                      have n0_ := Aside0.mk (Kd.R_below (pR HO_3) hb)
                      have n1_ := Aside0.mk (Kd.R_elder' (pR HO212) (Kd.R_base ho63) hb)
                      have n2_ := Aside0.mk (Kd.R_lower (Kd.R_new' ho63 (Kd.R_lt (pR HO212))) (keep_size (w := w) (g := g) (row := none) pK))
                      have n3_ := Aside0.mk (IsS62.below (by repeat (first | (with_reducible first | exact HI0.out | apply IsS62.alloc | apply IsS62.drewN | apply IsS62.drew | apply IsS62.set_1) | exact HI0.out)) hb)
                      have n4_ := Aside0.mk (KeepBut.trans pK (KeepBut.of_below hb g none) (.inl rfl))
                      have n5_ := Aside0.mk (below_step (by repeat (first | (with_reducible first | exact HB.out | apply below_alloc | apply pw_below_drewN | apply below_drew1 | refine below_set ?_ (IsS62.ge HI0.out)) | exact HB.out)) hb)
                      clear HO_3
                      clear HO212
                      clear HI0
                      clear HK
                      clear HB
                      have HO_3 := n0_
                      have HO212 := n1_
                      have HO206 := n2_
                      have HI0 := n3_
                      have HK := n4_
                      have HB := n5_
                      clear n0_ n1_ n2_ n3_ n4_ n5_
                      clear hb ho63
                      obtain ⟨Ao64, co64, eo64⟩ := Kd.R_slice HO206.out
                      subst eo64
                      obtain ⟨ado64, fo64, _⟩ := Kd.at_int (Kd.R_reads' HO206.out).2.2 0 (by decide) (by rw [Ny204.out]; simp)
                      cases fo64
                      refine hK.out _ _ trivial (fun hHeld => ?_)
                      clear hK K
                      refine norm_ (a' := ?_) ?_ ?_
                      rotate_left
                      ·show Act.put _ (some 50) _ = _
                       exact pP
                      refine pure_ (i := 7) (N := some 53) (v := ?_) (a' := ?_) #[true, true, true, true, true, true, true, true, false, true, true, true, true, true, false, false, false] rfl rfl (any_of HT_.out pL) (fun _ _ _ h => h) (Or.inl ⟨by rfl, ?_⟩) ?_ ?_
                      rotate_left
                      ·intro w'
                       go_simp
                       with_reducible rfl
                      rotate_left
                      ·exact pP
                      exact norm_ (by first | (simp only [putAll, Act.put, List.setIfInBounds_toArray, List.set_cons_zero, List.set_cons_succ]; done) | (simp only [putAll, Act.put, List.setIfInBounds_toArray, List.set_cons_zero, List.set_cons_succ]; rfl)) (hJ3_4_6_9_11_13 (.slice (some ado64) y204.length co64, ado64, .slice (some adz_v211) y210.length co61, adz_v211) _ ⟨(by (with_reducible repeat (first | apply Kd.R_alloc | apply Kd.R_drewN | apply Kd.R_drew)); exact Kd.R_mono HO206.out (fun _ hk => hk.2)), (by (with_reducible repeat (first | apply Kd.R_alloc | apply Kd.R_drewN | apply Kd.R_drew)); exact Kd.R_mono HO212.out (fun _ hk => hk.2)), (pR HO_3), ⟨_, rfl⟩, ⟨_, rfl⟩, (by repeat (first | (with_reducible first | exact HI0.out | apply IsS62.alloc | apply IsS62.drewN | apply IsS62.drew | apply IsS62.set_1) | exact HI0.out)), pK, (by repeat (first | (with_reducible first | exact HB.out | apply below_alloc | apply pw_below_drewN | apply below_drew1 | refine below_set ?_ (IsS62.ge HI0.out)) | exact HB.out))⟩)
                    ·skip
                     rintro ⟨v205, adz_v205, v211, adz_v211⟩ w63 ⟨h0_, h1_, h2_, h3_, h4_, h5_, h6_, h7_⟩
                     have n0_ : Aside0 (Kd.R (Kd.int .i64) 3 w63 w.heap.size (fun k_ => some k_ ≠ (v211 : Value).ownBlock) v205 y204) := ⟨h0_⟩
                     have n1_ : Aside0 (Kd.R (Kd.int .i64) 3 w63 w.heap.size (fun k_ => some k_ ≠ (v205 : Value).ownBlock) v211 y210) := ⟨h1_⟩
                     have n2_ : Aside0 (Kd.R k40 40 w63 w.heap.size (fun _ => True) u3 x3_2) := ⟨h2_⟩
                     have n3_ : Aside0 (∃ c_, (v205 : Value) = .slice (some adz_v205) y204.length c_) := ⟨h3_⟩
                     have n4_ : Aside0 (∃ c_, (v211 : Value) = .slice (some adz_v211) y210.length c_) := ⟨h4_⟩
                     have n5_ : Aside0 (IsS62 w0 w63 g s0_0 t214) := ⟨h5_⟩
                     have n6_ : Aside0 (KeepBut w w63 g none) := ⟨h6_⟩
                     have n7_ : Aside0 (Below w0.heap.size w0 w63) := ⟨h7_⟩
                     clear HO_3
                     clear HI0
                     clear HK
                     clear HB
                     clear h0_ h1_ h2_ h3_ h4_ h5_ h6_ h7_
                     have HO206 := n0_
                     have HO212 := n1_
                     have HO_3 := n2_
                     have HA_HO206 := n3_
                     have HA_HO212 := n4_
                     have HI0 := n5_
                     have HK := n6_
                     have HB := n7_
                     clear n0_ n1_ n2_ n3_ n4_ n5_ n6_ n7_
                     have hHeld := trivial
                     obtain ⟨co64, eo64⟩ := HA_HO206.out
                     clear HA_HO206
                     subst eo64
                     obtain ⟨co65, eo65⟩ := HA_HO212.out
                     clear HA_HO212
                     subst eo65
                     refine norm_ (a' := ?_) ?_ ?_
                     rotate_left
                     ·simp only [putAll, Act.put, List.setIfInBounds_toArray, List.set_cons_zero, List.set_cons_succ]
                      rfl
                     refine two_ (i := 8) (j := 13) (Ni := some 54) (Nj := some 59) #[true, true, true, true, true, true, true, true, true, true, true, true, true, false, false, false, false] #[true, true, true, true, true, true, true, true, false, true, true, true, true, true, false, false, false] rfl rfl rfl rfl (two_of HT_.out pL) (by decide) (by decide) (fun K hK => ?_) (fun K hK => ?_)
                     ·skip
                      (have p209 : 0 ≤ (t207 : Int) := of_decide_eq_true pA; have q209 : t207 < (y204.length : Int) := of_decide_eq_true pA; obtain ⟨ad209, e209, hx209_0⟩ := Kd.at_int (Kd.R_reads' HO206.out).2.2 t207 p209 q209; obtain rfl : adz_v205 = ad209 := (by injection e209))
                      refine value_ (w1 := ?_) (v := ?_) (by rfl) rfl ?_ ?_
                      rotate_left 2
                      ·go_simp
                       constructor
                       ·rfl
                       ·rfl
                      clear hx209_0
                      refine hK.out _ _ trivial (fun hHeld => ?_)
                      clear hK K
                      refine norm_ (a' := ?_) ?_ ?_
                      rotate_left
                      ·show Act.put _ (some 54) _ = _
                       exact pP
                      exact norm_ (by first | (simp only [putAll, Act.put, List.setIfInBounds_toArray, List.set_cons_zero, List.set_cons_succ]; done) | (simp only [putAll, Act.put, List.setIfInBounds_toArray, List.set_cons_zero, List.set_cons_succ]; rfl)) (hJ3_4_6_8_9_11 (.slice (some adz_v205) y204.length co64, adz_v205, .slice (some adz_v211) y210.length co65, adz_v211) _ ⟨(pR HO206), (pR HO212), (pR HO_3), ⟨_, rfl⟩, ⟨_, rfl⟩, (by repeat (first | (with_reducible first | exact HI0.out | apply IsS62.alloc | apply IsS62.drewN | apply IsS62.drew | apply IsS62.set_1) | exact HI0.out)), pK, (by repeat (first | (with_reducible first | exact HB.out | apply below_alloc | apply pw_below_drewN | apply below_drew1 | refine below_set ?_ (IsS62.ge HI0.out)) | exact HB.out))⟩)
                     ·skip
                      (have p215 : 0 ≤ (t213 : Int) := of_decide_eq_true pA; have q215 : t213 < (y210.length : Int) := of_decide_eq_true pA; obtain ⟨ad215, e215, hx215_0⟩ := Kd.at_int (Kd.R_reads' HO212.out).2.2 t213 p215 q215; obtain rfl : adz_v211 = ad215 := (by injection e215))
                      refine value_ (w1 := ?_) (v := ?_) (by rfl) rfl ?_ ?_
                      rotate_left 2
                      ·go_simp
                       constructor
                       ·rfl
                       ·rfl
                      clear hx215_0
                      refine hK.out _ _ trivial (fun hHeld => ?_)
                      clear hK K
                      refine norm_ (a' := ?_) ?_ ?_
                      rotate_left
                      ·show Act.put _ (some 59) _ = _
                       exact pP
                      exact norm_ (by first | (simp only [putAll, Act.put, List.setIfInBounds_toArray, List.set_cons_zero, List.set_cons_succ]; done) | (simp only [putAll, Act.put, List.setIfInBounds_toArray, List.set_cons_zero, List.set_cons_succ]; rfl)) (hJ3_4_6_9_11_13 (.slice (some adz_v205) y204.length co64, adz_v205, .slice (some adz_v211) y210.length co65, adz_v211) _ ⟨(pR HO206), (pR HO212), (pR HO_3), ⟨_, rfl⟩, ⟨_, rfl⟩, (by repeat (first | (with_reducible first | exact HI0.out | apply IsS62.alloc | apply IsS62.drewN | apply IsS62.drew | apply IsS62.set_1) | exact HI0.out)), pK, (by repeat (first | (with_reducible first | exact HB.out | apply below_alloc | apply pw_below_drewN | apply below_drew1 | refine below_set ?_ (IsS62.ge HI0.out)) | exact HB.out))⟩)
                   ·skip
                    rintro ⟨v205, adz_v205⟩ w60 ⟨h0_, h1_, h2_, h3_, h4_, h5_⟩
                    have n0_ : Aside0 (Kd.R (Kd.int .i64) 3 w60 w.heap.size (fun _ => True) v205 y204) := ⟨h0_⟩
                    have n1_ : Aside0 (Kd.R k40 40 w60 w.heap.size (fun _ => True) u3 x3_2) := ⟨h1_⟩
                    have n2_ : Aside0 (∃ c_, (v205 : Value) = .slice (some adz_v205) y204.length c_) := ⟨h2_⟩
                    have n3_ : Aside0 (IsS62 w0 w60 g s0_0 t214) := ⟨h3_⟩
                    have n4_ : Aside0 (KeepBut w w60 g none) := ⟨h4_⟩
                    have n5_ : Aside0 (Below w0.heap.size w0 w60) := ⟨h5_⟩
                    clear HO_3
                    clear HI0
                    clear HK
                    clear HB
                    clear h0_ h1_ h2_ h3_ h4_ h5_
                    have HO206 := n0_
                    have HO_3 := n1_
                    have HA_HO206 := n2_
                    have HI0 := n3_
                    have HK := n4_
                    have HB := n5_
                    clear n0_ n1_ n2_ n3_ n4_ n5_
                    have hHeld := trivial
                    obtain ⟨co61, eo61⟩ := HA_HO206.out
                    clear HA_HO206
                    subst eo61
                    refine norm_ (a' := ?_) ?_ ?_
                    rotate_left
                    ·simp only [putAll, Act.put, List.setIfInBounds_toArray, List.set_cons_zero, List.set_cons_succ]
                     rfl
                    refine one_ (i := 9) (N := some 55) #[true, true, true, true, true, true, true, true, true, true, true, true, false, false, false, false, false] rfl rfl (one_of HT_.out pL) (by decide) (fun K hK => ?_)
                    refine Kd.R_lit_step (Kd.int .i64) _ 3 ?hg (N := 55) ?hd (xs := ([(-1), 255, 256] : List Int)) (inner := [.int .i64 (-1), .int .i64 255, .int .i64 256]) (ok := fun _ => True) (okp := fun _ => True) ?hr ?hp (fun _ hk => hk) trivial (Below.refl _ _) (Nat.le_refl _) (by simp) ?_; (case hd => rfl); (case hg => rfl); (case hr => first | (go_simp; done) | (go_simp; rfl)); (case hp => exact (Reps.one (show Kd.M (Kd.int .i64) _ _ _ (-1) [.int .i64 (-1)] from rfl) (Reps.one (show Kd.M (Kd.int .i64) _ _ _ 255 [.int .i64 255] from rfl) (Reps.one (show Kd.M (Kd.int .i64) _ _ _ 256 [.int .i64 256] from rfl) (Reps.none _ _)))))
                    intro v211 w62 ho63 hb hg_ hnew_
                    clear hg_ hnew_
                    (first | rw [← Ny210.out] at ho63 | (simp only [Int.reduceToNat] at ho63; rw [← Ny210.out] at ho63))
                    have n0_ := Aside0.mk (Kd.R_below (pR HO_3) hb)
                    have n1_ := Aside0.mk (Kd.R_elder' (pR HO206) (Kd.R_base ho63) hb)
                    have n2_ := Aside0.mk (Kd.R_lower (Kd.R_new' ho63 (Kd.R_lt (pR HO206))) (keep_size (w := w) (g := g) (row := none) pK))
                    have n3_ := Aside0.mk (IsS62.below (by repeat (first | (with_reducible first | exact HI0.out | apply IsS62.alloc | apply IsS62.drewN | apply IsS62.drew | apply IsS62.set_1) | exact HI0.out)) hb)
                    have n4_ := Aside0.mk (KeepBut.trans pK (KeepBut.of_below hb g none) (.inl rfl))
                    have n5_ := Aside0.mk (below_step (by repeat (first | (with_reducible first | exact HB.out | apply below_alloc | apply pw_below_drewN | apply below_drew1 | refine below_set ?_ (IsS62.ge HI0.out)) | exact HB.out)) hb)
                    clear HO_3
                    clear HO206
                    clear HI0
                    clear HK
                    clear HB
                    have HO_3 := n0_
                    have HO206 := n1_
                    have HO212 := n2_
                    have HI0 := n3_
                    have HK := n4_
                    have HB := n5_
                    clear n0_ n1_ n2_ n3_ n4_ n5_
                    clear hb ho63
                    obtain ⟨Ao64, co64, eo64⟩ := Kd.R_slice HO212.out
                    subst eo64
                    obtain ⟨ado64, fo64, _⟩ := Kd.at_int (Kd.R_reads' HO212.out).2.2 0 (by decide) (by rw [Ny210.out]; simp)
                    cases fo64
                    refine hK.out _ _ trivial (fun hHeld => ?_)
                    clear hK K
                    refine norm_ (a' := ?_) ?_ ?_
                    rotate_left
                    ·show Act.put _ (some 55) _ = _
                     exact pP
                    refine pure_ (i := 12) (N := some 58) (v := ?_) (a' := ?_) #[true, true, true, true, true, true, true, true, true, true, true, true, true, false, false, false, false] rfl rfl (any_of HT_.out pL) (fun _ _ _ h => h) (Or.inl ⟨by rfl, ?_⟩) ?_ ?_
                    rotate_left
                    ·intro w'
                     go_simp
                     with_reducible rfl
                    rotate_left
                    ·exact pP
                    exact norm_ (by first | (simp only [putAll, Act.put, List.setIfInBounds_toArray, List.set_cons_zero, List.set_cons_succ]; done) | (simp only [putAll, Act.put, List.setIfInBounds_toArray, List.set_cons_zero, List.set_cons_succ]; rfl)) (hJ3_4_6_8_9_11 (.slice (some adz_v205) y204.length co61, adz_v205, .slice (some ado64) y210.length co64, ado64) _ ⟨(by (with_reducible repeat (first | apply Kd.R_alloc | apply Kd.R_drewN | apply Kd.R_drew)); exact Kd.R_mono HO206.out (fun _ hk => hk.2)), (by (with_reducible repeat (first | apply Kd.R_alloc | apply Kd.R_drewN | apply Kd.R_drew)); exact Kd.R_mono HO212.out (fun _ hk => hk.2)), (pR HO_3), ⟨_, rfl⟩, ⟨_, rfl⟩, (by repeat (first | (with_reducible first | exact HI0.out | apply IsS62.alloc | apply IsS62.drewN | apply IsS62.drew | apply IsS62.set_1) | exact HI0.out)), pK, (by repeat (first | (with_reducible first | exact HB.out | apply below_alloc | apply pw_below_drewN | apply below_drew1 | refine below_set ?_ (IsS62.ge HI0.out)) | exact HB.out))⟩)
                  ·skip
                   rintro ⟨v205, adz_v205, v211, adz_v211⟩ w62 ⟨h0_, h1_, h2_, h3_, h4_, h5_, h6_, h7_⟩
                   have n0_ : Aside0 (Kd.R (Kd.int .i64) 3 w62 w.heap.size (fun k_ => some k_ ≠ (v211 : Value).ownBlock) v205 y204) := ⟨h0_⟩
                   have n1_ : Aside0 (Kd.R (Kd.int .i64) 3 w62 w.heap.size (fun k_ => some k_ ≠ (v205 : Value).ownBlock) v211 y210) := ⟨h1_⟩
                   have n2_ : Aside0 (Kd.R k40 40 w62 w.heap.size (fun _ => True) u3 x3_2) := ⟨h2_⟩
                   have n3_ : Aside0 (∃ c_, (v205 : Value) = .slice (some adz_v205) y204.length c_) := ⟨h3_⟩
                   have n4_ : Aside0 (∃ c_, (v211 : Value) = .slice (some adz_v211) y210.length c_) := ⟨h4_⟩
                   have n5_ : Aside0 (IsS62 w0 w62 g s0_0 t208) := ⟨h5_⟩
                   have n6_ : Aside0 (KeepBut w w62 g none) := ⟨h6_⟩
                   have n7_ : Aside0 (Below w0.heap.size w0 w62) := ⟨h7_⟩
                   clear HO_3
                   clear HI0
                   clear HK
                   clear HB
                   clear h0_ h1_ h2_ h3_ h4_ h5_ h6_ h7_
                   have HO206 := n0_
                   have HO212 := n1_
                   have HO_3 := n2_
                   have HA_HO206 := n3_
                   have HA_HO212 := n4_
                   have HI0 := n5_
                   have HK := n6_
                   have HB := n7_
                   clear n0_ n1_ n2_ n3_ n4_ n5_ n6_ n7_
                   have hHeld := trivial
                   obtain ⟨co63, eo63⟩ := HA_HO206.out
                   clear HA_HO206
                   subst eo63
                   obtain ⟨co64, eo64⟩ := HA_HO212.out
                   clear HA_HO212
                   subst eo64
                   refine norm_ (a' := ?_) ?_ ?_
                   rotate_left
                   ·simp only [putAll, Act.put, List.setIfInBounds_toArray, List.set_cons_zero, List.set_cons_succ]
                    rfl
                   refine one_ (i := 11) (N := some 57) #[true, true, true, true, true, true, true, true, true, true, true, true, false, false, false, false, false] rfl rfl (one_of HT_.out pL) (by decide) (fun K hK => ?_)
                   refine goes_ Try.func46 pL rfl #[.pointer (some ⟨g, 0, none⟩), .int .i64 3] (by rfl) rfl rfl pM ?_
                   with_reducible refine (spec_l6Rd_pick.calls kj37 g s0_0 t208 3 t213 t214 w0 _ ?side1 ?side2 A47.out).mono ?_
                   (case side1 => repeat (first | (with_reducible first | exact HI0.out | apply IsS62.alloc | apply IsS62.drewN | apply IsS62.drew | apply IsS62.set_1) | exact HI0.out))
                   (case side2 => repeat (first | (with_reducible first | exact HB.out | apply below_alloc | apply pw_below_drewN | apply below_drew1 | refine below_set ?_ (IsS62.ge HI0.out)) | exact HB.out))
                   rintro e w65 ⟨rfl, hi, hb, hk⟩
                   refine ⟨_, rfl, ?_⟩
                   have n0_ := Aside0.mk (Kd.R_mono (Kd.R_keep (IsS62.apart (show IsS62 w0 _ g s0_0 t208 from by repeat (first | (with_reducible first | exact HI0.out | apply IsS62.alloc | apply IsS62.drewN | apply IsS62.drew | apply IsS62.set_1) | exact HI0.out)) (pR HO_3) (by decide)) hk (fun _ h => h.2)) (fun _ h => h.1))
                   have n1_ := Aside0.mk (Kd.R_mono (Kd.R_keep (IsS62.apart (show IsS62 w0 _ g s0_0 t208 from by repeat (first | (with_reducible first | exact HI0.out | apply IsS62.alloc | apply IsS62.drewN | apply IsS62.drew | apply IsS62.set_1) | exact HI0.out)) (pR HO206) (by decide)) hk (fun _ h => h.2)) (fun _ h => h.1))
                   have n2_ := Aside0.mk (Kd.R_mono (Kd.R_keep (IsS62.apart (show IsS62 w0 _ g s0_0 t208 from by repeat (first | (with_reducible first | exact HI0.out | apply IsS62.alloc | apply IsS62.drewN | apply IsS62.drew | apply IsS62.set_1) | exact HI0.out)) (pR HO212) (by decide)) hk (fun _ h => h.2)) (fun _ h => h.1))
                   have n3_ := Aside0.mk (KeepBut.trans pK hk (.inl rfl))
                   have n4_ := Aside0.mk (hb)
                   have n5_ := Aside0.mk (hi)
                   clear HO_3
                   clear HO206
                   clear HO212
                   clear HK
                   clear HB
                   clear HI0
                   have HO_3 := n0_
                   have HO206 := n1_
                   have HO212 := n2_
                   have HK := n3_
                   have HB := n4_
                   have HI0 := n5_
                   clear n0_ n1_ n2_ n3_ n4_ n5_
                   (try clear hb)
                   (try clear hb2)
                   (try clear hk)
                   (try clear hi)
                   refine hK.out _ _ trivial (fun hHeld => ?_)
                   clear hK K
                   refine norm_ (a' := ?_) ?_ ?_
                   rotate_left
                   ·show Act.put _ (some 57) _ = _
                    exact pP
                   refine pure_ (i := 12) (N := some 58) (v := ?_) (a' := ?_) #[true, true, true, true, true, true, true, true, true, true, true, true, true, false, false, false, false] rfl rfl (any_of HT_.out pL) (fun _ _ _ h => h) (Or.inl ⟨by rfl, ?_⟩) ?_ ?_
                   rotate_left
                   ·intro w'
                    go_simp
                    with_reducible rfl
                   rotate_left
                   ·exact pP
                   exact norm_ (by first | (simp only [putAll, Act.put, List.setIfInBounds_toArray, List.set_cons_zero, List.set_cons_succ]; done) | (simp only [putAll, Act.put, List.setIfInBounds_toArray, List.set_cons_zero, List.set_cons_succ]; rfl)) (hJ3_4_6_8_9_11 (.slice (some adz_v205) y204.length co63, adz_v205, .slice (some adz_v211) y210.length co64, adz_v211) _ ⟨(pR HO206), (pR HO212), (pR HO_3), ⟨_, rfl⟩, ⟨_, rfl⟩, (by repeat (first | (with_reducible first | exact HI0.out | apply IsS62.alloc | apply IsS62.drewN | apply IsS62.drew | apply IsS62.set_1) | exact HI0.out)), pK, (by repeat (first | (with_reducible first | exact HB.out | apply below_alloc | apply pw_below_drewN | apply below_drew1 | refine below_set ?_ (IsS62.ge HI0.out)) | exact HB.out))⟩)
                 ·skip
                  rintro ⟨v205, adz_v205, v211, adz_v211⟩ w63 ⟨h0_, h1_, h2_, h3_, h4_, h5_, h6_, h7_⟩
                  have n0_ : Aside0 (Kd.R (Kd.int .i64) 3 w63 w.heap.size (fun k_ => some k_ ≠ (v211 : Value).ownBlock) v205 y204) := ⟨h0_⟩
                  have n1_ : Aside0 (Kd.R (Kd.int .i64) 3 w63 w.heap.size (fun k_ => some k_ ≠ (v205 : Value).ownBlock) v211 y210) := ⟨h1_⟩
                  have n2_ : Aside0 (Kd.R k40 40 w63 w.heap.size (fun _ => True) u3 x3_2) := ⟨h2_⟩
                  have n3_ : Aside0 (∃ c_, (v205 : Value) = .slice (some adz_v205) y204.length c_) := ⟨h3_⟩
                  have n4_ : Aside0 (∃ c_, (v211 : Value) = .slice (some adz_v211) y210.length c_) := ⟨h4_⟩
                  have n5_ : Aside0 (IsS62 w0 w63 g s0_0 t214) := ⟨h5_⟩
                  have n6_ : Aside0 (KeepBut w w63 g none) := ⟨h6_⟩
                  have n7_ : Aside0 (Below w0.heap.size w0 w63) := ⟨h7_⟩
                  clear HO_3
                  clear HI0
                  clear HK
                  clear HB
                  clear h0_ h1_ h2_ h3_ h4_ h5_ h6_ h7_
                  have HO206 := n0_
                  have HO212 := n1_
                  have HO_3 := n2_
                  have HA_HO206 := n3_
                  have HA_HO212 := n4_
                  have HI0 := n5_
                  have HK := n6_
                  have HB := n7_
                  clear n0_ n1_ n2_ n3_ n4_ n5_ n6_ n7_
                  have hHeld := trivial
                  obtain ⟨co64, eo64⟩ := HA_HO206.out
                  clear HA_HO206
                  subst eo64
                  obtain ⟨co65, eo65⟩ := HA_HO212.out
                  clear HA_HO212
                  subst eo65
                  refine norm_ (a' := ?_) ?_ ?_
                  rotate_left
                  ·simp only [putAll, Act.put, List.setIfInBounds_toArray, List.set_cons_zero, List.set_cons_succ]
                   rfl
                  refine one_ (i := 8) (N := some 54) #[true, true, true, true, true, true, true, true, true, true, true, true, true, true, false, false, false] rfl rfl (one_of HT_.out pL) (by decide) (fun K hK => ?_)
                  (have p209 : 0 ≤ (t207 : Int) := of_decide_eq_true pA; have q209 : t207 < (y204.length : Int) := of_decide_eq_true pA; obtain ⟨ad209, e209, hx209_0⟩ := Kd.at_int (Kd.R_reads' HO206.out).2.2 t207 p209 q209; obtain rfl : adz_v205 = ad209 := (by injection e209))
                  refine value_ (w1 := ?_) (v := ?_) (by rfl) rfl ?_ ?_
                  rotate_left 2
                  ·go_simp
                   constructor
                   ·rfl
                   ·rfl
                  clear hx209_0
                  refine hK.out _ _ trivial (fun hHeld => ?_)
                  clear hK K
                  refine norm_ (a' := ?_) ?_ ?_
                  rotate_left
                  ·show Act.put _ (some 54) _ = _
                   exact pP
                  exact norm_ (by first | (simp only [putAll, Act.put, List.setIfInBounds_toArray, List.set_cons_zero, List.set_cons_succ]; done) | (simp only [putAll, Act.put, List.setIfInBounds_toArray, List.set_cons_zero, List.set_cons_succ]; rfl)) (hJ3_4_6_8_9_11_13 (.slice (some adz_v205) y204.length co64, adz_v205, .slice (some adz_v211) y210.length co65, adz_v211) _ ⟨(pR HO206), (pR HO212), (pR HO_3), ⟨_, rfl⟩, ⟨_, rfl⟩, (by repeat (first | (with_reducible first | exact HI0.out | apply IsS62.alloc | apply IsS62.drewN | apply IsS62.drew | apply IsS62.set_1) | exact HI0.out)), pK, (by repeat (first | (with_reducible first | exact HB.out | apply below_alloc | apply pw_below_drewN | apply below_drew1 | refine below_set ?_ (IsS62.ge HI0.out)) | exact HB.out))⟩)
                ·skip
                 rintro ⟨v205, adz_v205, v211, adz_v211⟩ w63 ⟨h0_, h1_, h2_, h3_, h4_, h5_, h6_, h7_⟩
                 have n0_ : Aside0 (Kd.R (Kd.int .i64) 3 w63 w.heap.size (fun k_ => some k_ ≠ (v211 : Value).ownBlock) v205 y204) := ⟨h0_⟩
                 have n1_ : Aside0 (Kd.R (Kd.int .i64) 3 w63 w.heap.size (fun k_ => some k_ ≠ (v205 : Value).ownBlock) v211 y210) := ⟨h1_⟩
                 have n2_ : Aside0 (Kd.R k40 40 w63 w.heap.size (fun _ => True) u3 x3_2) := ⟨h2_⟩
                 have n3_ : Aside0 (∃ c_, (v205 : Value) = .slice (some adz_v205) y204.length c_) := ⟨h3_⟩
                 have n4_ : Aside0 (∃ c_, (v211 : Value) = .slice (some adz_v211) y210.length c_) := ⟨h4_⟩
                 have n5_ : Aside0 (IsS62 w0 w63 g s0_0 t214) := ⟨h5_⟩
                 have n6_ : Aside0 (KeepBut w w63 g none) := ⟨h6_⟩
                 have n7_ : Aside0 (Below w0.heap.size w0 w63) := ⟨h7_⟩
                 clear HO_3
                 clear HI0
                 clear HK
                 clear HB
                 clear h0_ h1_ h2_ h3_ h4_ h5_ h6_ h7_
                 have HO206 := n0_
                 have HO212 := n1_
                 have HO_3 := n2_
                 have HA_HO206 := n3_
                 have HA_HO212 := n4_
                 have HI0 := n5_
                 have HK := n6_
                 have HB := n7_
                 clear n0_ n1_ n2_ n3_ n4_ n5_ n6_ n7_
                 have hHeld := trivial
                 obtain ⟨co64, eo64⟩ := HA_HO206.out
                 clear HA_HO206
                 subst eo64
                 obtain ⟨co65, eo65⟩ := HA_HO212.out
                 clear HA_HO212
                 subst eo65
                 refine norm_ (a' := ?_) ?_ ?_
                 rotate_left
                 ·simp only [putAll, Act.put, List.setIfInBounds_toArray, List.set_cons_zero, List.set_cons_succ]
                  rfl
                 refine one_ (i := 13) (N := some 59) #[true, true, true, true, true, true, true, true, true, true, true, true, true, true, false, false, false] rfl rfl (one_of HT_.out pL) (by decide) (fun K hK => ?_)
                 (have p215 : 0 ≤ (t213 : Int) := of_decide_eq_true pA; have q215 : t213 < (y210.length : Int) := of_decide_eq_true pA; obtain ⟨ad215, e215, hx215_0⟩ := Kd.at_int (Kd.R_reads' HO212.out).2.2 t213 p215 q215; obtain rfl : adz_v211 = ad215 := (by injection e215))
                 refine value_ (w1 := ?_) (v := ?_) (by rfl) rfl ?_ ?_
                 rotate_left 2
                 ·go_simp
                  constructor
                  ·rfl
                  ·rfl
                 clear hx215_0
                 refine hK.out _ _ trivial (fun hHeld => ?_)
                 clear hK K
                 refine norm_ (a' := ?_) ?_ ?_
                 rotate_left
                 ·show Act.put _ (some 59) _ = _
                  exact pP
                 exact norm_ (by first | (simp only [putAll, Act.put, List.setIfInBounds_toArray, List.set_cons_zero, List.set_cons_succ]; done) | (simp only [putAll, Act.put, List.setIfInBounds_toArray, List.set_cons_zero, List.set_cons_succ]; rfl)) (hJ3_4_6_8_9_11_13 (.slice (some adz_v205) y204.length co64, adz_v205, .slice (some adz_v211) y210.length co65, adz_v211) _ ⟨(pR HO206), (pR HO212), (pR HO_3), ⟨_, rfl⟩, ⟨_, rfl⟩, (by repeat (first | (with_reducible first | exact HI0.out | apply IsS62.alloc | apply IsS62.drewN | apply IsS62.drew | apply IsS62.set_1) | exact HI0.out)), pK, (by repeat (first | (with_reducible first | exact HB.out | apply below_alloc | apply pw_below_drewN | apply below_drew1 | refine below_set ?_ (IsS62.ge HI0.out)) | exact HB.out))⟩)
               rintro ⟨v205, adz_v205, v211, adz_v211⟩ w63 ⟨h0_, h1_, h2_, h3_, h4_, h5_, h6_, h7_⟩
               have n0_ : Aside0 (Kd.R (Kd.int .i64) 3 w63 w.heap.size (fun k_ => some k_ ≠ (v211 : Value).ownBlock) v205 y204) := ⟨h0_⟩
               have n1_ : Aside0 (Kd.R (Kd.int .i64) 3 w63 w.heap.size (fun k_ => some k_ ≠ (v205 : Value).ownBlock) v211 y210) := ⟨h1_⟩
               have n2_ : Aside0 (Kd.R k40 40 w63 w.heap.size (fun _ => True) u3 x3_2) := ⟨h2_⟩
               have n3_ : Aside0 (∃ c_, (v205 : Value) = .slice (some adz_v205) y204.length c_) := ⟨h3_⟩
               have n4_ : Aside0 (∃ c_, (v211 : Value) = .slice (some adz_v211) y210.length c_) := ⟨h4_⟩
               have n5_ : Aside0 (IsS62 w0 w63 g s0_0 t214) := ⟨h5_⟩
               have n6_ : Aside0 (KeepBut w w63 g none) := ⟨h6_⟩
               have n7_ : Aside0 (Below w0.heap.size w0 w63) := ⟨h7_⟩
               clear HO_3
               clear HI0
               clear HK
               clear HB
               clear h0_ h1_ h2_ h3_ h4_ h5_ h6_ h7_
               have HO206 := n0_
               have HO212 := n1_
               have HO_3 := n2_
               have HA_HO206 := n3_
               have HA_HO212 := n4_
               have HI0 := n5_
               have HK := n6_
               have HB := n7_
               clear n0_ n1_ n2_ n3_ n4_ n5_ n6_ n7_
               have hHeld := trivial
               obtain ⟨co64, eo64⟩ := HA_HO206.out
               clear HA_HO206
               subst eo64
               obtain ⟨co65, eo65⟩ := HA_HO212.out
               clear HA_HO212
               subst eo65
               have p52 : 0 ≤ (t202 : Int) := of_decide_eq_true pA
               have q52 : (t202 : Int) < ((x3_2.length : Int) : Int) := of_decide_eq_true pA
               obtain ⟨go52, co52, eo52, gb52, gl52, cl52, HG52⟩ := Kd.R_form HO_3.out (by omega)
               (first | cases eo52 | (injection eo52 with ea_ en_ ec_; (first | subst ea_ | (injection ea_ with ea_; subst ea_)); subst ec_; clear en_))
               have GB52 := Aside0.mk gb52
               have GG52 := Aside0.mk HG52
               clear gb52 gl52 HG52
               obtain ⟨ce52, hcl52, hM52, hcc52, hfr52⟩ := Kd.R_elem HO_3.out z40 (t202 : Int) p52 q52
               obtain rfl := k40_openM hM52
               have hx52_0 : World.cell? _ ⟨go52, (t202 : Int).toNat * 3, none⟩ = some (.int .i64 ((rd_T40 x3_2 t202).f0)) := hcc52 0 _ rfl
               have hx52_1 : World.cell? _ ⟨go52, (t202 : Int).toNat * 3 + 1, none⟩ = some (.int .i64 ((rd_T40 x3_2 t202).f1)) := hcc52 1 _ rfl
               have hx52_2 : World.cell? _ ⟨go52, (t202 : Int).toNat * 3 + 2, none⟩ = some (.bool ((rd_T40 x3_2 t202).f2)) := hcc52 2 _ rfl
               have hf52_0 : World.frozen? _ ⟨go52, (t202 : Int).toNat * 3, none⟩ = false := hfr52 0
               have hf52_1 : World.frozen? _ ⟨go52, (t202 : Int).toNat * 3 + 1, none⟩ = false := hfr52 1
               have hf52_2 : World.frozen? _ ⟨go52, (t202 : Int).toNat * 3 + 2, none⟩ = false := hfr52 2
               clear hcl52 hcc52 hfr52 hM52
               replace p52 := eq_true p52
               replace q52 := eq_true q52
               have HN0_go52 := Aside0.mk (show g ≠ go52 from by have h_ := IsS62.own_ne HI0.out HO_3.out (by decide); intro e_; exact h_ (by rw [e_]; rfl))
               obtain ⟨ce66, hcl66, hM66, hcc66, hfr66⟩ := Kd.R_elem HO_3.out z40 (t202 : Int) (of_decide_eq_true pA) (by have h_ : (t202 : Int) < ((x3_2.length : Int) : Int) := of_decide_eq_true pA; first | exact h_ | (have e_ := (Kd.R_reads' HO_3.out).1; omega) | simpa using h_)
               obtain rfl := k40_openM hM66
               have HP66 := (Kd.R_seg HO_3.out (t202 : Int) (of_decide_eq_true pA) (by have h_ : (t202 : Int) < ((x3_2.length : Int) : Int) := of_decide_eq_true pA; first | exact h_ | (have e_ := (Kd.R_reads' HO_3.out).1; omega) | simpa using h_) (seg := [.int .i64 (rd y204 t207), .int .i64 (rd y210 t213), .bool false]) (j := 0) hcl66 hcc66 (show 3 ≤ 3 from by decide) (x' := (⟨rd y204 t207, rd y210 t213, false⟩ : S40)) (k40_mkM _ _ _ (⟨rd y204 t207, rd y210 t213, false⟩ : S40) ) (fun _ hk => hk)).1
               rw [← Ny216.out] at HP66
               have HQ66 := Aside0.mk HP66
               clear hcl66 hcc66 hfr66 hM66 HP66
               refine norm_ (a' := ?_) ?_ ?_
               rotate_left
               ·simp only [putAll, Act.put, List.setIfInBounds_toArray, List.set_cons_zero, List.set_cons_succ]
                rfl
               refine pure_ (i := 14) (N := some 60) (v := ?_) (a' := ?_) #[true, true, true, true, true, true, true, true, true, true, true, true, true, true, true, false, false] rfl rfl (any_of HT_.out pL) (fun _ _ _ h => h) (Or.inl ⟨by rfl, ?_⟩) ?_ ?_
               rotate_left
               ·intro w'
                go_simp
                with_reducible rfl
               rotate_left
               ·exact pP
               refine pure_ (i := 15) (N := some 61) (v := ?_) (a' := ?_) #[true, true, true, true, true, true, true, true, true, true, true, true, true, true, true, true, false] rfl rfl (any_of HT_.out pL) (fun _ _ _ h => h) (Or.inl ⟨by rfl, ?_⟩) ?_ ?_
               rotate_left
               ·intro w'
                go_simp
                with_reducible rfl
               rotate_left
               ·exact pP
               refine last_ (i := 16) (N := none) #[true, true, true, true, true, true, true, true, true, true, true, true, true, true, true, true, true] rfl rfl (one_of HT_.out pL) (by decide) (fun K hK => ?_)
               refine skip_ (w1 := ?_) (by rfl) rfl ?_ ?_
               rotate_left
               ·go_simp
                rfl
               refine hK.out _ _ ?_
               clear hK K
               refine done_ (done_of HT_.out pL) ?_
               try go_wp2
               go_ret
               exact ⟨_, pE, pR HQ66, by repeat (first | (with_reducible first | exact HI0.out | apply IsS62.alloc | apply IsS62.drewN | apply IsS62.drew | apply IsS62.set_1 | refine IsS62.far ?_ HN0_go52.out _ | refine IsS62.far ?_ HN0_go52.out _ | refine IsS62.far ?_ HN0_go52.out _) | exact HI0.out), by repeat (first | (with_reducible first | exact HB.out | apply below_alloc | apply pw_below_drewN | apply below_drew1 | refine below_set ?_ (Nat.le_trans HL.out GB52.out) | refine below_set ?_ (Nat.le_trans HL.out GB52.out) | refine below_set ?_ (Nat.le_trans HL.out GB52.out) | refine below_set ?_ (IsS62.ge HI0.out)) | exact HB.out), by repeat (first | (with_reducible first | exact HK.out | apply KeepBut.set_ | apply keep_drewN | apply keep_drew | apply keep_alloc | refine keep_far ?_ GB52.out _ | refine keep_far ?_ GB52.out _ | refine keep_far ?_ GB52.out _) | exact HK.out)⟩
              ·rw [if_neg c51] at H
               exact absurd H (by simp)
             ·rw [if_neg c50] at H
              exact absurd H (by simp)
            ·rw [if_neg c49] at H
             exact absurd H (by simp)
           ·rw [if_neg c48] at H
            exact absurd H (by simp)
          ·rw [if_neg c46] at H
           exact absurd H (by simp)
         ·rw [if_neg c45] at H
          exact absurd H (by simp)
        ·replace c42 := Bool.eq_false_iff.mpr c42
         subst c42
         have H1 : (some (x3_2, x1001_37)) = some (r1, r2) := by rw [if_neg (show ¬ (false = true) by decide)] at H; exact H
         clear H
         have H := H1
         clear H1
         simp only [Option.some.injEq, Prod.mk.injEq] at H
         obtain ⟨rfl, rfl⟩ := H
         go_wp2
         go_ret
         exact ⟨_, pE, pR HO_3, by repeat (first | (with_reducible first | exact HI0.out | apply IsS62.alloc | apply IsS62.drewN | apply IsS62.drew | apply IsS62.set_1) | exact HI0.out), by repeat (first | (with_reducible first | exact HB.out | apply below_alloc | apply pw_below_drewN | apply below_drew1 | refine below_set ?_ (IsS62.ge HI0.out)) | exact HB.out), pK⟩

end Go.Proofs.Ytglpjchpgjaanaa.Q
