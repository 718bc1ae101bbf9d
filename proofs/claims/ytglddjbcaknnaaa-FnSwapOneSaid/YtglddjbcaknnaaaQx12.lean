-- Written by the kit's print.py for all laws of the seat at once (one namespace), by a program of this session.
import Derived.Test.YtglddjbcaknnaaaQx0
import Derived.Test.YtglddjbcaknnaaaQx9
namespace Go.Proofs.Ytglddjbcaknnaaa.Q
open Go.RowKit Go.Proofs.YtglddjbcaknnaaaW.PrintWords Go.Proofs.YtglddjbcaknnaaaW.PrintLast Go.Proofs.YtglddjbcaknnaaaW.PrintMore
attribute [local go_sem] max2_int min2_int max_two min_two max_three min_three max_four min_four   -- for this text's walks alone
set_option linter.unusedVariables false
set_option linter.unusedSimpArgs false

/-! ### spec_l91Rules: function 51 -/
mutual
def spec_l91Rules.l0 : Nat → List (S62) → List (S41) → Int → Int → List Int → Int → Option ((List (S41)) × Int)
 | 0, _, _, _, _, _, _ => none
 | k + 1, x1, x5, x6, x7, x1000, x1001 => if x7 < x6 then (spec_l91Rules.j1 k x1 x5 x6 x7 (decide ((x1.length : Int) > 1)) x1000 x1001) else (spec_l91Rules.j1 k x1 x5 x6 x7 false x1000 x1001)
def spec_l91Rules.j1 : Nat → List (S62) → List (S41) → Int → Int → Bool → List Int → Int → Option ((List (S41)) × Int)
 | 0, _, _, _, _, _, _, _ => none
 | k + 1, x1, x5, x6, x7, x20, x1000, x1001 => if x20 = true then ((spec_l6Rd_pick.f k x1000 x1001 (x1.length : Int)).bind fun bt297 => ((spec_l6Rd_pick.f k x1000 bt297.2 (wrap64 ((x1.length : Int) - 1))).bind fun bt299 => (if (x1.length : Int) = 0 then (none) else (if 0 ≤ bt297.1 then (if bt297.1 < (x1.length : Int) then (if 0 ≤ (Int.tmod (wrap64 ((wrap64 (bt297.1 + 1)) + bt299.1)) (x1.length : Int)) then (if (Int.tmod (wrap64 ((wrap64 (bt297.1 + 1)) + bt299.1)) (x1.length : Int)) < (x1.length : Int) then ((spec_l6Rd_pick.f k x1000 bt299.2 9).bind fun bt303 => ((spec_l6Rd_pick.f k x1000 bt303.2 9).bind fun bt305 => (if x5.length < 4398046511104 then (spec_l91Rules.l0 k x1 (x5 ++ [(⟨(rd_T62 x1 bt297.1).f0, (rd_T62 x1 (Int.tmod (wrap64 ((wrap64 (bt297.1 + 1)) + bt299.1)) (x1.length : Int))).f0, wrap64 (1 + bt303.1), wrap64 (1 + bt305.1)⟩ : S41)]) x6 (wrap64 (x7 + 1)) x1000 bt305.2) else (none)))) else (none)) else (none)) else (none)) else (none))))) else (if (x5.length : Int) > 0 then ((spec_l6Rd_pick.f k x1000 x1001 24).bind fun bt310 => (if bt310.1 = 0 then ((spec_l6Rd_pick.f k x1000 bt310.2 2).bind fun bt312 => (if 0 < (x5.length : Int) then (some ((x5.set (0 : Int).toNat (⟨(rd_T41 x5 0).f0, (rd_T41 x5 0).f1, wrap64 (bt312.1 * 10), (rd_T41 x5 0).f3⟩ : S41)), bt312.2)) else (none))) else (some (x5, bt310.2)))) else (some (x5, x1001)))
end
def spec_l91Rules.f (k : Nat) (s0_0 : List Int) (s0_1 : Int) (l1 : List (S62)) : Option ((List (S41)) × Int) := (spec_l6Rd_pick.f k s0_0 s0_1 6).bind fun bt295 => (spec_l91Rules.l0 k l1 (([] : List (S41))) bt295.1 0 s0_0 bt295.2)
theorem spec_l91Rules.mono_l : ∀ k, (∀ y0 y1 y2 y3 y4 y5, LeO (spec_l91Rules.l0 k y0 y1 y2 y3 y4 y5) (spec_l91Rules.l0 (k + 1) y0 y1 y2 y3 y4 y5)) ∧ (∀ y0 y1 y2 y3 y4 y5 y6, LeO (spec_l91Rules.j1 k y0 y1 y2 y3 y4 y5 y6) (spec_l91Rules.j1 (k + 1) y0 y1 y2 y3 y4 y5 y6))
 | 0 => ⟨fun _ _ _ _ _ _ r h => by simp [spec_l91Rules.l0] at h, fun _ _ _ _ _ _ _ r h => by simp [spec_l91Rules.j1] at h⟩
 | k + 1 => by
  obtain ⟨ih0, ih1⟩ := spec_l91Rules.mono_l k
  refine ⟨?_, ?_⟩
  ·intro y0 y1 y2 y3 y4 y5
   unfold spec_l91Rules.l0
   repeat' first
   | (with_reducible exact ih0 _ _ _ _ _ _)
   | (with_reducible exact ih1 _ _ _ _ _ _ _)
   | (with_reducible exact spec_l6Rd_pick.mono _ _ _ _)
   | (with_reducible exact LeO.refl _)
   | (with_reducible exact LeO.none _)
   | (with_reducible refine LeO.ite ?_ ?_)
   | (with_reducible refine LeO.bind ?_ (fun _ => ?_))
   | exact ih0 _ _ _ _ _ _
   | exact ih1 _ _ _ _ _ _ _
   | exact spec_l6Rd_pick.mono _ _ _ _
   | exact LeO.none _
   | refine LeO.ite ?_ ?_
   | refine LeO.bind ?_ (fun _ => ?_)
  ·intro y0 y1 y2 y3 y4 y5 y6
   unfold spec_l91Rules.j1
   repeat' first
   | (with_reducible exact ih0 _ _ _ _ _ _)
   | (with_reducible exact ih1 _ _ _ _ _ _ _)
   | (with_reducible exact spec_l6Rd_pick.mono _ _ _ _)
   | (with_reducible exact LeO.refl _)
   | (with_reducible exact LeO.none _)
   | (with_reducible refine LeO.ite ?_ ?_)
   | (with_reducible refine LeO.bind ?_ (fun _ => ?_))
   | exact ih0 _ _ _ _ _ _
   | exact ih1 _ _ _ _ _ _ _
   | exact spec_l6Rd_pick.mono _ _ _ _
   | exact LeO.none _
   | refine LeO.ite ?_ ?_
   | refine LeO.bind ?_ (fun _ => ?_)
theorem spec_l91Rules.mono : ∀ a0 a1 a2 k, LeO (spec_l91Rules.f k a0 a1 a2) (spec_l91Rules.f (k + 1) a0 a1 a2) := by
 intro a0 a1 a2 k
 obtain ⟨ih0, ih1⟩ := spec_l91Rules.mono_l k
 unfold spec_l91Rules.f
 repeat' first
   | (with_reducible exact ih0 _ _ _ _ _ _)
   | (with_reducible exact ih1 _ _ _ _ _ _ _)
   | (with_reducible exact spec_l6Rd_pick.mono _ _ _ _)
   | (with_reducible exact LeO.refl _)
   | (with_reducible exact LeO.none _)
   | (with_reducible refine LeO.ite ?_ ?_)
   | (with_reducible refine LeO.bind ?_ (fun _ => ?_))
   | exact ih0 _ _ _ _ _ _
   | exact ih1 _ _ _ _ _ _ _
   | exact spec_l6Rd_pick.mono _ _ _ _
   | exact LeO.none _
   | refine LeO.ite ?_ ?_
   | refine LeO.bind ?_ (fun _ => ?_)
def spec_l91Rules.T8 : Bool × List (List Nat × List Nat) := (true, [([], []), ([], []), ([], []), ([1, 2], [1, 2]), ([3], [3]), ([4], [4]), ([], []), ([], []), ([6, 7], [6, 7]), ([8], [8]), ([9], [9]), ([], []), ([11], [11]), ([12], [12]), ([], []), ([14, 12], [14]), ([15], [15]), ([5, 10, 13, 16], [5, 10, 13, 16]), ([17], [17]), ([0, 18, 15], [0, 18]), ([19, 19, 0, 1, 2, 3, 4, 5, 6, 7, 8, 9, 10, 11, 12, 13, 14, 15, 16, 17, 18, 19], [0, 19])])
def spec_l91Rules.B8 : List Nat := [0, 0, 0, 6, 14, 30, 0, 0, 192, 448, 960, 0, 2048, 6144, 0, 22528, 55296, 131070, 262142, 524287, 1048575]
theorem spec_l91Rules.tab8 : rtab .any (opsOf Try.f51 8) = spec_l91Rules.T8 := by kernel_rfl
theorem spec_l91Rules.bits8 : waitsOk spec_l91Rules.T8.2 spec_l91Rules.B8 = true := by kernel_rfl
set_option maxHeartbeats 8000000 in
set_option maxRecDepth 100000 in
theorem spec_l91Rules.calls (k : Nat) (g : Nat) (s0_0 : List Int) (s0_1 : Int) (A1 : Option Addr) (c1 : Nat) (l1 : List (S62)) (r1 : List (S41)) (r2 : Int) (w0 w : World) (hI : IsS85 w0 w g s0_0 s0_1) (hB : Below w0.heap.size w0 w) (hr1 : ∀ W_, KeepBut w W_ g none → Kd.C k62 W_ A1 l1.length l1) (hc1 : l1.length ≤ c1) (h : spec_l91Rules.f k s0_0 s0_1 l1 = some (r1, r2)) :
  Calls Try.prog 51 #[.pointer (some ⟨g, 0, none⟩), .slice A1 l1.length c1] w fun e w' => ∃ v0_ : Value, e = .returned (v0_) ∧ Kd.R k41 41 w' w.heap.size (fun _ => True) v0_ r1 ∧ IsS85 w0 w' g s0_0 r2 ∧ Below w0.heap.size w0 w' ∧ KeepBut w w' g none := by
 have hu41 := Try.underlying41
 have HR1 := Aside0.mk hr1
 have HC1 := Aside0.mk hc1
 clear hr1 hc1
 have HI0 := Aside0.mk hI
 have HK := Aside0.mk (KeepBut.refl w g none)
 have HL := Aside0.mk hB.size
 clear hI
 have HW0 := Aside0.mk hB.size
 have HB := Aside0.mk hB
 clear hB
 have H : ((spec_l6Rd_pick.f k s0_0 s0_1 6).bind fun bt295 => (spec_l91Rules.l0 k l1 (([] : List (S41))) bt295.1 0 s0_0 bt295.2)) = some (r1, r2) := h
 clear h
 obtain ⟨y292, hy292⟩ : ∃ y_ : List (S41), y_ = (([] : List (S41))) := ⟨_, rfl⟩
 replace H : ((spec_l6Rd_pick.f k s0_0 s0_1 6).bind fun bt295 => (spec_l91Rules.l0 k l1 y292 bt295.1 0 s0_0 bt295.2)) = some (r1, r2) := by first | (rw [hy292]; with_reducible exact H) | (have H2_ := (Option.bind_some _ _).symm.trans H; rw [hy292]; with_reducible exact H2_) | (have H2_ := (Option.bind_some _ _).symm.trans H; with_reducible exact H2_) | with_reducible exact H | (rw [hy292]; exact H) | exact H
 have Ny292 := Aside0.mk hy292
 clear hy292
 replace H := Option.bind_eq_some_iff.mp H
 obtain ⟨⟨t295, t296⟩, A30, H⟩ := H
 replace H : (spec_l91Rules.l0 k l1 y292 t295 0 s0_0 t296) = some (r1, r2) := H
 have A3 := Aside0.mk A30
 clear A30
 have H' := Aside0.mk H
 clear H
 go_enter Try.func51, Try.ntmps51
 go_wp2_with (first | ((with_reducible refine gate_dst (N := 10) rfl ?_); (try (refine gate_guard (by rfl) ?_; dsimp only)); refine Kd.R_lit k41 _ 41 ?hg (N := 10) ?hd (xs := ([] : List (S41))) (inner := []) (ok := fun _ => True) (okp := fun _ => True) ?hr ?hp (fun _ hk => hk) trivial (Below.refl _ _) (Nat.le_refl _) (by simp) ?_; (case hd => rfl); (case hg => rfl); (case hr => first | (go_simp; done) | (go_simp; rfl)); (case hp => exact (Reps.none _ _)); intro v293 w4 ho5 hb hg_ hnew_; clear hg_ hnew_; (first | rw [← Ny292.out] at ho5 | (simp only [Int.reduceToNat] at ho5; rw [← Ny292.out] at ho5)); have n0_ := Aside0.mk (Kd.R_lower ho5 (keep_size (w := w) (g := g) (row := none) pK)); have n1_ := Aside0.mk (IsS85.below (by repeat (first | (with_reducible first | exact HI0.out | apply IsS85.alloc | apply IsS85.drewN | apply IsS85.drew | apply IsS85.set_1) | exact HI0.out)) hb); have n2_ := Aside0.mk (KeepBut.trans pK (KeepBut.of_below hb g none) (.inl rfl)); have n3_ := Aside0.mk (below_step (by repeat (first | (with_reducible first | exact HB.out | apply below_alloc | apply pw_below_drewN | apply below_drew1 | refine below_set ?_ (IsS85.ge HI0.out)) | exact HB.out)) hb); clear HI0; clear HK; clear HB; have HO294 := n0_; have HI0 := n1_; have HK := n2_; have HB := n3_; clear n0_ n1_ n2_ n3_; clear hb ho5) | ((with_reducible refine gate_callee (f := 62) rfl ?_); refine goesL_ (some 12) rfl rfl Try.func62 pL rfl #[.pointer (some ⟨g, 0, none⟩), .int .i64 6] rfl pM ?_; (with_reducible refine (spec_l6Rd_pick.calls k g s0_0 s0_1 6 t295 t296 w0 _ ?side1 ?side2 A3.out).mono ?_); (case side1 => repeat (first | (with_reducible first | exact HI0.out | apply IsS85.alloc | apply IsS85.drewN | apply IsS85.drew | apply IsS85.set_1) | exact HI0.out)); (case side2 => repeat (first | (with_reducible first | exact HB.out | apply below_alloc | apply pw_below_drewN | apply below_drew1 | refine below_set ?_ (IsS85.ge HI0.out)) | exact HB.out)); rintro e w6 ⟨rfl, hi, hb, hk⟩; refine ⟨_, rfl, ?_⟩; have n0_ := Aside0.mk (Kd.R_mono (Kd.R_keep (IsS85.apart (show IsS85 w0 _ g s0_0 s0_1 from by repeat (first | (with_reducible first | exact HI0.out | apply IsS85.alloc | apply IsS85.drewN | apply IsS85.drew | apply IsS85.set_1) | exact HI0.out)) (pR HO294) (by decide)) hk (fun _ h => h.2)) (fun _ h => h.1)); have n1_ := Aside0.mk (KeepBut.trans pK hk (.inl rfl)); have n2_ := Aside0.mk (hb); have n3_ := Aside0.mk (hi); clear HO294; clear HK; clear HB; clear HI0; have HO294 := n0_; have HK := n1_; have HB := n2_; have HI0 := n3_; clear n0_ n1_ n2_ n3_; (try clear hb); (try clear hb2); (try clear hk); (try clear hi)))
 go_loopg [5, 7] k (fun kq v5 v7 w' => ∃ (x5_1 : List (S41)) (x7_1 : Int) (x1001_1 : Int), v7 = .int .i64 x7_1 ∧ Aside0 (spec_l91Rules.l0 kq l1 x5_1 t295 x7_1 s0_0 x1001_1 = some (r1, r2)) ∧ Aside0 (kq ≤ k) ∧ Aside0 (Kd.R k41 41 w' w.heap.size (fun _ => True) v5 x5_1) ∧ Aside0 (IsS85 w0 w' g s0_0 x1001_1) ∧ Aside0 (KeepBut w w' g none) ∧ Aside0 (Below w0.heap.size w0 w'))
 case atStart => exact ⟨(y292), (0), (t296), pF, H', ⟨Nat.le_refl _⟩, ⟨pR HO294⟩, ⟨by repeat (first | (with_reducible first | exact HI0.out | apply IsS85.alloc | apply IsS85.drewN | apply IsS85.drew | apply IsS85.set_1) | exact HI0.out)⟩, ⟨pK⟩, ⟨by repeat (first | (with_reducible first | exact HB.out | apply below_alloc | apply pw_below_drewN | apply below_drew1 | refine below_set ?_ (IsS85.ge HI0.out)) | exact HB.out)⟩⟩
 case round =>
  clear H'
  try clear c1
  try clear p2
  try clear c5
  try clear c6
  obtain ⟨x5_1, x7_1, x1001_1, rfl, HA, HK1, HO_5, HI0, HK, HB⟩ := hrel
  cases gk with
  | zero => exact absurd HA.out (by simp [spec_l91Rules.l0])
  | succ k1 =>
   have H := HA.out
   clear HA
   simp only [spec_l91Rules.l0] at H
   have HC7 := Aside0.mk H
   clear H
   go_upto_region 4 with (fail)
   go_cut [20] (fun v20 wc => ∃ (kq : Nat) (x20_6 : Bool), v20 = .bool x20_6 ∧ Aside0 (spec_l91Rules.j1 kq l1 x5_1 t295 x7_1 x20_6 s0_0 x1001_1 = some (r1, r2)) ∧ Aside0 (kq ≤ k1) ∧ Aside0 (Kd.R k41 41 wc w.heap.size (fun _ => True) u5 x5_1) ∧ Aside0 (IsS85 w0 wc g s0_0 x1001_1) ∧ Aside0 (KeepBut w wc g none) ∧ Aside0 (Below w0.heap.size w0 wc))
   case first =>
    have H := HC7.out
    clear HC7
    by_cases c8 : x7_1 < t295
    ·rw [if_pos c8] at H
     have c8b0 : decide (x7_1 < t295) = true := decide_eq_true c8
     clear c8
     (first | rw [c8b0] | (simp only [i64_w, i32_w]; rw [c8b0]) | skip)
     have H' := Aside0.mk H
     clear H
     go_wp2
     go_meet
     case rel => exact ⟨_, (decide ((l1.length : Int) > 1)), pF, H', ⟨by have := HK1.out; first | omega | exact Nat.le_refl _⟩, ⟨pR HO_5⟩, ⟨by repeat (first | (with_reducible first | exact HI0.out | apply IsS85.alloc | apply IsS85.drewN | apply IsS85.drew | apply IsS85.set_1) | exact HI0.out)⟩, ⟨pK⟩, ⟨by repeat (first | (with_reducible first | exact HB.out | apply below_alloc | apply pw_below_drewN | apply below_drew1 | refine below_set ?_ (IsS85.ge HI0.out)) | exact HB.out)⟩⟩
    ·rw [if_neg c8] at H
     have c8b0 : decide (x7_1 < t295) = false := decide_eq_false c8
     clear c8
     (first | rw [c8b0] | (simp only [i64_w, i32_w]; rw [c8b0]) | skip)
     have H' := Aside0.mk H
     clear H
     go_wp2
     go_meet
     case rel => exact ⟨_, (false), pF, H', ⟨by have := HK1.out; first | omega | exact Nat.le_refl _⟩, ⟨pR HO_5⟩, ⟨by repeat (first | (with_reducible first | exact HI0.out | apply IsS85.alloc | apply IsS85.drewN | apply IsS85.drew | apply IsS85.set_1) | exact HI0.out)⟩, ⟨pK⟩, ⟨by repeat (first | (with_reducible first | exact HB.out | apply below_alloc | apply pw_below_drewN | apply below_drew1 | refine below_set ?_ (IsS85.ge HI0.out)) | exact HB.out)⟩⟩
   case rest =>
    clear HC7
    try clear c1
    try clear p2
    try clear c5
    try clear c6
    try clear c8
    try clear c8b0
    try clear p2
    obtain ⟨kq, x20_6, rfl, HA, HJ6, HO_5, HI0, HK, HB⟩ := hcut
    cases kq with
    | zero => exact absurd HA.out (by simp [spec_l91Rules.j1])
    | succ kj6 =>
     have H := HA.out
     clear HA
     simp only [spec_l91Rules.j1] at H
     by_cases c9 : x20_6 = true
     ·subst c9
      have H1 : ((spec_l6Rd_pick.f kj6 s0_0 x1001_1 (l1.length : Int)).bind fun bt297 => ((spec_l6Rd_pick.f kj6 s0_0 bt297.2 (wrap64 ((l1.length : Int) - 1))).bind fun bt299 => (if (l1.length : Int) = 0 then (none) else (if 0 ≤ bt297.1 then (if bt297.1 < (l1.length : Int) then (if 0 ≤ (Int.tmod (wrap64 ((wrap64 (bt297.1 + 1)) + bt299.1)) (l1.length : Int)) then (if (Int.tmod (wrap64 ((wrap64 (bt297.1 + 1)) + bt299.1)) (l1.length : Int)) < (l1.length : Int) then ((spec_l6Rd_pick.f kj6 s0_0 bt299.2 9).bind fun bt303 => ((spec_l6Rd_pick.f kj6 s0_0 bt303.2 9).bind fun bt305 => (if x5_1.length < 4398046511104 then (spec_l91Rules.l0 kj6 l1 (x5_1 ++ [(⟨(rd_T62 l1 bt297.1).f0, (rd_T62 l1 (Int.tmod (wrap64 ((wrap64 (bt297.1 + 1)) + bt299.1)) (l1.length : Int))).f0, wrap64 (1 + bt303.1), wrap64 (1 + bt305.1)⟩ : S41)]) t295 (wrap64 (x7_1 + 1)) s0_0 bt305.2) else (none)))) else (none)) else (none)) else (none)) else (none))))) = some (r1, r2) := by rw [if_pos rfl] at H; exact H
      clear H
      have H := H1
      clear H1
      replace H := Option.bind_eq_some_iff.mp H
      obtain ⟨⟨t297, t298⟩, A100, H⟩ := H
      replace H : ((spec_l6Rd_pick.f kj6 s0_0 t298 (wrap64 ((l1.length : Int) - 1))).bind fun bt299 => (if (l1.length : Int) = 0 then (none) else (if 0 ≤ t297 then (if t297 < (l1.length : Int) then (if 0 ≤ (Int.tmod (wrap64 ((wrap64 (t297 + 1)) + bt299.1)) (l1.length : Int)) then (if (Int.tmod (wrap64 ((wrap64 (t297 + 1)) + bt299.1)) (l1.length : Int)) < (l1.length : Int) then ((spec_l6Rd_pick.f kj6 s0_0 bt299.2 9).bind fun bt303 => ((spec_l6Rd_pick.f kj6 s0_0 bt303.2 9).bind fun bt305 => (if x5_1.length < 4398046511104 then (spec_l91Rules.l0 kj6 l1 (x5_1 ++ [(⟨(rd_T62 l1 t297).f0, (rd_T62 l1 (Int.tmod (wrap64 ((wrap64 (t297 + 1)) + bt299.1)) (l1.length : Int))).f0, wrap64 (1 + bt303.1), wrap64 (1 + bt305.1)⟩ : S41)]) t295 (wrap64 (x7_1 + 1)) s0_0 bt305.2) else (none)))) else (none)) else (none)) else (none)) else (none)))) = some (r1, r2) := H
      have A10 := Aside0.mk A100
      clear A100
      replace H := Option.bind_eq_some_iff.mp H
      obtain ⟨⟨t299, t300⟩, A110, H⟩ := H
      replace H : (if (l1.length : Int) = 0 then (none) else (if 0 ≤ t297 then (if t297 < (l1.length : Int) then (if 0 ≤ (Int.tmod (wrap64 ((wrap64 (t297 + 1)) + t299)) (l1.length : Int)) then (if (Int.tmod (wrap64 ((wrap64 (t297 + 1)) + t299)) (l1.length : Int)) < (l1.length : Int) then ((spec_l6Rd_pick.f kj6 s0_0 t300 9).bind fun bt303 => ((spec_l6Rd_pick.f kj6 s0_0 bt303.2 9).bind fun bt305 => (if x5_1.length < 4398046511104 then (spec_l91Rules.l0 kj6 l1 (x5_1 ++ [(⟨(rd_T62 l1 t297).f0, (rd_T62 l1 (Int.tmod (wrap64 ((wrap64 (t297 + 1)) + t299)) (l1.length : Int))).f0, wrap64 (1 + bt303.1), wrap64 (1 + bt305.1)⟩ : S41)]) t295 (wrap64 (x7_1 + 1)) s0_0 bt305.2) else (none)))) else (none)) else (none)) else (none)) else (none))) = some (r1, r2) := H
      have A11 := Aside0.mk A110
      clear A110
      by_cases c12 : (l1.length : Int) = 0
      ·rw [if_pos c12] at H
       exact absurd H (by simp)
      ·rw [if_neg c12] at H
       have c12b0 : ((l1.length : Int) == 0) = false := beq_eq_false_iff_ne.mpr c12
       have c12b1 : ((l1.length : Int) != 0) = true := bne_iff_ne.mpr c12
       have c12b2 : ¬ (l1 = []) := fun h_ => c12 (by rw [h_]; rfl)
       by_cases c13 : 0 ≤ t297
       ·rw [if_pos c13] at H
        have c13b0 : decide (0 ≤ t297) = true := decide_eq_true c13
        clear c13
        by_cases c14 : t297 < (l1.length : Int)
        ·rw [if_pos c14] at H
         have c14b0 : decide (t297 < (l1.length : Int)) = true := decide_eq_true c14
         clear c14
         obtain ⟨ji15, hji15⟩ : ∃ j_ : Int, (Int.tmod (wrap64 ((wrap64 (t297 + 1)) + t299)) (l1.length : Int)) = j_ := ⟨_, rfl⟩
         replace H : (if 0 ≤ (ji15) then (if (ji15) < (l1.length : Int) then ((spec_l6Rd_pick.f kj6 s0_0 t300 9).bind fun bt303 => ((spec_l6Rd_pick.f kj6 s0_0 bt303.2 9).bind fun bt305 => (if x5_1.length < 4398046511104 then (spec_l91Rules.l0 kj6 l1 (x5_1 ++ [(⟨(rd_T62 l1 t297).f0, (rd_T62 l1 (ji15)).f0, wrap64 (1 + bt303.1), wrap64 (1 + bt305.1)⟩ : S41)]) t295 (wrap64 (x7_1 + 1)) s0_0 bt305.2) else (none)))) else (none)) else (none)) = some (r1, r2) := by first | (rw [hji15] at H; exact H) | (simp only [hji15] at H ⊢; exact H)
         (try rw [hji15] at A10)
         (try rw [hji15] at A11)
         by_cases c16 : 0 ≤ (ji15)
         ·rw [if_pos c16] at H
          have c16b0 : decide (0 ≤ (ji15)) = true := decide_eq_true c16
          clear c16
          by_cases c17 : (ji15) < (l1.length : Int)
          ·rw [if_pos c17] at H
           have c17b0 : decide ((ji15) < (l1.length : Int)) = true := decide_eq_true c17
           clear c17
           replace H := Option.bind_eq_some_iff.mp H
           obtain ⟨⟨t303, t304⟩, A180, H⟩ := H
           replace H : ((spec_l6Rd_pick.f kj6 s0_0 t304 9).bind fun bt305 => (if x5_1.length < 4398046511104 then (spec_l91Rules.l0 kj6 l1 (x5_1 ++ [(⟨(rd_T62 l1 t297).f0, (rd_T62 l1 (ji15)).f0, wrap64 (1 + t303), wrap64 (1 + bt305.1)⟩ : S41)]) t295 (wrap64 (x7_1 + 1)) s0_0 bt305.2) else (none))) = some (r1, r2) := H
           have A18 := Aside0.mk A180
           clear A180
           replace H := Option.bind_eq_some_iff.mp H
           obtain ⟨⟨t305, t306⟩, A190, H⟩ := H
           replace H : (if x5_1.length < 4398046511104 then (spec_l91Rules.l0 kj6 l1 (x5_1 ++ [(⟨(rd_T62 l1 t297).f0, (rd_T62 l1 (ji15)).f0, wrap64 (1 + t303), wrap64 (1 + t305)⟩ : S41)]) t295 (wrap64 (x7_1 + 1)) s0_0 t306) else (none)) = some (r1, r2) := H
           have A19 := Aside0.mk A190
           clear A190
           by_cases c20 : x5_1.length < 4398046511104
           ·rw [if_pos c20] at H
            have LMc20 := Aside0.mk c20
            clear c20
            obtain ⟨y307, hy307⟩ : ∃ y_ : List (S41), y_ = (x5_1 ++ [(⟨(rd_T62 l1 t297).f0, (rd_T62 l1 (ji15)).f0, wrap64 (1 + t303), wrap64 (1 + t305)⟩ : S41)]) := ⟨_, rfl⟩
            replace H : (spec_l91Rules.l0 kj6 l1 y307 t295 (wrap64 (x7_1 + 1)) s0_0 t306) = some (r1, r2) := by first | (rw [hy307]; with_reducible exact H) | (have H2_ := (Option.bind_some _ _).symm.trans H; rw [hy307]; with_reducible exact H2_) | (have H2_ := (Option.bind_some _ _).symm.trans H; with_reducible exact H2_) | with_reducible exact H | (rw [hy307]; exact H) | exact H
            have Ny307 := Aside0.mk hy307
            clear hy307
            have H' := Aside0.mk H
            clear H
            try go_wp2_with (first | ((with_reducible refine gate_callee (f := 62) rfl ?_); refine goesL_ (some 26) rfl rfl Try.func62 pL rfl #[.pointer (some ⟨g, 0, none⟩), .int .i64 (l1.length : Int)] rfl pM ?_; (with_reducible refine (spec_l6Rd_pick.calls kj6 g s0_0 x1001_1 (l1.length : Int) t297 t298 w0 _ ?side1 ?side2 A10.out).mono ?_); (case side1 => repeat (first | (with_reducible first | exact HI0.out | apply IsS85.alloc | apply IsS85.drewN | apply IsS85.drew | apply IsS85.set_1) | exact HI0.out)); (case side2 => repeat (first | (with_reducible first | exact HB.out | apply below_alloc | apply pw_below_drewN | apply below_drew1 | refine below_set ?_ (IsS85.ge HI0.out)) | exact HB.out)); rintro e w21 ⟨rfl, hi, hb, hk⟩; refine ⟨_, rfl, ?_⟩; have n0_ := Aside0.mk (Kd.R_mono (Kd.R_keep (IsS85.apart (show IsS85 w0 _ g s0_0 x1001_1 from by repeat (first | (with_reducible first | exact HI0.out | apply IsS85.alloc | apply IsS85.drewN | apply IsS85.drew | apply IsS85.set_1) | exact HI0.out)) (pR HO_5) (by decide)) hk (fun _ h => h.2)) (fun _ h => h.1)); have n1_ := Aside0.mk (KeepBut.trans pK hk (.inl rfl)); have n2_ := Aside0.mk (hb); have n3_ := Aside0.mk (hi); clear HO_5; clear HK; clear HB; clear HI0; have HO_5 := n0_; have HK := n1_; have HB := n2_; have HI0 := n3_; clear n0_ n1_ n2_ n3_; (try clear hb); (try clear hb2); (try clear hk); (try clear hi)) | ((with_reducible refine gate_callee (f := 62) rfl ?_); refine goesL_ (some 33) rfl rfl Try.func62 pL rfl #[.pointer (some ⟨g, 0, none⟩), .int .i64 (wrap64 ((l1.length : Int) - 1))] rfl pM ?_; (with_reducible refine (spec_l6Rd_pick.calls kj6 g s0_0 t298 (wrap64 ((l1.length : Int) - 1)) t299 t300 w0 _ ?side1 ?side2 A11.out).mono ?_); (case side1 => repeat (first | (with_reducible first | exact HI0.out | apply IsS85.alloc | apply IsS85.drewN | apply IsS85.drew | apply IsS85.set_1) | exact HI0.out)); (case side2 => repeat (first | (with_reducible first | exact HB.out | apply below_alloc | apply pw_below_drewN | apply below_drew1 | refine below_set ?_ (IsS85.ge HI0.out)) | exact HB.out)); rintro e w22 ⟨rfl, hi, hb, hk⟩; refine ⟨_, rfl, ?_⟩; have n0_ := Aside0.mk (Kd.R_mono (Kd.R_keep (IsS85.apart (show IsS85 w0 _ g s0_0 t298 from by repeat (first | (with_reducible first | exact HI0.out | apply IsS85.alloc | apply IsS85.drewN | apply IsS85.drew | apply IsS85.set_1) | exact HI0.out)) (pR HO_5) (by decide)) hk (fun _ h => h.2)) (fun _ h => h.1)); have n1_ := Aside0.mk (KeepBut.trans pK hk (.inl rfl)); have n2_ := Aside0.mk (hb); have n3_ := Aside0.mk (hi); clear HO_5; clear HK; clear HB; clear HI0; have HO_5 := n0_; have HK := n1_; have HB := n2_; have HI0 := n3_; clear n0_ n1_ n2_ n3_; (try clear hb); (try clear hb2); (try clear hk); (try clear hi)))
            have n0_ := Aside0.mk (Kd.R_drew HO_5.out)
            have n1_ := Aside0.mk (IsS85.drew HI0.out)
            have n2_ := Aside0.mk (keep_drew HK.out)
            have n3_ := Aside0.mk (below_drew1 HB.out)
            clear HO_5
            clear HI0
            clear HK
            clear HB
            have HO_5 := n0_
            have HI0 := n1_
            have HK := n2_
            have HB := n3_
            clear n0_ n1_ n2_ n3_
            have p301 : 0 ≤ (t297 : Int) := of_decide_eq_true pA
            have q301 : t297 < (l1.length : Int) := of_decide_eq_true pA
            obtain ⟨ad301, e301, hx301_0, hx301_1, hx301_2, hx301_3, hx301_4, hx301_5⟩ := at_T62 (Kd.C_foot_now HR1.out HK.out) t297 p301 q301
            have hw301_5 := hx301_5
            have hw301_4 := hx301_4
            have hw301_3 := hx301_3
            have hw301_2 := hx301_2
            have hw301_1 := hx301_1
            have hw301_0 := hx301_0
            cases e301
            have hne301_5 := (show (⟨(ad301.add ((t297).toNat * 6)).block, (ad301.add ((t297).toNat * 6)).off + 5, none⟩ : Addr).block ≠ g from by first | (rw [add_block]; exact Kd.foot_ne HR1.out (by omega) (by decide)) | (show (Addr.add _ _).block ≠ _; rw [add_block]; exact Kd.foot_ne HR1.out (by omega) (by decide)) | exact Kd.foot_ne HR1.out (by omega) (by decide) | (dsimp only; exact Kd.foot_ne HR1.out (by omega) (by decide)))
            have hlt301_5 := (Kd.foot_lt HR1.out (by omega) (by decide))
            have hne301_4 := (show (⟨(ad301.add ((t297).toNat * 6)).block, (ad301.add ((t297).toNat * 6)).off + 4, none⟩ : Addr).block ≠ g from by first | (rw [add_block]; exact Kd.foot_ne HR1.out (by omega) (by decide)) | (show (Addr.add _ _).block ≠ _; rw [add_block]; exact Kd.foot_ne HR1.out (by omega) (by decide)) | exact Kd.foot_ne HR1.out (by omega) (by decide) | (dsimp only; exact Kd.foot_ne HR1.out (by omega) (by decide)))
            have hlt301_4 := (Kd.foot_lt HR1.out (by omega) (by decide))
            have hne301_3 := (show (⟨(ad301.add ((t297).toNat * 6)).block, (ad301.add ((t297).toNat * 6)).off + 3, none⟩ : Addr).block ≠ g from by first | (rw [add_block]; exact Kd.foot_ne HR1.out (by omega) (by decide)) | (show (Addr.add _ _).block ≠ _; rw [add_block]; exact Kd.foot_ne HR1.out (by omega) (by decide)) | exact Kd.foot_ne HR1.out (by omega) (by decide) | (dsimp only; exact Kd.foot_ne HR1.out (by omega) (by decide)))
            have hlt301_3 := (Kd.foot_lt HR1.out (by omega) (by decide))
            have hne301_2 := (show (⟨(ad301.add ((t297).toNat * 6)).block, (ad301.add ((t297).toNat * 6)).off + 2, none⟩ : Addr).block ≠ g from by first | (rw [add_block]; exact Kd.foot_ne HR1.out (by omega) (by decide)) | (show (Addr.add _ _).block ≠ _; rw [add_block]; exact Kd.foot_ne HR1.out (by omega) (by decide)) | exact Kd.foot_ne HR1.out (by omega) (by decide) | (dsimp only; exact Kd.foot_ne HR1.out (by omega) (by decide)))
            have hlt301_2 := (Kd.foot_lt HR1.out (by omega) (by decide))
            have hne301_1 := (show (⟨(ad301.add ((t297).toNat * 6)).block, (ad301.add ((t297).toNat * 6)).off + 1, none⟩ : Addr).block ≠ g from by first | (rw [add_block]; exact Kd.foot_ne HR1.out (by omega) (by decide)) | (show (Addr.add _ _).block ≠ _; rw [add_block]; exact Kd.foot_ne HR1.out (by omega) (by decide)) | exact Kd.foot_ne HR1.out (by omega) (by decide) | (dsimp only; exact Kd.foot_ne HR1.out (by omega) (by decide)))
            have hlt301_1 := (Kd.foot_lt HR1.out (by omega) (by decide))
            have hne301_0 := (show ((ad301.add ((t297).toNat * 6)) : Addr).block ≠ g from by first | (rw [add_block]; exact Kd.foot_ne HR1.out (by omega) (by decide)) | (show (Addr.add _ _).block ≠ _; rw [add_block]; exact Kd.foot_ne HR1.out (by omega) (by decide)) | exact Kd.foot_ne HR1.out (by omega) (by decide) | (dsimp only; exact Kd.foot_ne HR1.out (by omega) (by decide)))
            have hlt301_0 := (Kd.foot_lt HR1.out (by omega) (by decide))
            replace p301 := eq_true p301
            replace q301 := eq_true q301
            have p302 : 0 ≤ ((ji15) : Int) := of_decide_eq_true pA
            have q302 : (ji15) < (l1.length : Int) := of_decide_eq_true pA
            obtain ⟨ad302, e302, hx302_0, hx302_1, hx302_2, hx302_3, hx302_4, hx302_5⟩ := at_T62 (Kd.C_foot_now HR1.out HK.out) (ji15) p302 q302
            have hw302_5 := hx302_5
            have hw302_4 := hx302_4
            have hw302_3 := hx302_3
            have hw302_2 := hx302_2
            have hw302_1 := hx302_1
            have hw302_0 := hx302_0
            obtain rfl : ad301 = ad302 := (by injection e302)
            have hne302_5 := (show (⟨(ad301.add (((ji15)).toNat * 6)).block, (ad301.add (((ji15)).toNat * 6)).off + 5, none⟩ : Addr).block ≠ g from by first | (rw [add_block]; exact Kd.foot_ne HR1.out (by omega) (by decide)) | (show (Addr.add _ _).block ≠ _; rw [add_block]; exact Kd.foot_ne HR1.out (by omega) (by decide)) | exact Kd.foot_ne HR1.out (by omega) (by decide) | (dsimp only; exact Kd.foot_ne HR1.out (by omega) (by decide)))
            have hlt302_5 := (Kd.foot_lt HR1.out (by omega) (by decide))
            have hne302_4 := (show (⟨(ad301.add (((ji15)).toNat * 6)).block, (ad301.add (((ji15)).toNat * 6)).off + 4, none⟩ : Addr).block ≠ g from by first | (rw [add_block]; exact Kd.foot_ne HR1.out (by omega) (by decide)) | (show (Addr.add _ _).block ≠ _; rw [add_block]; exact Kd.foot_ne HR1.out (by omega) (by decide)) | exact Kd.foot_ne HR1.out (by omega) (by decide) | (dsimp only; exact Kd.foot_ne HR1.out (by omega) (by decide)))
            have hlt302_4 := (Kd.foot_lt HR1.out (by omega) (by decide))
            have hne302_3 := (show (⟨(ad301.add (((ji15)).toNat * 6)).block, (ad301.add (((ji15)).toNat * 6)).off + 3, none⟩ : Addr).block ≠ g from by first | (rw [add_block]; exact Kd.foot_ne HR1.out (by omega) (by decide)) | (show (Addr.add _ _).block ≠ _; rw [add_block]; exact Kd.foot_ne HR1.out (by omega) (by decide)) | exact Kd.foot_ne HR1.out (by omega) (by decide) | (dsimp only; exact Kd.foot_ne HR1.out (by omega) (by decide)))
            have hlt302_3 := (Kd.foot_lt HR1.out (by omega) (by decide))
            have hne302_2 := (show (⟨(ad301.add (((ji15)).toNat * 6)).block, (ad301.add (((ji15)).toNat * 6)).off + 2, none⟩ : Addr).block ≠ g from by first | (rw [add_block]; exact Kd.foot_ne HR1.out (by omega) (by decide)) | (show (Addr.add _ _).block ≠ _; rw [add_block]; exact Kd.foot_ne HR1.out (by omega) (by decide)) | exact Kd.foot_ne HR1.out (by omega) (by decide) | (dsimp only; exact Kd.foot_ne HR1.out (by omega) (by decide)))
            have hlt302_2 := (Kd.foot_lt HR1.out (by omega) (by decide))
            have hne302_1 := (show (⟨(ad301.add (((ji15)).toNat * 6)).block, (ad301.add (((ji15)).toNat * 6)).off + 1, none⟩ : Addr).block ≠ g from by first | (rw [add_block]; exact Kd.foot_ne HR1.out (by omega) (by decide)) | (show (Addr.add _ _).block ≠ _; rw [add_block]; exact Kd.foot_ne HR1.out (by omega) (by decide)) | exact Kd.foot_ne HR1.out (by omega) (by decide) | (dsimp only; exact Kd.foot_ne HR1.out (by omega) (by decide)))
            have hlt302_1 := (Kd.foot_lt HR1.out (by omega) (by decide))
            have hne302_0 := (show ((ad301.add (((ji15)).toNat * 6)) : Addr).block ≠ g from by first | (rw [add_block]; exact Kd.foot_ne HR1.out (by omega) (by decide)) | (show (Addr.add _ _).block ≠ _; rw [add_block]; exact Kd.foot_ne HR1.out (by omega) (by decide)) | exact Kd.foot_ne HR1.out (by omega) (by decide) | (dsimp only; exact Kd.foot_ne HR1.out (by omega) (by decide)))
            have hlt302_0 := (Kd.foot_lt HR1.out (by omega) (by decide))
            replace p302 := eq_true p302
            replace q302 := eq_true q302
            refine start_ (n := 21) (S := fun w' => w'.cell? (ad301.add ((t297).toNat * 6)) = some (.int .i64 ((rd_T62 l1 t297).f0)) ∧ w'.cell? ⟨(ad301.add ((t297).toNat * 6)).block, (ad301.add ((t297).toNat * 6)).off + 1, none⟩ = some (.int .i64 ((rd_T62 l1 t297).f1)) ∧ w'.cell? ⟨(ad301.add ((t297).toNat * 6)).block, (ad301.add ((t297).toNat * 6)).off + 2, none⟩ = some (.int .i64 ((rd_T62 l1 t297).f2)) ∧ w'.cell? ⟨(ad301.add ((t297).toNat * 6)).block, (ad301.add ((t297).toNat * 6)).off + 3, none⟩ = some (.int .i64 ((rd_T62 l1 t297).f3)) ∧ w'.cell? ⟨(ad301.add ((t297).toNat * 6)).block, (ad301.add ((t297).toNat * 6)).off + 4, none⟩ = some (.int .i64 ((rd_T62 l1 t297).f4)) ∧ w'.cell? ⟨(ad301.add ((t297).toNat * 6)).block, (ad301.add ((t297).toNat * 6)).off + 5, none⟩ = some (.int .i64 ((rd_T62 l1 t297).f5)) ∧ w'.cell? (ad301.add (((ji15)).toNat * 6)) = some (.int .i64 ((rd_T62 l1 (ji15)).f0)) ∧ w'.cell? ⟨(ad301.add (((ji15)).toNat * 6)).block, (ad301.add (((ji15)).toNat * 6)).off + 1, none⟩ = some (.int .i64 ((rd_T62 l1 (ji15)).f1)) ∧ w'.cell? ⟨(ad301.add (((ji15)).toNat * 6)).block, (ad301.add (((ji15)).toNat * 6)).off + 2, none⟩ = some (.int .i64 ((rd_T62 l1 (ji15)).f2)) ∧ w'.cell? ⟨(ad301.add (((ji15)).toNat * 6)).block, (ad301.add (((ji15)).toNat * 6)).off + 3, none⟩ = some (.int .i64 ((rd_T62 l1 (ji15)).f3)) ∧ w'.cell? ⟨(ad301.add (((ji15)).toNat * 6)).block, (ad301.add (((ji15)).toNat * 6)).off + 4, none⟩ = some (.int .i64 ((rd_T62 l1 (ji15)).f4)) ∧ w'.cell? ⟨(ad301.add (((ji15)).toNat * 6)).block, (ad301.add (((ji15)).toNat * 6)).off + 5, none⟩ = some (.int .i64 ((rd_T62 l1 (ji15)).f5))) (ds := [18, 19]) #[false, false, false, false, false, false, false, false, false, false, false, false, false, false, false, false, false, false, false, false, false] pL rfl rfl ⟨hx301_0, hx301_1, hx301_2, hx301_3, hx301_4, hx301_5, hx302_0, hx302_1, hx302_2, hx302_3, hx302_4, hx302_5⟩ (fun hHeld => ?_); refine with_tabW spec_l91Rules.tab8 spec_l91Rules.bits8 (fun HT_ HW_ => ?_)
            generalize w22.drew = w23 at HO_5 HI0 HK HB hx301_0 hx301_1 hx301_2 hx301_3 hx301_4 hx301_5 hx302_0 hx302_1 hx302_2 hx302_3 hx302_4 hx302_5 hHeld ⊢
            refine pure_ (i := 0) (N := some 38) (v := ?_) (a' := ?_) #[true, false, false, false, false, false, false, false, false, false, false, false, false, false, false, false, false, false, false, false, false] rfl rfl (any_of HT_.out pL) (fun _ _ _ h => h) (Or.inl ⟨by rfl, ?_⟩) ?_ ?_
            rotate_left
            ·intro w'
             go_simp
             with_reducible rfl
            rotate_left
            ·exact pP
            refine pure_ (i := 1) (N := some 39) (v := ?_) (a' := ?_) #[true, true, false, false, false, false, false, false, false, false, false, false, false, false, false, false, false, false, false, false, false] rfl rfl (any_of HT_.out pL) (fun _ _ _ h => h) (Or.inl ⟨by rfl, ?_⟩) ?_ ?_
            rotate_left
            ·intro w'
             go_simp
             with_reducible rfl
            rotate_left
            ·exact pP
            refine pure_ (i := 2) (N := some 40) (v := ?_) (a' := ?_) #[true, true, true, false, false, false, false, false, false, false, false, false, false, false, false, false, false, false, false, false, false] rfl rfl (any_of HT_.out pL) (fun _ _ _ h => h) (Or.inl ⟨by rfl, ?_⟩) ?_ ?_
            rotate_left
            ·intro w'
             go_simp
             with_reducible rfl
            rotate_left
            ·exact pP
            refine pure_ (i := 3) (N := some 41) (v := ?_) (a' := ?_) #[true, true, true, true, false, false, false, false, false, false, false, false, false, false, false, false, false, false, false, false, false] rfl rfl (any_of HT_.out pL) (fun _ _ _ h => h) (Or.inl ⟨by rfl, ?_⟩) ?_ ?_
            rotate_left
            ·intro w'
             go_simp
             with_reducible rfl
            rotate_left
            ·exact pP
            refine pure_ (i := 4) (N := some 42) (v := ?_) (a' := ?_) #[true, true, true, true, true, false, false, false, false, false, false, false, false, false, false, false, false, false, false, false, false] rfl rfl (any_of HT_.out pL) (fun _ _ _ h => h) (Or.inl ⟨by rfl, ?_⟩) ?_ ?_
            rotate_left
            ·intro w'
             go_simp
             with_reducible rfl
            rotate_left
            ·exact pP
            refine pure_ (i := 6) (N := some 44) (v := ?_) (a' := ?_) #[true, true, true, true, true, false, true, false, false, false, false, false, false, false, false, false, false, false, false, false, false] rfl rfl (any_of HT_.out pL) (fun _ _ _ h => h) (Or.inl ⟨by rfl, ?_⟩) ?_ ?_
            rotate_left
            ·intro w'
             go_simp
             with_reducible rfl
            rotate_left
            ·exact pP
            refine pure_ (i := 7) (N := some 45) (v := ?_) (a' := ?_) #[true, true, true, true, true, false, true, true, false, false, false, false, false, false, false, false, false, false, false, false, false] rfl rfl (any_of HT_.out pL) (fun _ _ _ h => h) (Or.inl ⟨by rfl, ?_⟩) ?_ ?_
            rotate_left
            ·intro w'
             go_simp
             with_reducible rfl
            rotate_left
            ·exact pP
            refine pure_ (i := 8) (N := some 46) (v := ?_) (a' := ?_) #[true, true, true, true, true, false, true, true, true, false, false, false, false, false, false, false, false, false, false, false, false] rfl rfl (any_of HT_.out pL) (fun _ _ _ h => h) (Or.inl ⟨by rfl, ?_⟩) ?_ ?_
            rotate_left
            ·intro w'
             go_simp
             with_reducible rfl
            rotate_left
            ·exact pP
            refine pure_ (i := 9) (N := some 47) (v := ?_) (a' := ?_) #[true, true, true, true, true, false, true, true, true, true, false, false, false, false, false, false, false, false, false, false, false] rfl rfl (any_of HT_.out pL) (fun _ _ _ h => h) (Or.inl ⟨by rfl, ?_⟩) ?_ ?_
            rotate_left
            ·intro w'
             go_simp
             with_reducible rfl
            rotate_left
            ·exact pP
            refine pure_ (i := 11) (N := some 49) (v := ?_) (a' := ?_) #[true, true, true, true, true, false, true, true, true, true, false, true, false, false, false, false, false, false, false, false, false] rfl rfl (any_of HT_.out pL) (fun _ _ _ h => h) (Or.inl ⟨by rfl, ?_⟩) ?_ ?_
            rotate_left
            ·intro w'
             go_simp
             with_reducible rfl
            rotate_left
            ·exact pP
            refine pure_ (i := 14) (N := some 52) (v := ?_) (a' := ?_) #[true, true, true, true, true, false, true, true, true, true, false, true, false, false, true, false, false, false, false, false, false] rfl rfl (any_of HT_.out pL) (fun _ _ _ h => h) (Or.inl ⟨by rfl, ?_⟩) ?_ ?_
            rotate_left
            ·intro w'
             go_simp
             with_reducible rfl
            rotate_left
            ·exact pP
            refine take_ (i := 5) (N := some 43) (v := ?_) (a' := ?_) #[true, true, true, true, true, true, true, true, true, true, false, true, false, false, true, false, false, false, false, false, false] rfl rfl (take_ofW HT_.out HW_.out pL) (fun _ _ _ h => h) (Or.inl ⟨by rfl, ?_⟩) hHeld ?_ ?_
            rotate_left
            ·rintro w' ⟨s0, s1, s2, s3, s4, s5, s6, s7, s8, s9, s10, s11⟩
             go_simp
             with_reducible rfl
            rotate_left
            ·exact pP
            refine take_ (i := 10) (N := some 48) (v := ?_) (a' := ?_) #[true, true, true, true, true, true, true, true, true, true, true, true, false, false, true, false, false, false, false, false, false] rfl rfl (take_ofW HT_.out HW_.out pL) (fun _ _ _ h => h) (Or.inl ⟨by rfl, ?_⟩) hHeld ?_ ?_
            rotate_left
            ·rintro w' ⟨s0, s1, s2, s3, s4, s5, s6, s7, s8, s9, s10, s11⟩
             go_simp
             with_reducible rfl
            rotate_left
            ·exact pP
            refine one_ (i := 12) (N := some 50) #[true, true, true, true, true, true, true, true, true, true, true, true, true, false, true, false, false, false, false, false, false] rfl rfl (one_of HT_.out pL) (by decide) (fun K hK => ?_)
            refine goes_ Try.func62 pL rfl #[.pointer (some ⟨g, 0, none⟩), .int .i64 9] (by rfl) rfl rfl pM ?_
            with_reducible refine (spec_l6Rd_pick.calls kj6 g s0_0 t300 9 t303 t304 w0 _ ?side1 ?side2 A18.out).mono ?_
            (case side1 => repeat (first | (with_reducible first | exact HI0.out | apply IsS85.alloc | apply IsS85.drewN | apply IsS85.drew | apply IsS85.set_1) | exact HI0.out))
            (case side2 => repeat (first | (with_reducible first | exact HB.out | apply below_alloc | apply pw_below_drewN | apply below_drew1 | refine below_set ?_ (IsS85.ge HI0.out)) | exact HB.out))
            rintro e w24 ⟨rfl, hi, hb, hk⟩
            have HS0_ := keep_cell hk (hHeld.1) (by first | (rw [add_block]; exact hne301_0) | (show (Addr.add _ _).block ≠ _; rw [add_block]; exact hne301_0) | exact hne301_0)
            have HS1_ := keep_cell hk (hHeld.2.1) (by first | (rw [add_block]; exact hne301_1) | (show (Addr.add _ _).block ≠ _; rw [add_block]; exact hne301_1) | exact hne301_1)
            have HS2_ := keep_cell hk (hHeld.2.2.1) (by first | (rw [add_block]; exact hne301_2) | (show (Addr.add _ _).block ≠ _; rw [add_block]; exact hne301_2) | exact hne301_2)
            have HS3_ := keep_cell hk (hHeld.2.2.2.1) (by first | (rw [add_block]; exact hne301_3) | (show (Addr.add _ _).block ≠ _; rw [add_block]; exact hne301_3) | exact hne301_3)
            have HS4_ := keep_cell hk (hHeld.2.2.2.2.1) (by first | (rw [add_block]; exact hne301_4) | (show (Addr.add _ _).block ≠ _; rw [add_block]; exact hne301_4) | exact hne301_4)
            have HS5_ := keep_cell hk (hHeld.2.2.2.2.2.1) (by first | (rw [add_block]; exact hne301_5) | (show (Addr.add _ _).block ≠ _; rw [add_block]; exact hne301_5) | exact hne301_5)
            have HS6_ := keep_cell hk (hHeld.2.2.2.2.2.2.1) (by first | (rw [add_block]; exact hne302_0) | (show (Addr.add _ _).block ≠ _; rw [add_block]; exact hne302_0) | exact hne302_0)
            have HS7_ := keep_cell hk (hHeld.2.2.2.2.2.2.2.1) (by first | (rw [add_block]; exact hne302_1) | (show (Addr.add _ _).block ≠ _; rw [add_block]; exact hne302_1) | exact hne302_1)
            have HS8_ := keep_cell hk (hHeld.2.2.2.2.2.2.2.2.1) (by first | (rw [add_block]; exact hne302_2) | (show (Addr.add _ _).block ≠ _; rw [add_block]; exact hne302_2) | exact hne302_2)
            have HS9_ := keep_cell hk (hHeld.2.2.2.2.2.2.2.2.2.1) (by first | (rw [add_block]; exact hne302_3) | (show (Addr.add _ _).block ≠ _; rw [add_block]; exact hne302_3) | exact hne302_3)
            have HS10_ := keep_cell hk (hHeld.2.2.2.2.2.2.2.2.2.2.1) (by first | (rw [add_block]; exact hne302_4) | (show (Addr.add _ _).block ≠ _; rw [add_block]; exact hne302_4) | exact hne302_4)
            have HS11_ := keep_cell hk (hHeld.2.2.2.2.2.2.2.2.2.2.2) (by first | (rw [add_block]; exact hne302_5) | (show (Addr.add _ _).block ≠ _; rw [add_block]; exact hne302_5) | exact hne302_5)
            refine ⟨_, rfl, ?_⟩
            have n0_ := Aside0.mk (Kd.R_mono (Kd.R_keep (IsS85.apart (show IsS85 w0 _ g s0_0 t300 from by repeat (first | (with_reducible first | exact HI0.out | apply IsS85.alloc | apply IsS85.drewN | apply IsS85.drew | apply IsS85.set_1) | exact HI0.out)) (pR HO_5) (by decide)) hk (fun _ h => h.2)) (fun _ h => h.1))
            have n1_ := Aside0.mk (KeepBut.trans pK hk (.inl rfl))
            have n2_ := Aside0.mk (hb)
            have n3_ := Aside0.mk (hi)
            clear HO_5
            clear HK
            clear HB
            clear HI0
            have HO_5 := n0_
            have HK := n1_
            have HB := n2_
            have HI0 := n3_
            clear n0_ n1_ n2_ n3_
            (try clear hb)
            (try clear hb2)
            (try clear hk)
            (try clear hi)
            refine hK.out _ _ ⟨HS0_, HS1_, HS2_, HS3_, HS4_, HS5_, HS6_, HS7_, HS8_, HS9_, HS10_, HS11_⟩ (fun hHeld => ?_)
            clear hK K
            refine norm_ (a' := ?_) ?_ ?_
            rotate_left
            ·show Act.put _ (some 50) _ = _
             exact pP
            refine pure_ (i := 13) (N := some 51) (v := ?_) (a' := ?_) #[true, true, true, true, true, true, true, true, true, true, true, true, true, true, true, false, false, false, false, false, false] rfl rfl (any_of HT_.out pL) (fun _ _ _ h => h) (Or.inl ⟨by rfl, ?_⟩) ?_ ?_
            rotate_left
            ·intro w'
             go_simp
             with_reducible rfl
            rotate_left
            ·exact pP
            refine one_ (i := 15) (N := some 53) #[true, true, true, true, true, true, true, true, true, true, true, true, true, true, true, true, false, false, false, false, false] rfl rfl (one_of HT_.out pL) (by decide) (fun K hK => ?_)
            refine goes_ Try.func62 pL rfl #[.pointer (some ⟨g, 0, none⟩), .int .i64 9] (by rfl) rfl rfl pM ?_
            with_reducible refine (spec_l6Rd_pick.calls kj6 g s0_0 t304 9 t305 t306 w0 _ ?side1 ?side2 A19.out).mono ?_
            (case side1 => repeat (first | (with_reducible first | exact HI0.out | apply IsS85.alloc | apply IsS85.drewN | apply IsS85.drew | apply IsS85.set_1) | exact HI0.out))
            (case side2 => repeat (first | (with_reducible first | exact HB.out | apply below_alloc | apply pw_below_drewN | apply below_drew1 | refine below_set ?_ (IsS85.ge HI0.out)) | exact HB.out))
            rintro e w25 ⟨rfl, hi, hb, hk⟩
            have HS0_ := keep_cell hk (hHeld.1) (by first | (rw [add_block]; exact hne301_0) | (show (Addr.add _ _).block ≠ _; rw [add_block]; exact hne301_0) | exact hne301_0)
            have HS1_ := keep_cell hk (hHeld.2.1) (by first | (rw [add_block]; exact hne301_1) | (show (Addr.add _ _).block ≠ _; rw [add_block]; exact hne301_1) | exact hne301_1)
            have HS2_ := keep_cell hk (hHeld.2.2.1) (by first | (rw [add_block]; exact hne301_2) | (show (Addr.add _ _).block ≠ _; rw [add_block]; exact hne301_2) | exact hne301_2)
            have HS3_ := keep_cell hk (hHeld.2.2.2.1) (by first | (rw [add_block]; exact hne301_3) | (show (Addr.add _ _).block ≠ _; rw [add_block]; exact hne301_3) | exact hne301_3)
            have HS4_ := keep_cell hk (hHeld.2.2.2.2.1) (by first | (rw [add_block]; exact hne301_4) | (show (Addr.add _ _).block ≠ _; rw [add_block]; exact hne301_4) | exact hne301_4)
            have HS5_ := keep_cell hk (hHeld.2.2.2.2.2.1) (by first | (rw [add_block]; exact hne301_5) | (show (Addr.add _ _).block ≠ _; rw [add_block]; exact hne301_5) | exact hne301_5)
            have HS6_ := keep_cell hk (hHeld.2.2.2.2.2.2.1) (by first | (rw [add_block]; exact hne302_0) | (show (Addr.add _ _).block ≠ _; rw [add_block]; exact hne302_0) | exact hne302_0)
            have HS7_ := keep_cell hk (hHeld.2.2.2.2.2.2.2.1) (by first | (rw [add_block]; exact hne302_1) | (show (Addr.add _ _).block ≠ _; rw [add_block]; exact hne302_1) | exact hne302_1)
            have HS8_ := keep_cell hk (hHeld.2.2.2.2.2.2.2.2.1) (by first | (rw [add_block]; exact hne302_2) | (show (Addr.add _ _).block ≠ _; rw [add_block]; exact hne302_2) | exact hne302_2)
            have HS9_ := keep_cell hk (hHeld.2.2.2.2.2.2.2.2.2.1) (by first | (rw [add_block]; exact hne302_3) | (show (Addr.add _ _).block ≠ _; rw [add_block]; exact hne302_3) | exact hne302_3)
            have HS10_ := keep_cell hk (hHeld.2.2.2.2.2.2.2.2.2.2.1) (by first | (rw [add_block]; exact hne302_4) | (show (Addr.add _ _).block ≠ _; rw [add_block]; exact hne302_4) | exact hne302_4)
            have HS11_ := keep_cell hk (hHeld.2.2.2.2.2.2.2.2.2.2.2) (by first | (rw [add_block]; exact hne302_5) | (show (Addr.add _ _).block ≠ _; rw [add_block]; exact hne302_5) | exact hne302_5)
            refine ⟨_, rfl, ?_⟩
            have n0_ := Aside0.mk (Kd.R_mono (Kd.R_keep (IsS85.apart (show IsS85 w0 _ g s0_0 t304 from by repeat (first | (with_reducible first | exact HI0.out | apply IsS85.alloc | apply IsS85.drewN | apply IsS85.drew | apply IsS85.set_1) | exact HI0.out)) (pR HO_5) (by decide)) hk (fun _ h => h.2)) (fun _ h => h.1))
            have n1_ := Aside0.mk (KeepBut.trans pK hk (.inl rfl))
            have n2_ := Aside0.mk (hb)
            have n3_ := Aside0.mk (hi)
            clear HO_5
            clear HK
            clear HB
            clear HI0
            have HO_5 := n0_
            have HK := n1_
            have HB := n2_
            have HI0 := n3_
            clear n0_ n1_ n2_ n3_
            (try clear hb)
            (try clear hb2)
            (try clear hk)
            (try clear hi)
            refine hK.out _ _ ⟨HS0_, HS1_, HS2_, HS3_, HS4_, HS5_, HS6_, HS7_, HS8_, HS9_, HS10_, HS11_⟩ (fun hHeld => ?_)
            clear hK K
            refine norm_ (a' := ?_) ?_ ?_
            rotate_left
            ·show Act.put _ (some 53) _ = _
             exact pP
            refine pure_ (i := 16) (N := some 54) (v := ?_) (a' := ?_) #[true, true, true, true, true, true, true, true, true, true, true, true, true, true, true, true, true, false, false, false, false] rfl rfl (any_of HT_.out pL) (fun _ _ _ h => h) (Or.inl ⟨by rfl, ?_⟩) ?_ ?_
            rotate_left
            ·intro w'
             go_simp
             with_reducible rfl
            rotate_left
            ·exact pP
            refine pure_ (i := 17) (N := some 55) (v := ?_) (a' := ?_) #[true, true, true, true, true, true, true, true, true, true, true, true, true, true, true, true, true, true, false, false, false] rfl rfl (any_of HT_.out pL) (fun _ _ _ h => h) (Or.inl ⟨by rfl, ?_⟩) ?_ ?_
            rotate_left
            ·intro w'
             go_simp
             with_reducible rfl
            rotate_left
            ·exact pP
            refine last_ (i := 18) (N := some 56) #[true, true, true, true, true, true, true, true, true, true, true, true, true, true, true, true, true, true, true, false, false] rfl rfl (one_of HT_.out pL) (by decide) (fun K hK => ?_)
            refine value_ (w1 := ?_) (v := ?_) (by rfl) rfl ?_ ?_
            rotate_left 2
            ·go_simp
             constructor
             ·rfl
             ·rfl
            refine hK.out _ _ ?_
            clear hK K
            refine norm_ (a' := ?_) ?_ ?_
            rotate_left
            ·show Act.put _ (some 56) _ = _
             exact pP
            refine last_ (i := 19) (N := some 57) #[true, true, true, true, true, true, true, true, true, true, true, true, true, true, true, true, true, true, true, true, false] rfl rfl (one_of HT_.out pL) (by decide) (fun K hK => ?_)
            refine Kd.R_append_step k41 w.heap.size (by rfl) (.tmp 38) (.tmp 56) 36 41 (.agg #[(.int .i64 0), (.int .i64 0), (.int .i64 0), (.int .i64 0)]) 32 rfl Try.underlying36 info41 rfl (by decide) (by omega) u5 x5_1 (⟨(rd_T62 l1 t297).f0, (rd_T62 l1 (ji15)).f0, wrap64 (1 + t303), wrap64 (1 + t305)⟩ : S41) [.int .i64 ((rd_T62 l1 t297).f0), .int .i64 ((rd_T62 l1 (ji15)).f0), .int .i64 (wrap64 (1 + t303)), .int .i64 (wrap64 (1 + t305))] (fun _ => True) (fun _ => False) rfl rfl ?aP (fun _ hk => hk.elim) ?aF ?aO (Below.refl _ _) ?aS ?aL ?_
            (case aP => exact k41_mkM _ _ _ (⟨(rd_T62 l1 t297).f0, (rd_T62 l1 (ji15)).f0, wrap64 (1 + t303), wrap64 (1 + t305)⟩ : S41))
            (case aF => exact (fun _ _ => trivial))
            (case aO => exact (pR HO_5))
            (case aS => exact (keep_size (w := w) (g := g) (row := none) pK))
            (case aL => have := LMc20.out; omega)
            intro v308 w26 ho hb hg hat
            rw [← Ny307.out] at ho
            have n0_ := Aside0.mk (IsS85.grown (by repeat (first | (with_reducible first | exact HI0.out | apply IsS85.alloc | apply IsS85.drewN | apply IsS85.drew | apply IsS85.set_1) | exact HI0.out)) hg (IsS85.own_ne HI0.out HO_5.out (by decide)))
            have n1_ := Aside0.mk (below_weaken (by repeat (first | (with_reducible first | exact HB.out | apply below_alloc | apply pw_below_drewN | apply below_drew1 | refine below_set ?_ (IsS85.ge HI0.out)) | exact HB.out)) HL.out hb)
            have n2_ := Aside0.mk (KeepBut.trans pK (KeepBut.of_grown hg g) (Kd.R_base2 HO_5.out))
            have n3_ := Aside0.mk (ho)
            clear HI0
            clear HB
            clear HK
            clear HO_5
            have HI0 := n0_
            have HB := n1_
            have HK := n2_
            have HO309 := n3_
            clear n0_ n1_ n2_ n3_
            clear ho hb hg hat
            refine hK.out _ _ ?_
            clear hK K
            refine norm_ (a' := ?_) ?_ ?_
            rotate_left
            ·show Act.put _ (some 57) _ = _
             exact pP
            refine pure_ (i := 20) (N := some 5) (v := ?_) (a' := ?_) #[true, true, true, true, true, true, true, true, true, true, true, true, true, true, true, true, true, true, true, true, true] rfl rfl (any_of HT_.out pL) (fun _ _ _ h => h) (Or.inl ⟨by rfl, ?_⟩) ?_ ?_
            rotate_left
            ·intro w'
             go_simp
             with_reducible rfl
            rotate_left
            ·exact pP
            refine done_ (done_of HT_.out pL) ?_
            try go_wp2
            go_roundg kj6
            case measure => have := HK1.out; have := HJ6.out; omega
            case rel => exact ⟨(y307), (wrap64 (x7_1 + 1)), (t306), pF, H', ⟨by have := HK1.out; have := HJ6.out; omega⟩, ⟨pR HO309⟩, ⟨by repeat (first | (with_reducible first | exact HI0.out | apply IsS85.alloc | apply IsS85.drewN | apply IsS85.drew | apply IsS85.set_1) | exact HI0.out)⟩, ⟨pK⟩, ⟨by repeat (first | (with_reducible first | exact HB.out | apply below_alloc | apply pw_below_drewN | apply below_drew1 | refine below_set ?_ (IsS85.ge HI0.out)) | exact HB.out)⟩⟩
           ·rw [if_neg c20] at H
            exact absurd H (by simp)
          ·rw [if_neg c17] at H
           exact absurd H (by simp)
         ·rw [if_neg c16] at H
          exact absurd H (by simp)
        ·rw [if_neg c14] at H
         exact absurd H (by simp)
       ·rw [if_neg c13] at H
        exact absurd H (by simp)
     ·replace c9 := Bool.eq_false_iff.mpr c9
      subst c9
      have H1 : (if (x5_1.length : Int) > 0 then ((spec_l6Rd_pick.f kj6 s0_0 x1001_1 24).bind fun bt310 => (if bt310.1 = 0 then ((spec_l6Rd_pick.f kj6 s0_0 bt310.2 2).bind fun bt312 => (if 0 < (x5_1.length : Int) then (some ((x5_1.set (0 : Int).toNat (⟨(rd_T41 x5_1 0).f0, (rd_T41 x5_1 0).f1, wrap64 (bt312.1 * 10), (rd_T41 x5_1 0).f3⟩ : S41)), bt312.2)) else (none))) else (some (x5_1, bt310.2)))) else (some (x5_1, x1001_1))) = some (r1, r2) := by rw [if_neg (show ¬ (false = true) by decide)] at H; exact H
      clear H
      have H := H1
      clear H1
      by_cases c27 : (x5_1.length : Int) > 0
      ·rw [if_pos c27] at H
       have c27b0 : decide (0 < (x5_1.length : Int)) = true := decide_eq_true c27
       have c27b1 : decide (0 < x5_1.length) = true := decide_eq_true (by omega)
       clear c27
       replace H := Option.bind_eq_some_iff.mp H
       obtain ⟨⟨t310, t311⟩, A280, H⟩ := H
       replace H : (if t310 = 0 then ((spec_l6Rd_pick.f kj6 s0_0 t311 2).bind fun bt312 => (if 0 < (x5_1.length : Int) then (some ((x5_1.set (0 : Int).toNat (⟨(rd_T41 x5_1 0).f0, (rd_T41 x5_1 0).f1, wrap64 (bt312.1 * 10), (rd_T41 x5_1 0).f3⟩ : S41)), bt312.2)) else (none))) else (some (x5_1, t311))) = some (r1, r2) := H
       have A28 := Aside0.mk A280
       clear A280
       by_cases c29 : t310 = 0
       ·rw [if_pos c29] at H
        have c29b0 : (t310 == 0) = true := beq_iff_eq.mpr c29
        have c29b1 : (t310 != 0) = false := bne_eq_false_iff_eq.mpr c29
        clear c29
        replace H := Option.bind_eq_some_iff.mp H
        obtain ⟨⟨t312, t313⟩, A300, H⟩ := H
        replace H : (if 0 < (x5_1.length : Int) then (some ((x5_1.set (0 : Int).toNat (⟨(rd_T41 x5_1 0).f0, (rd_T41 x5_1 0).f1, wrap64 (t312 * 10), (rd_T41 x5_1 0).f3⟩ : S41)), t313)) else (none)) = some (r1, r2) := H
        have A30 := Aside0.mk A300
        clear A300
        by_cases c31 : 0 < (x5_1.length : Int)
        ·rw [if_pos c31] at H
         have c31b0 : decide (0 < (x5_1.length : Int)) = true := decide_eq_true c31
         have c31b1 : decide (0 < x5_1.length) = true := decide_eq_true (by omega)
         clear c31
         obtain ⟨y314, hy314⟩ : ∃ y_ : List (S41), y_ = (x5_1.set (0 : Int).toNat (⟨(rd_T41 x5_1 0).f0, (rd_T41 x5_1 0).f1, wrap64 (t312 * 10), (rd_T41 x5_1 0).f3⟩ : S41)) := ⟨_, rfl⟩
         replace H : (some (y314, t313)) = some (r1, r2) := by first | (rw [hy314]; with_reducible exact H) | (have H2_ := (Option.bind_some _ _).symm.trans H; rw [hy314]; with_reducible exact H2_) | (have H2_ := (Option.bind_some _ _).symm.trans H; with_reducible exact H2_) | with_reducible exact H | (rw [hy314]; exact H) | exact H
         have Ny314 := Aside0.mk hy314
         clear hy314
         simp only [Option.some.injEq, Prod.mk.injEq] at H
         obtain ⟨rfl, rfl⟩ := H
         obtain ⟨Ao33, co33, eo33⟩ := Kd.R_slice HO_5.out
         subst eo33
         go_wp2_with (first | (go_at_call 62; (with_reducible refine (spec_l6Rd_pick.calls kj6 g s0_0 x1001_1 24 t310 t311 w0 _ ?side1 ?side2 A28.out).mono ?_); (case side1 => repeat (first | (with_reducible first | exact HI0.out | apply IsS85.alloc | apply IsS85.drewN | apply IsS85.drew | apply IsS85.set_1) | exact HI0.out)); (case side2 => repeat (first | (with_reducible first | exact HB.out | apply below_alloc | apply pw_below_drewN | apply below_drew1 | refine below_set ?_ (IsS85.ge HI0.out)) | exact HB.out)); rintro e w34 ⟨rfl, hi, hb, hk⟩; have n0_ := Aside0.mk (Kd.R_mono (Kd.R_keep (IsS85.apart (show IsS85 w0 _ g s0_0 x1001_1 from by repeat (first | (with_reducible first | exact HI0.out | apply IsS85.alloc | apply IsS85.drewN | apply IsS85.drew | apply IsS85.set_1) | exact HI0.out)) (pR HO_5) (by decide)) hk (fun _ h => h.2)) (fun _ h => h.1)); have n1_ := Aside0.mk (KeepBut.trans pK hk (.inl rfl)); have n2_ := Aside0.mk (hb); have n3_ := Aside0.mk (hi); clear HO_5; clear HK; clear HB; clear HI0; have HO_5 := n0_; have HK := n1_; have HB := n2_; have HI0 := n3_; clear n0_ n1_ n2_ n3_; (try clear hb); (try clear hb2); (try clear hk); (try clear hi)) | ((with_reducible refine gate_callee (f := 62) rfl ?_); refine goesL_ (some 68) rfl rfl Try.func62 pL rfl #[.pointer (some ⟨g, 0, none⟩), .int .i64 2] rfl pM ?_; (with_reducible refine (spec_l6Rd_pick.calls kj6 g s0_0 t311 2 t312 t313 w0 _ ?side1 ?side2 A30.out).mono ?_); (case side1 => repeat (first | (with_reducible first | exact HI0.out | apply IsS85.alloc | apply IsS85.drewN | apply IsS85.drew | apply IsS85.set_1) | exact HI0.out)); (case side2 => repeat (first | (with_reducible first | exact HB.out | apply below_alloc | apply pw_below_drewN | apply below_drew1 | refine below_set ?_ (IsS85.ge HI0.out)) | exact HB.out)); rintro e w35 ⟨rfl, hi, hb, hk⟩; refine ⟨_, rfl, ?_⟩; have n0_ := Aside0.mk (Kd.R_mono (Kd.R_keep (IsS85.apart (show IsS85 w0 _ g s0_0 t311 from by repeat (first | (with_reducible first | exact HI0.out | apply IsS85.alloc | apply IsS85.drewN | apply IsS85.drew | apply IsS85.set_1) | exact HI0.out)) (pR HO_5) (by decide)) hk (fun _ h => h.2)) (fun _ h => h.1)); have n1_ := Aside0.mk (KeepBut.trans pK hk (.inl rfl)); have n2_ := Aside0.mk (hb); have n3_ := Aside0.mk (hi); clear HO_5; clear HK; clear HB; clear HI0; have HO_5 := n0_; have HK := n1_; have HB := n2_; have HI0 := n3_; clear n0_ n1_ n2_ n3_; (try clear hb); (try clear hb2); (try clear hk); (try clear hi); have p32 : 0 ≤ (0 : Int) := (by omega); have q32 : (0 : Int) < ((x5_1.length : Int) : Int) := of_decide_eq_true pA; have qi32 : (0 < x5_1.length) = True := eq_true (by omega); obtain ⟨go32, co32, eo32, gb32, gl32, cl32, HG32⟩ := Kd.R_form HO_5.out (by omega); (first | cases eo32 | (injection eo32 with ea_ en_ ec_; (first | subst ea_ | (injection ea_ with ea_; subst ea_)); subst ec_; clear en_)); have GB32 := Aside0.mk gb32; have GG32 := Aside0.mk HG32; clear gb32 gl32 HG32; obtain ⟨ce32, hcl32, hM32, hcc32, hfr32⟩ := Kd.R_elem HO_5.out z41 (0 : Int) p32 q32; obtain rfl := k41_openM hM32; have hx32_0 : w35.cell? ⟨go32, (0 : Int).toNat * 4, none⟩ = some (.int .i64 ((rd_T41 x5_1 0).f0)) := hcc32 0 _ rfl; have hx32_1 : w35.cell? ⟨go32, (0 : Int).toNat * 4 + 1, none⟩ = some (.int .i64 ((rd_T41 x5_1 0).f1)) := hcc32 1 _ rfl; have hx32_2 : w35.cell? ⟨go32, (0 : Int).toNat * 4 + 2, none⟩ = some (.int .i64 ((rd_T41 x5_1 0).f2)) := hcc32 2 _ rfl; have hx32_3 : w35.cell? ⟨go32, (0 : Int).toNat * 4 + 3, none⟩ = some (.int .i64 ((rd_T41 x5_1 0).f3)) := hcc32 3 _ rfl; have hf32_0 : w35.frozen? ⟨go32, (0 : Int).toNat * 4, none⟩ = false := hfr32 0; have hf32_1 : w35.frozen? ⟨go32, (0 : Int).toNat * 4 + 1, none⟩ = false := hfr32 1; have hf32_2 : w35.frozen? ⟨go32, (0 : Int).toNat * 4 + 2, none⟩ = false := hfr32 2; have hf32_3 : w35.frozen? ⟨go32, (0 : Int).toNat * 4 + 3, none⟩ = false := hfr32 3; clear hcl32 hcc32 hfr32 hM32; (try rw [show ((0 : Int)).toNat = 0 from rfl] at hx32_0); (try simp only [Nat.reduceMul, Nat.zero_mul, Nat.zero_add, Nat.reduceAdd] at hx32_0); (try rw [show ((0 : Int)).toNat = 0 from rfl] at hf32_0); (try simp only [Nat.reduceMul, Nat.zero_mul, Nat.zero_add, Nat.reduceAdd] at hf32_0); (try rw [show ((0 : Int)).toNat = 0 from rfl] at hx32_1); (try simp only [Nat.reduceMul, Nat.zero_mul, Nat.zero_add, Nat.reduceAdd] at hx32_1); (try rw [show ((0 : Int)).toNat = 0 from rfl] at hf32_1); (try simp only [Nat.reduceMul, Nat.zero_mul, Nat.zero_add, Nat.reduceAdd] at hf32_1); (try rw [show ((0 : Int)).toNat = 0 from rfl] at hx32_2); (try simp only [Nat.reduceMul, Nat.zero_mul, Nat.zero_add, Nat.reduceAdd] at hx32_2); (try rw [show ((0 : Int)).toNat = 0 from rfl] at hf32_2); (try simp only [Nat.reduceMul, Nat.zero_mul, Nat.zero_add, Nat.reduceAdd] at hf32_2); (try rw [show ((0 : Int)).toNat = 0 from rfl] at hx32_3); (try simp only [Nat.reduceMul, Nat.zero_mul, Nat.zero_add, Nat.reduceAdd] at hx32_3); (try rw [show ((0 : Int)).toNat = 0 from rfl] at hf32_3); (try simp only [Nat.reduceMul, Nat.zero_mul, Nat.zero_add, Nat.reduceAdd] at hf32_3); replace p32 := eq_true p32; replace q32 := eq_true q32; have HX36 := Aside0.mk (show Kd.R k41 41 w35 w.heap.size (fun _ => True) (.slice (some ⟨go32, 0, none⟩) x5_1.length co33) x5_1 from (pR HO_5)); obtain ⟨ce36, hcl36, hM36, hcc36, hfr36⟩ := Kd.R_elem HX36.out z41 (0 : Int) (by omega) (by have h_ : (0 : Int) < ((x5_1.length : Int) : Int) := of_decide_eq_true pA; first | exact h_ | (have e_ := (Kd.R_reads' HO_5.out).1; omega) | simpa using h_); obtain rfl := k41_openM hM36; have HP36 := Kd.R_seg HX36.out (0 : Int) (by omega) (by have h_ : (0 : Int) < ((x5_1.length : Int) : Int) := of_decide_eq_true pA; first | exact h_ | (have e_ := (Kd.R_reads' HO_5.out).1; omega) | simpa using h_) (seg := [.int .i64 (wrap64 (t312 * 10))]) (j := 2) hcl36 hcc36 (show 3 ≤ 4 from by decide) (x' := (⟨(rd_T41 x5_1 0).f0, (rd_T41 x5_1 0).f1, wrap64 (t312 * 10), (rd_T41 x5_1 0).f3⟩ : S41)) (k41_mkM _ _ _ (⟨(rd_T41 x5_1 0).f0, (rd_T41 x5_1 0).f1, wrap64 (t312 * 10), (rd_T41 x5_1 0).f3⟩ : S41) ) (fun _ hk => hk); have hx36_2 := hcc36 2 _ rfl; (try simp only [show (k41).sz = 4 from rfl, Nat.mul_one, Nat.add_zero] at hx36_2); (try rw [show ((0 : Int)).toNat = 0 from rfl] at hx36_2); (try simp only [Nat.reduceMul, Nat.zero_mul, Nat.zero_add, Nat.reduceAdd] at hx36_2); have hf36_2 := hfr36 2; (try simp only [show (k41).sz = 4 from rfl, Nat.mul_one, Nat.add_zero] at hf36_2); (try rw [show ((0 : Int)).toNat = 0 from rfl] at hf36_2); (try simp only [Nat.reduceMul, Nat.zero_mul, Nat.zero_add, Nat.reduceAdd] at hf36_2); clear hcl36 hcc36 hfr36 hM36) | ((with_reducible refine gate_store (t := 3) (p := 71) rfl ?_); refine store_event (t := 3) (p := 71) (v := ?vo_w37) (w1 := (w35.setCell ⟨go32, 2, none⟩ (.int .i64 (wrap64 (t312 * 10))))) ?hg ?ho ?hn ?hr ?_; (case ho => rfl); (case hg => rfl); (case hn => rfl); (case hr => first | (go_simp; done) | (go_simp; rfl)); intro w37 hw; have hg : w35.grownBy w37 (some go32) := (by rw [hw]; exact HP36.2); have hp_ : Kd.R k41 41 w37 w.heap.size (fun _ => True) (.slice (some ⟨go32, 0, none⟩) x5_1.length co33) y314 := (by rw [hw, Ny314.out]; exact HP36.1); clear HP36; have n0_ := Aside0.mk (hp_); have n1_ := Aside0.mk (IsS85.grown (by repeat (first | (with_reducible first | exact HI0.out | apply IsS85.alloc | apply IsS85.drewN | apply IsS85.drew | apply IsS85.set_1) | exact HI0.out)) hg (IsS85.own_ne HI0.out HO_5.out (by decide))); have n2_ := Aside0.mk ((by rw [hw]; exact below_set (HB.out) (Nat.le_trans HL.out GB32.out) : Below w0.heap.size w0 w37)); have n3_ := Aside0.mk (KeepBut.trans pK (KeepBut.of_grown hg g) (Kd.R_base2 HO_5.out)); clear HO_5; clear HI0; clear HB; clear HK; have HO_5 := n0_; have HI0 := n1_; have HB := n2_; have HK := n3_; clear n0_ n1_ n2_ n3_; clear hg hw hp_))
         go_ret
         exact ⟨_, pE, pR HO_5, by repeat (first | (with_reducible first | exact HI0.out | apply IsS85.alloc | apply IsS85.drewN | apply IsS85.drew | apply IsS85.set_1) | exact HI0.out), by repeat (first | (with_reducible first | exact HB.out | apply below_alloc | apply pw_below_drewN | apply below_drew1 | refine below_set ?_ (IsS85.ge HI0.out)) | exact HB.out), pK⟩
        ·rw [if_neg c31] at H
         exact absurd H (by simp)
       ·rw [if_neg c29] at H
        have c29b0 : (t310 == 0) = false := beq_eq_false_iff_ne.mpr c29
        have c29b1 : (t310 != 0) = true := bne_iff_ne.mpr c29
        simp only [Option.some.injEq, Prod.mk.injEq] at H
        obtain ⟨rfl, rfl⟩ := H
        obtain ⟨Ao38, co38, eo38⟩ := Kd.R_slice HO_5.out
        subst eo38
        go_wp2_with (first | (go_at_call 62; (with_reducible refine (spec_l6Rd_pick.calls kj6 g s0_0 x1001_1 24 t310 t311 w0 _ ?side1 ?side2 A28.out).mono ?_); (case side1 => repeat (first | (with_reducible first | exact HI0.out | apply IsS85.alloc | apply IsS85.drewN | apply IsS85.drew | apply IsS85.set_1) | exact HI0.out)); (case side2 => repeat (first | (with_reducible first | exact HB.out | apply below_alloc | apply pw_below_drewN | apply below_drew1 | refine below_set ?_ (IsS85.ge HI0.out)) | exact HB.out)); rintro e w39 ⟨rfl, hi, hb, hk⟩; have n0_ := Aside0.mk (Kd.R_mono (Kd.R_keep (IsS85.apart (show IsS85 w0 _ g s0_0 x1001_1 from by repeat (first | (with_reducible first | exact HI0.out | apply IsS85.alloc | apply IsS85.drewN | apply IsS85.drew | apply IsS85.set_1) | exact HI0.out)) (pR HO_5) (by decide)) hk (fun _ h => h.2)) (fun _ h => h.1)); have n1_ := Aside0.mk (KeepBut.trans pK hk (.inl rfl)); have n2_ := Aside0.mk (hb); have n3_ := Aside0.mk (hi); clear HO_5; clear HK; clear HB; clear HI0; have HO_5 := n0_; have HK := n1_; have HB := n2_; have HI0 := n3_; clear n0_ n1_ n2_ n3_; (try clear hb); (try clear hb2); (try clear hk); (try clear hi)))
        go_ret
        exact ⟨_, pE, pR HO_5, by repeat (first | (with_reducible first | exact HI0.out | apply IsS85.alloc | apply IsS85.drewN | apply IsS85.drew | apply IsS85.set_1) | exact HI0.out), by repeat (first | (with_reducible first | exact HB.out | apply below_alloc | apply pw_below_drewN | apply below_drew1 | refine below_set ?_ (IsS85.ge HI0.out)) | exact HB.out), pK⟩
      ·rw [if_neg c27] at H
       have c27b0 : decide (0 < (x5_1.length : Int)) = false := decide_eq_false c27
       have c27b1 : decide (0 < x5_1.length) = false := decide_eq_false (by omega)
       clear c27
       simp only [Option.some.injEq, Prod.mk.injEq] at H
       obtain ⟨rfl, rfl⟩ := H
       obtain ⟨Ao40, co40, eo40⟩ := Kd.R_slice HO_5.out
       subst eo40
       go_wp2
       go_ret
       exact ⟨_, pE, pR HO_5, by repeat (first | (with_reducible first | exact HI0.out | apply IsS85.alloc | apply IsS85.drewN | apply IsS85.drew | apply IsS85.set_1) | exact HI0.out), by repeat (first | (with_reducible first | exact HB.out | apply below_alloc | apply pw_below_drewN | apply below_drew1 | refine below_set ?_ (IsS85.ge HI0.out)) | exact HB.out), pK⟩

end Go.Proofs.Ytglddjbcaknnaaa.Q
