-- Written by the kit's print.py for all laws of the seat at once (one namespace), by a program of this session.
import Derived.Test.YtglddjbcaknnaaaQx0
import Derived.Test.YtglddjbcaknnaaaQx4
import Derived.Test.YtglddjbcaknnaaaQx14
namespace Go.Proofs.Ytglddjbcaknnaaa.Q
open Go.RowKit Go.Proofs.YtglddjbcaknnaaaW.PrintWords Go.Proofs.YtglddjbcaknnaaaW.PrintLast Go.Proofs.YtglddjbcaknnaaaW.PrintMore
attribute [local go_sem] max2_int min2_int max_two min_two max_three min_three max_four min_four   -- for this text's walks alone
set_option linter.unusedVariables false
set_option linter.unusedSimpArgs false

/-! ### slices_Clone_int_int: function 63 -/
-- by hand
def slices_Clone_int_int.f (l0 : List Int) : Option (List Int) := if l0.length < 17592186044416 then some l0 else none
theorem slices_Clone_int_int.infoI : (Try.prog.info? 3).map (fun i => (i.zero, i.size, i.bytes)) = some (some (.int .i64 0), 1, 8) := by kernel_rfl
set_option maxHeartbeats 4000000 in
set_option maxRecDepth 100000 in
theorem slices_Clone_int_int.calls (A0 : Option Addr) (c0 : Nat) (l0 : List Int) (r : List Int) (w : World) (hr0 : Kd.C (Kd.int .i64) w A0 l0.length l0) (hc0 : l0.length ≤ c0) (h : slices_Clone_int_int.f l0 = some r) :
    Calls Try.prog 63 #[.slice A0 l0.length c0] w fun e w' => ∃ v0_ : Value, e = .returned (v0_) ∧ Kd.R (Kd.int .i64) 3 w' w.heap.size (fun _ => True) v0_ r ∧ Below w.heap.size w w' := by
  unfold slices_Clone_int_int.f at h
  by_cases hl : l0.length < 17592186044416
  · rw [if_pos hl] at h
    obtain rfl := Option.some.inj h
    have HL := Aside0.mk hl
    have HR0 := Aside0.mk hr0
    have HC0 := Aside0.mk hc0
    have HB := Aside0.mk (Below.refl w.heap.size w)
    clear hc0 hl h
    cases A0 with
    | none =>
      have e : l0 = [] := by
        rcases Nat.eq_zero_or_pos l0.length with e | e
        · exact List.eq_nil_of_length_eq_zero e
        · obtain ⟨ad, e, _⟩ := hr0.2.2 e
          cases e
      clear hr0
      subst e
      have hq : ∀ (w : World) (n c : Nat), (binOp .eql 23 (.slice none n c) (.slice none 0 0)).run Try.prog w = .ok (.bool true) w := fun w n c => by kernel_rfl
      go_enter Try.func63, Try.ntmps63
      go_wp2
      go_ret
      exact ⟨_, rfl, Kd.R_nil _ _ _ _ _, HB.out⟩
    | some ad =>
      clear hr0
      have hq : ∀ (w : World) (n c : Nat), (binOp .eql 23 (.slice (some ad) n c) (.slice none 0 0)).run Try.prog w = .ok (.bool false) w := fun w n c => by kernel_rfl
      go_enter Try.func63, Try.ntmps63
      go_wp2_with (first | ((with_reducible refine gate_dst (N := 5) rfl ?_); refine Kd.R_lit (Kd.int .i64) _ 3 ?hg (N := 5) ?hd (xs := ([] : List Int)) (inner := []) (ok := fun _ => True) (okp := fun _ => True) ?hr ?hp (fun _ hk => hk) trivial (Below.refl _ _) (Nat.le_refl _) (by simp) ?_; (case hd => rfl); (case hg => rfl); (case hr => first | (go_simp; done) | (go_simp; rfl)); (case hp => exact (Reps.none _ _)); intro v1 w1 ho1 hb hg_ hnew_; clear hg_ hnew_; have n0_ := Aside0.mk (Kd.R_lower ho1 (below_size HB.out)); have n1_ := Aside0.mk (below_step HB.out hb); clear HB; have HO1 := n0_; have HB := n1_; clear n0_ n1_; clear hb ho1) | ((with_reducible refine gate_builtin (b := .append) (xs := #[.tmp 5, .tmp 6]) rfl ?_); at_builtin; refine Kd.R_append_row (Value.int .i64) (0 : Int) (h1 := fun _ => rfl) (w0 := w) w.heap.size rfl (.tmp 5) (.tmp 6) 23 3 (.int .i64 0) 8 rfl Try.underlying23 slices_Clone_int_int.infoI rfl (by decide) v1 ([] : List Int) l0 (some ad) l0.length c0 (fun _ => True) rfl rfl (fun _ _ => trivial) HO1.out (Kd.C_below HR0.out HB.out) HB.out HB.out.size (by have := HL.out; simp only [List.length_nil]; omega) ?_; intro v2 w2 ho hb hg hat; have HO2 := Aside0.mk ho; have HB2 := Aside0.mk hb; clear ho hb hg hat))
      go_ret
      exact ⟨_, rfl, HO2.out, HB2.out⟩
  · rw [if_neg hl] at h
    cases h

/-! ### slices_Index_int_int: function 79 -/
def slices_Index_int_int.l0 : Nat → List Int → Int → Int → Int → Option (Int)
 | 0, _, _, _, _ => none
 | k + 1, x0, x1, x7, x8 => if x8 < x7 then (if 0 ≤ x8 then (if x8 < (x0.length : Int) then (if x1 = (rd x0 x8) then (some x8) else (slices_Index_int_int.l0 k x0 x1 x7 (wrap64 (x8 + 1)))) else (none)) else (none)) else (some (-1))
def slices_Index_int_int.f (k : Nat) (l0 : List Int) (a1 : Int) : Option (Int) := slices_Index_int_int.l0 k l0 a1 (l0.length : Int) 0
theorem slices_Index_int_int.mono_l : ∀ k, (∀ y0 y1 y2 y3, LeO (slices_Index_int_int.l0 k y0 y1 y2 y3) (slices_Index_int_int.l0 (k + 1) y0 y1 y2 y3))
 | 0 => fun _ _ _ _ r h => by simp [slices_Index_int_int.l0] at h
 | k + 1 => by
  have ih0 := slices_Index_int_int.mono_l k
  ·intro y0 y1 y2 y3
   unfold slices_Index_int_int.l0
   repeat' first
   | (with_reducible exact ih0 _ _ _ _)
   | (with_reducible exact LeO.refl _)
   | (with_reducible exact LeO.none _)
   | (with_reducible refine LeO.ite ?_ ?_)
   | (with_reducible refine LeO.bind ?_ (fun _ => ?_))
   | exact ih0 _ _ _ _
   | exact LeO.none _
   | refine LeO.ite ?_ ?_
   | refine LeO.bind ?_ (fun _ => ?_)
theorem slices_Index_int_int.mono : ∀ a0 a1 k, LeO (slices_Index_int_int.f k a0 a1) (slices_Index_int_int.f (k + 1) a0 a1) := by
 intro a0 a1 k
 have ih0 := slices_Index_int_int.mono_l k
 unfold slices_Index_int_int.f
 repeat' first
   | (with_reducible exact ih0 _ _ _ _)
   | (with_reducible exact LeO.refl _)
   | (with_reducible exact LeO.none _)
   | (with_reducible refine LeO.ite ?_ ?_)
   | (with_reducible refine LeO.bind ?_ (fun _ => ?_))
   | exact ih0 _ _ _ _
   | exact LeO.none _
   | refine LeO.ite ?_ ?_
   | refine LeO.bind ?_ (fun _ => ?_)
set_option maxHeartbeats 8000000 in
set_option maxRecDepth 100000 in
theorem slices_Index_int_int.calls (k : Nat) (A0 : Option Addr) (c0 : Nat) (l0 : List Int) (a1 : Int) (r : Int) (w : World) (hr0 : Kd.C (Kd.int .i64) w A0 l0.length l0) (hc0 : l0.length ≤ c0) (h : slices_Index_int_int.f k l0 a1 = some r) :
  Calls Try.prog 79 #[.slice A0 l0.length c0, .int .i64 a1] w fun e w' => e = .returned (.int .i64 r) ∧ Drawn0 w w' := by
 have HR0 := Aside0.mk hr0
 have HC0 := Aside0.mk hc0
 clear hr0 hc0
 have H : (slices_Index_int_int.l0 k l0 a1 (l0.length : Int) 0) = some r := h
 clear h
 have H' := Aside0.mk H
 clear H
 go_enter Try.func79, Try.ntmps79
 go_wp2
 go_loopg [8] k (fun kq v8 w' => ∃ (x8_1 : Int), v8 = .int .i64 x8_1 ∧ Aside0 (slices_Index_int_int.l0 kq l0 a1 (l0.length : Int) x8_1 = some r) ∧ Aside0 (kq ≤ k) ∧ Drawn0 w w')
 case atStart => exact ⟨(0), pF, H', ⟨Nat.le_refl _⟩, by repeat (first | exact Drawn0.refl _ | apply Drawn0.step)⟩
 case round =>
  clear H'
  try clear p2
  obtain ⟨x8_1, rfl, HA, HK1, ⟨m1, rfl⟩⟩ := hrel
  cases gk with
  | zero => exact absurd HA.out (by simp [slices_Index_int_int.l0])
  | succ k1 =>
   have H := HA.out
   clear HA
   simp only [slices_Index_int_int.l0] at H
   by_cases c3 : x8_1 < (l0.length : Int)
   ·rw [if_pos c3] at H
    have c3b0 : decide (x8_1 < (l0.length : Int)) = true := decide_eq_true c3
    clear c3
    by_cases c4 : 0 ≤ x8_1
    ·rw [if_pos c4] at H
     have c4b0 : decide (0 ≤ x8_1) = true := decide_eq_true c4
     clear c4
     by_cases c5 : x8_1 < (l0.length : Int)
     ·rw [if_pos c5] at H
      have c5b0 : decide (x8_1 < (l0.length : Int)) = true := decide_eq_true c5
      clear c5
      by_cases c6 : a1 = (rd l0 x8_1)
      ·rw [if_pos c6] at H
       have c6b0 : (a1 == (rd l0 x8_1)) = true := beq_iff_eq.mpr c6
       have c6b1 : (a1 != (rd l0 x8_1)) = false := bne_eq_false_iff_eq.mpr c6
       clear c6
       obtain rfl := Option.some.inj H
       have p579 : 0 ≤ (x8_1 : Int) := of_decide_eq_true pA
       have q579 : x8_1 < (l0.length : Int) := of_decide_eq_true pA
       obtain ⟨ad579, e579, hx579_0⟩ := Kd.at_int HR0.out x8_1 p579 q579
       cases e579
       replace p579 := eq_true p579
       replace q579 := eq_true q579
       go_wp2
       go_ret
       exact ⟨pF, by repeat (first | exact Drawn0.refl _ | apply Drawn0.step)⟩
      ·rw [if_neg c6] at H
       have c6b0 : (a1 == (rd l0 x8_1)) = false := beq_eq_false_iff_ne.mpr c6
       have c6b1 : (a1 != (rd l0 x8_1)) = true := bne_iff_ne.mpr c6
       have H' := Aside0.mk H
       clear H
       have p579 : 0 ≤ (x8_1 : Int) := of_decide_eq_true pA
       have q579 : x8_1 < (l0.length : Int) := of_decide_eq_true pA
       obtain ⟨ad579, e579, hx579_0⟩ := Kd.at_int HR0.out x8_1 p579 q579
       cases e579
       replace p579 := eq_true p579
       replace q579 := eq_true q579
       go_wp2
       go_roundg k1
       case measure => have := HK1.out; omega
       case rel => exact ⟨(wrap64 (x8_1 + 1)), pF, H', ⟨by have := HK1.out; omega⟩, by repeat (first | exact Drawn0.refl _ | apply Drawn0.step)⟩
     ·rw [if_neg c5] at H
      exact absurd H (by simp)
    ·rw [if_neg c4] at H
     exact absurd H (by simp)
   ·rw [if_neg c3] at H
    have c3b0 : decide (x8_1 < (l0.length : Int)) = false := decide_eq_false c3
    clear c3
    obtain rfl := Option.some.inj H
    go_wp2
    go_ret
    exact ⟨pF, by repeat (first | exact Drawn0.refl _ | apply Drawn0.step)⟩

/-! ### slices_Contains_int_int: function 64 -/
def slices_Contains_int_int.f (k : Nat) (l0 : List Int) (a1 : Int) : Option (Bool) := (slices_Index_int_int.f k l0 a1).bind fun t580 => (some (decide (t580 ≥ 0)))
theorem slices_Contains_int_int.mono : ∀ a0 a1 k, LeO (slices_Contains_int_int.f k a0 a1) (slices_Contains_int_int.f (k + 1) a0 a1) := by
 intro a0 a1 k
 unfold slices_Contains_int_int.f
 repeat' first
   | (with_reducible exact slices_Index_int_int.mono _ _ _)
   | (with_reducible exact LeO.refl _)
   | (with_reducible exact LeO.none _)
   | (with_reducible refine LeO.ite ?_ ?_)
   | (with_reducible refine LeO.bind ?_ (fun _ => ?_))
   | exact slices_Index_int_int.mono _ _ _
   | exact LeO.none _
   | refine LeO.ite ?_ ?_
   | refine LeO.bind ?_ (fun _ => ?_)
set_option maxHeartbeats 8000000 in
set_option maxRecDepth 100000 in
theorem slices_Contains_int_int.calls (k : Nat) (A0 : Option Addr) (c0 : Nat) (l0 : List Int) (a1 : Int) (r : Bool) (w : World) (hr0 : Kd.C (Kd.int .i64) w A0 l0.length l0) (hc0 : l0.length ≤ c0) (h : slices_Contains_int_int.f k l0 a1 = some r) :
  Calls Try.prog 64 #[.slice A0 l0.length c0, .int .i64 a1] w fun e w' => e = .returned (.bool r) ∧ Drawn0 w w' := by
 have HR0 := Aside0.mk hr0
 have HC0 := Aside0.mk hc0
 clear hr0 hc0
 have H : ((slices_Index_int_int.f k l0 a1).bind fun t580 => (some (decide (t580 ≥ 0)))) = some r := h
 clear h
 replace H := Option.bind_eq_some_iff.mp H
 obtain ⟨t580, A30, H⟩ := H
 replace H : (some (decide (t580 ≥ 0))) = some r := H
 have A3 := Aside0.mk A30
 clear A30
 obtain rfl := Option.some.inj H
 go_enter Try.func64, Try.ntmps64
 go_wp2_with (first | ((with_reducible refine gate_callee (f := 79) rfl ?_); refine goesL_ (some 7) rfl rfl Try.func79 pL rfl #[.slice A0 l0.length c0, .int .i64 a1] rfl pM ?_; (with_reducible refine (slices_Index_int_int.calls k _ _ l0 a1 t580 _ ?side1 ?side2 A3.out).mono ?_); (case side1 => exact pS (HR0.out)); (case side2 => exact HC0.out); rintro e w' ⟨rfl, ⟨nd, rfl⟩⟩; refine ⟨_, rfl, ?_⟩))
 go_ret
 exact ⟨pF, by repeat (first | exact Drawn0.refl _ | apply Drawn0.step)⟩

/-! ### impl_roundedUp: function 67 -/
def impl_roundedUp.f (a0 : Int) (a1 : Int) : Option (Int) := if a1 = 0 then (none) else (some (wrap64 (Int.tdiv (wrap64 ((wrap64 (a0 + a1)) - 1)) a1)))
set_option maxHeartbeats 8000000 in
set_option maxRecDepth 100000 in
theorem impl_roundedUp.calls (a0 : Int) (a1 : Int) (r : Int) (w : World) (h : impl_roundedUp.f a0 a1 = some r) :
  Calls Try.prog 67 #[.int .i64 a0, .int .i64 a1] w fun e w' => e = .returned (.int .i64 r) ∧ Drawn0 w w' := by
 have H : (if a1 = 0 then (none) else (some (wrap64 (Int.tdiv (wrap64 ((wrap64 (a0 + a1)) - 1)) a1)))) = some r := h
 clear h
 by_cases c3 : a1 = 0
 ·rw [if_pos c3] at H
  exact absurd H (by simp)
 ·rw [if_neg c3] at H
  have c3b0 : (a1 == 0) = false := beq_eq_false_iff_ne.mpr c3
  have c3b1 : (a1 != 0) = true := bne_iff_ne.mpr c3
  obtain rfl := Option.some.inj H
  go_enter Try.func67, Try.ntmps67
  go_wp2
  go_ret
  exact ⟨pF, by repeat (first | exact Drawn0.refl _ | apply Drawn0.step)⟩

/-! ### impl_SwapNeeds: function 41 -/
-- by hand
def impl_SwapNeeds.has (m : List Int) (x : Int) : Bool := m.any (· == x)
def impl_SwapNeeds.pick (m : List Int) (id : Int) (s : S41) : Bool := s.f0 == id && !(impl_SwapNeeds.has m s.f1)
/-- what food n's turn makes of the needs: none: not reached; some none: it has no rule -/
def impl_SwapNeeds.step (l0 : List S41) (l1 : List S62) (l2 l3 : List Int) (n : Nat) (o : List Int) : Option (Option (List Int)) :=
  if l2.getD n 0 = 0 then some (some o)
  else if impl_SwapNeeds.has l3 (l1.getD n z62).f0 = true then
    (if idxOf (impl_SwapNeeds.pick l3 (l1.getD n z62).f0) l0 < 0 then some none
     else if 0 ≤ idxOf (fun x => x.f0 == (l0.getD (idxOf (impl_SwapNeeds.pick l3 (l1.getD n z62).f0) l0).toNat z41).f1) l1 ∧ idxOf (fun x => x.f0 == (l0.getD (idxOf (impl_SwapNeeds.pick l3 (l1.getD n z62).f0) l0).toNat z41).f1) l1 < (o.length : Int) then
       (impl_roundedUp.f (wrap64 (l2.getD n 0 * (l0.getD (idxOf (impl_SwapNeeds.pick l3 (l1.getD n z62).f0) l0).toNat z41).f2)) (l0.getD (idxOf (impl_SwapNeeds.pick l3 (l1.getD n z62).f0) l0).toNat z41).f3).bind fun u =>
         some (some ((o.set n 0).set (idxOf (fun x => x.f0 == (l0.getD (idxOf (impl_SwapNeeds.pick l3 (l1.getD n z62).f0) l0).toNat z41).f1) l1).toNat (wrap64 ((o.set n 0).getD (idxOf (fun x => x.f0 == (l0.getD (idxOf (impl_SwapNeeds.pick l3 (l1.getD n z62).f0) l0).toNat z41).f1) l1).toNat 0 + u))))
     else none)
  else some (some o)
def impl_SwapNeeds.all (l0 : List S41) (l1 : List S62) (l2 l3 : List Int) : Nat → Option (Option (List Int))
  | 0 => some (some l2)
  | n + 1 => (impl_SwapNeeds.all l0 l1 l2 l3 n).bind fun o => match o with
    | none => some none
    | some o => impl_SwapNeeds.step l0 l1 l2 l3 n o
def impl_SwapNeeds.f (k : Nat) (l0 : List S41) (l1 : List S62) (l2 l3 : List Int) : Option (List Int × Bool) := (impl_SwapsValid.f k l0 l1).bind fun t => if t = true then ((impl_needsValid.f k l1 l2).bind fun t => if t = true then (if l2.length < 17592186044416 ∧ l2.length = l1.length then ((impl_SwapNeeds.all l0 l1 l2 l3 l1.length).bind fun o => match o with
    | none => some ([], false)
    | some o => (impl_needsValid.f k l1 o).bind fun t => if t = true then some (o, true) else some ([], false)) else none) else some ([], false)) else some ([], false)
theorem impl_SwapNeeds.mono : ∀ a0 a1 a2 a3 k, LeO (impl_SwapNeeds.f k a0 a1 a2 a3) (impl_SwapNeeds.f (k + 1) a0 a1 a2 a3) := by
  intro a0 a1 a2 a3 k
  unfold impl_SwapNeeds.f
  refine LeO.bind (impl_SwapsValid.mono _ _ _) fun t => LeO.ite (LeO.bind (impl_needsValid.mono _ _ _) fun t => LeO.ite (LeO.ite (LeO.bind (LeO.refl _) fun o => ?_) (LeO.refl _)) (LeO.refl _)) (LeO.refl _)
  cases o with
  | none => exact LeO.refl _
  | some o => exact LeO.bind (impl_needsValid.mono _ _ _) fun _ => LeO.refl _
theorem impl_SwapNeeds.keepB {w9 W W' : World} (h : Aside0 (Below w9.heap.size w9 W)) (hb : Below W.heap.size W W') : Aside0 (Below w9.heap.size w9 W') := ⟨Below.trans h.out (hb.mono h.out.size)⟩
theorem impl_SwapNeeds.keepN {w9 W : World} (h : Aside0 (Below w9.heap.size w9 W)) (n : Nat) : Aside0 (Below w9.heap.size w9 (W.drewN n)) := ⟨pw_below_drewN h.out n⟩
theorem impl_SwapNeeds.keepD {w9 W : World} (h : Aside0 (Below w9.heap.size w9 W)) : Aside0 (Below w9.heap.size w9 W.drew) := ⟨below_drew1 h.out⟩
theorem impl_SwapNeeds.cellD {W : World} {a : Addr} {v : Value} (h : W.cell? a = some v) : W.drew.cell? a = some v := h
theorem impl_SwapNeeds.cellN {W : World} {a : Addr} {v : Value} (h : W.cell? a = some v) (n : Nat) : (W.drewN n).cell? a = some v := h
theorem impl_SwapNeeds.cellB {W W' : World} {a : Addr} {v : Value} (hb : Below W.heap.size W W') (h : W.cell? a = some v) : W'.cell? a = some v := (hb.cell (World.block_lt_of_cell? _ _ h)).trans h
theorem impl_SwapNeeds.frzD {W : World} {a : Addr} (h : W.frozen? a = false) : W.drew.frozen? a = false := h
theorem impl_SwapNeeds.frzN {W : World} {a : Addr} (h : W.frozen? a = false) (n : Nat) : (W.drewN n).frozen? a = false := h
theorem impl_SwapNeeds.frzB {W W' : World} {a : Addr} {v : Value} (hb : Below W.heap.size W W') (hc : W.cell? a = some v) (h : W.frozen? a = false) : W'.frozen? a = false := by
  have e := hb.block a.block (World.block_lt_of_cell? _ _ hc)
  unfold World.frozen? at h ⊢
  rw [e]; exact h
theorem impl_SwapNeeds.keepX {w W W' : World} (h : Aside0 (Below w.heap.size w W)) (hb : Below W.heap.size W W') : Aside0 (Below w.heap.size w W') := ⟨below_step h.out hb⟩
theorem impl_SwapNeeds.keepS {w W : World} {g j : Nat} {v : Value} (h : Aside0 (Below w.heap.size w W)) (hg : Aside0 (w.heap.size ≤ g)) : Aside0 (Below w.heap.size w (W.setCell ⟨g, j, none⟩ v)) := ⟨below_set h.out hg.out⟩
theorem impl_SwapNeeds.index_has (l : List Int) (x : Int) (hl : l.length ≤ 9223372036854775807) : ∃ k r, slices_Index_int_int.f k l x = some r ∧ decide (r ≥ 0) = impl_SwapNeeds.has l x := by
  have key : ∀ d i : Nat, i + d = l.length → (∀ j, j < i → l.getD j 0 ≠ x) → ∃ k r, slices_Index_int_int.l0 k l x (l.length : Int) (i : Int) = some r ∧ decide (r ≥ 0) = impl_SwapNeeds.has l x := by
    intro d
    induction d with
    | zero =>
      intro i hi h
      refine ⟨1, -1, by simp only [slices_Index_int_int.l0]; rw [if_neg (by omega)], ?_⟩
      rw [decide_eq_false (by omega)]
      symm
      unfold impl_SwapNeeds.has
      rw [List.any_eq_false]
      intro y hy e
      obtain ⟨j, hj, rfl⟩ := List.mem_iff_getElem.1 hy
      refine h j (by omega) ?_
      rw [List.getD_eq_getElem?_getD, List.getElem?_eq_getElem hj]
      simpa using e
    | succ d ih =>
      intro i hi h
      have hil : i < l.length := by omega
      by_cases e : x = l.getD i 0
      · refine ⟨1, (i : Int), ?_, ?_⟩
        · simp only [slices_Index_int_int.l0]
          rw [if_pos (by omega), if_pos (by omega), if_pos (by omega), if_pos (show x = rd l (i : Int) from e)]
        · rw [decide_eq_true (by omega)]
          symm
          unfold impl_SwapNeeds.has
          rw [List.any_eq_true]
          refine ⟨l[i], List.getElem_mem hil, ?_⟩
          rw [e, List.getD_eq_getElem?_getD, List.getElem?_eq_getElem hil]
          simp
      · obtain ⟨k, r, h1, h2⟩ := ih (i + 1) (by omega) (fun j hj => by
          rcases Nat.lt_succ_iff_lt_or_eq.1 hj with h3 | rfl
          · exact h j h3
          · exact fun h' => e h'.symm)
        refine ⟨k + 1, r, ?_, h2⟩
        simp only [slices_Index_int_int.l0]
        rw [if_pos (by omega), if_pos (by omega), if_pos (by omega), if_neg (show ¬ x = rd l (i : Int) from e)]
        have ew : wrap64 ((i : Int) + 1) = ((i + 1 : Nat) : Int) := by unfold wrap64; omega
        rw [ew]; exact h1
  obtain ⟨k, r, h1, h2⟩ := key l.length 0 (by omega) (fun j hj => absurd hj (by omega))
  exact ⟨k, r, h1, h2⟩
theorem impl_SwapNeeds.contains_has (l : List Int) (x : Int) (hl : l.length ≤ 9223372036854775807) : ∃ k, slices_Contains_int_int.f k l x = some (impl_SwapNeeds.has l x) := by
  obtain ⟨k, r, h1, h2⟩ := impl_SwapNeeds.index_has l x hl
  refine ⟨k, ?_⟩
  unfold slices_Contains_int_int.f
  rw [h1, ← h2]; rfl
theorem impl_SwapNeeds.all_none (l0 : List S41) (l1 : List S62) (l2 l3 : List Int) (n : Nat) (h : impl_SwapNeeds.all l0 l1 l2 l3 n = none) : ∀ d, impl_SwapNeeds.all l0 l1 l2 l3 (n + d) = none
  | 0 => h
  | d + 1 => by rw [← Nat.add_assoc, impl_SwapNeeds.all, impl_SwapNeeds.all_none l0 l1 l2 l3 n h d]; rfl
theorem impl_SwapNeeds.all_fail (l0 : List S41) (l1 : List S62) (l2 l3 : List Int) (n : Nat) (h : impl_SwapNeeds.all l0 l1 l2 l3 n = some none) : ∀ d, impl_SwapNeeds.all l0 l1 l2 l3 (n + d) = some none
  | 0 => h
  | d + 1 => by rw [← Nat.add_assoc, impl_SwapNeeds.all, impl_SwapNeeds.all_fail l0 l1 l2 l3 n h d]; rfl
theorem impl_SwapNeeds.all_len (l0 : List S41) (l1 : List S62) (l2 l3 : List Int) : ∀ n o, impl_SwapNeeds.all l0 l1 l2 l3 n = some (some o) → o.length = l2.length
  | 0, o, h => by obtain rfl := Option.some.inj (Option.some.inj h); rfl
  | n + 1, o, h => by
    rw [impl_SwapNeeds.all] at h
    obtain ⟨o1, h1, h2⟩ := Option.bind_eq_some_iff.1 h
    cases o1 with
    | none => cases h2
    | some o1 =>
      have ih := impl_SwapNeeds.all_len l0 l1 l2 l3 n o1 h1
      simp only [impl_SwapNeeds.step] at h2
      split at h2
      · obtain rfl := Option.some.inj (Option.some.inj h2); exact ih
      · split at h2
        · split at h2
          · cases h2
          · split at h2
            · obtain ⟨u, _, h3⟩ := Option.bind_eq_some_iff.1 h2
              obtain rfl := Option.some.inj (Option.some.inj h3)
              simpa using ih
            · cases h2
        · obtain rfl := Option.some.inj (Option.some.inj h2); exact ih
set_option maxHeartbeats 4000000 in
set_option maxRecDepth 100000 in
theorem impl_SwapNeeds.lit (A3 : Option Addr) (c3 : Nat) (l3 : List Int) (x : S41) (id : Int) (F B : Nat) (W : World) (hf : W.cell? ⟨F, 0, none⟩ = some (.int .i64 id)) (hc : W.cell? ⟨B, 0, none⟩ = some (.slice A3 l3.length c3)) (hr3 : Kd.C (Kd.int .i64) W A3 l3.length l3) (hc3 : l3.length ≤ c3) :
    Calls Try.prog 66 #[.agg #[.int .i64 x.f0, .int .i64 x.f1, .int .i64 x.f2, .int .i64 x.f3], .pointer (some ⟨F, 0, none⟩), .pointer (some ⟨B, 0, none⟩)] W fun e w' => e = .returned (.bool (impl_SwapNeeds.pick l3 id x)) ∧ Below W.heap.size W w' := by
  have hu41 := Try.underlying41
  have hu62 := Try.underlying62
  have hb : B < W.heap.size := World.block_lt_of_cell? W ⟨B, 0, none⟩ hc
  have hb2 : F < W.heap.size := World.block_lt_of_cell? W ⟨F, 0, none⟩ hf
  have HR := Aside0.mk hr3
  have HC := Aside0.mk hc3
  have hn : l3.length ≤ 9223372036854775807 := hr3.2.1
  clear hr3 hc3
  obtain ⟨a0, a1, a2, a3⟩ := x
  unfold impl_SwapNeeds.pick
  simp only
  by_cases h1 : a0 = id
  · have c1b : (a0 == id) = true := beq_iff_eq.mpr h1
    rw [c1b, Bool.true_and]
    obtain ⟨k, hk⟩ := impl_SwapNeeds.contains_has l3 a1 hn
    have HK := Aside0.mk hk
    clear h1 hk
    generalize impl_SwapNeeds.has l3 a1 = v at HK
    go_enter Try.func66, Try.ntmps66
    go_wp2_with fail
    refine (slices_Contains_int_int.calls k A3 c3 l3 a1 v _ (Kd.C_below HR.out (below_alloc (Below.refl _ _) _)) HC.out HK.out).mono ?_
    rintro e w' ⟨rfl, ⟨nd, rfl⟩⟩
    go_wp2
    go_ret
    exact ⟨rfl, pw_below_drewN (below_alloc (Below.refl _ _) _) _⟩
  · have c1b : (a0 == id) = false := beq_eq_false_iff_ne.mpr h1
    rw [c1b, Bool.false_and]
    clear h1
    go_enter Try.func66, Try.ntmps66
    go_wp2
    go_ret
    exact ⟨rfl, below_alloc (Below.refl _ _) _⟩
theorem impl_SwapNeeds.enters : ∀ args w, (callFunc 66 args).run Try.prog w = .ok (.enter 66 args) w := by
  intro args w
  have h1 : Try.f66.name ≠ "runtime.NumGoroutine" := of_decide_eq_true pL
  have hb : ∃ c, Try.f66.body = some c := ⟨_, rfl⟩
  obtain ⟨c, hb⟩ := hb
  simp [callFunc, Try.func66, h1, hb, mark]
set_option maxHeartbeats 8000000 in
set_option maxRecDepth 100000 in
theorem impl_SwapNeeds.calls (k : Nat) (A0 : Option Addr) (c0 : Nat) (l0 : List (S41)) (A1 : Option Addr) (c1 : Nat) (l1 : List (S62)) (A2 : Option Addr) (c2 : Nat) (l2 : List Int) (A3 : Option Addr) (c3 : Nat) (l3 : List Int) (r1 : List Int) (r2 : Bool) (w : World) (hr0 : Kd.C k41 w A0 l0.length l0) (hc0 : l0.length ≤ c0) (hr1 : Kd.C k62 w A1 l1.length l1) (hc1 : l1.length ≤ c1) (hr2 : Kd.C (Kd.int .i64) w A2 l2.length l2) (hc2 : l2.length ≤ c2) (hr3 : Kd.C (Kd.int .i64) w A3 l3.length l3) (hc3 : l3.length ≤ c3) (h : impl_SwapNeeds.f k l0 l1 l2 l3 = some (r1, r2)) :
    Calls Try.prog 41 #[.slice A0 l0.length c0, .slice A1 l1.length c1, .slice A2 l2.length c2, .slice A3 l3.length c3] w fun e w' => ∃ v0_ : Value, e = .returned (.tuple #[v0_, .bool r2]) ∧ Kd.R (Kd.int .i64) 3 w' w.heap.size (fun _ => True) v0_ r1 ∧ Below w.heap.size w w' := by
  have hu41 := Try.underlying41
  have hu62 := Try.underlying62
  unfold impl_SwapNeeds.f at h
  obtain ⟨b, hb, h⟩ := Option.bind_eq_some_iff.1 h
  have HR0 := Aside0.mk hr0
  have HC0 := Aside0.mk hc0
  have HR1 := Aside0.mk hr1
  have HC1 := Aside0.mk hc1
  have HR2 := Aside0.mk hr2
  have HC2 := Aside0.mk hc2
  have HR3 := Aside0.mk hr3
  have HC3 := Aside0.mk hc3
  have hn1 : l1.length ≤ 9223372036854775807 := hr1.2.1
  have hn3 : l3.length ≤ 9223372036854775807 := hr3.2.1
  have HG := Aside0.mk hb
  clear hr0 hc0 hr1 hc1 hr2 hc2 hr3 hc3 hb
  have hB0 := below_alloc (Below.refl w.heap.size w) (.cells #[.slice A3 l3.length c3] 23)
  have HF := Aside0.mk (impl_SwapsValid.calls k A0 c0 l0 A1 c1 l1 b (w.alloc (.cells #[.slice A3 l3.length c3] 23)) (Kd.C_below HR0.out hB0) HC0.out (Kd.C_below HR1.out hB0) HC1.out HG.out)
  clear hB0
  cases b with
  | false =>
    obtain ⟨rfl, rfl⟩ : [] = r1 ∧ false = r2 := by simpa using h
    clear h
    go_enter Try.func41, Try.ntmps41
    go_wp2_with fail
    refine HF.out.mono ?_
    rintro e w' ⟨rfl, hb'⟩
    have HB1 := Aside0.mk (below_then (below_alloc (Below.refl _ _) _) (by simp) hb' : Below w.heap.size w w')
    clear hb'
    go_wp2
    go_ret2
    exact ⟨_, rfl, Kd.R_nil _ _ _ _ _, HB1.out⟩
  | true =>
    rw [if_pos rfl] at h
    obtain ⟨b, hb, h⟩ := Option.bind_eq_some_iff.1 h
    have HN := Aside0.mk hb
    clear hb
    cases b with
    | false =>
      obtain ⟨rfl, rfl⟩ : [] = r1 ∧ false = r2 := by simpa using h
      clear h
      go_enter Try.func41, Try.ntmps41
      go_wp2_with fail
      refine HF.out.mono ?_
      rintro e w' ⟨rfl, hb'⟩
      have HB1 := Aside0.mk (below_then (below_alloc (Below.refl _ _) _) (by simp) hb' : Below w.heap.size w w')
      clear hb'
      go_wp2_with fail
      refine (impl_needsValid.calls k A1 c1 l1 A2 c2 l2 false _ (Kd.C_below HR1.out HB1.out) HC1.out (Kd.C_below HR2.out HB1.out) HC2.out HN.out).mono ?_
      rintro e w2 ⟨rfl, hb2⟩
      have HB2 := Aside0.mk (below_step HB1.out hb2)
      clear hb2
      go_wp2
      go_ret2
      exact ⟨_, rfl, Kd.R_nil _ _ _ _ _, HB2.out⟩
    | true =>
      rw [if_pos rfl] at h
      by_cases hl : l2.length < 17592186044416 ∧ l2.length = l1.length
      · rw [if_pos hl] at h
        have HL := Aside0.mk hl
        have HH := Aside0.mk h
        clear h hl
        go_enter Try.func41, Try.ntmps41
        go_wp2_with fail
        refine HF.out.mono ?_
        rintro e w1 ⟨rfl, hb1⟩
        have HB1 := Aside0.mk (below_then (below_alloc (Below.refl _ _) _) (by simp) hb1 : Below w.heap.size w w1)
        have HM1 : Aside0 (w1.heap[w.heap.size]? = some (.cells #[.slice A3 l3.length c3] 23 (0, 0))) := ⟨blk_below (blk_new w _) hb1⟩
        clear hb1
        go_wp2_with fail
        refine (impl_needsValid.calls k A1 c1 l1 A2 c2 l2 true _ (Kd.C_below HR1.out HB1.out) HC1.out (Kd.C_below HR2.out HB1.out) HC2.out HN.out).mono ?_
        rintro e w2 ⟨rfl, hb2⟩
        have HB2 := Aside0.mk (below_step HB1.out hb2)
        have HM2 := Aside0.mk (blk_below HM1.out hb2)
        clear hb2 HM1 HB1
        go_wp2_with fail
        refine (slices_Clone_int_int.calls A2 c2 l2 l2 _ (Kd.C_below HR2.out HB2.out) HC2.out (by unfold slices_Clone_int_int.f; exact if_pos HL.out.1)).mono ?_
        rintro e w3 ⟨v10, rfl, ho3, hb3⟩
        have HB3 := Aside0.mk (below_step HB2.out hb3)
        have HM3 := Aside0.mk (blk_below HM2.out hb3)
        have HO3 : Aside0 (Kd.R (Kd.int .i64) 3 w3 w.heap.size (fun k_ => k_ ≠ w.heap.size) v10 l2) := ⟨Kd.R_mono (Kd.R_bound (Kd.R_lower (Kd.R_mono (Kd.R_bound ho3) (ok' := fun k_ => k_ ≠ w.heap.size) (fun k_ hk => by have h1 := hk.2.1; have h2 := blk_lt HM2.out; omega)) HB2.out.size)) (fun _ hk => hk.1)⟩
        clear hb3 ho3 HM2 HB2
        go_wp2
        go_loopg [11, 28] l1.length (fun gg _ v28 wr => ∃ x : Int, ∃ o : List Int, Aside0 (0 ≤ x ∧ x ≤ (l1.length : Int)) ∧ Aside0 (((l1.length : Int) - x).toNat ≤ gg) ∧ v28 = .int .i64 x ∧ Aside0 (impl_SwapNeeds.all l0 l1 l2 l3 x.toNat = some (some o)) ∧ Aside0 (wr.heap[w.heap.size]? = some (.cells #[.slice A3 l3.length c3] 23 (0, 0))) ∧ Aside0 (Kd.R (Kd.int .i64) 3 wr w.heap.size (fun k_ => k_ ≠ w.heap.size) v10 o) ∧ Aside0 (Below w.heap.size w wr))
        case atStart => exact ⟨0, l2, ⟨by omega⟩, ⟨by omega⟩, rfl, ⟨rfl⟩, HM3, HO3, HB3⟩
        case round =>
          clear HM3 HO3 HB3
          obtain ⟨x, o, HX, HGG, rfl, HA, HM, HO, HB⟩ := hrel
          have HLO : Aside0 (o.length = l2.length) := ⟨impl_SwapNeeds.all_len l0 l1 l2 l3 _ o HA.out⟩
          by_cases hlt : x < (l1.length : Int)
          · have c3b0 : decide (x < (l1.length : Int)) = true := decide_eq_true hlt
            have HLT := Aside0.mk hlt
            have p1 : 0 ≤ x := HX.out.1
            obtain ⟨ad1, ea1, hx0, hx1, hx2, hx3, hx4, hx5⟩ := at_T62 (Kd.C_below HR1.out HB.out) x p1 hlt
            have hlt2 : x < (l2.length : Int) := by have := HL.out; omega
            obtain ⟨ad2, ea2, hy0⟩ := Kd.at_int (Kd.C_below HR2.out HB.out) x p1 hlt2
            cases ea1
            cases ea2
            have HE : Aside0 ((x + 1).toNat = x.toNat + 1) := ⟨by omega⟩
            have ew : wrap64 (x + 1) = x + 1 := by unfold wrap64; omega
            have EW := Aside0.mk ew
            clear ew
            have HS : Aside0 (impl_SwapNeeds.all l0 l1 l2 l3 (x + 1).toNat = impl_SwapNeeds.step l0 l1 l2 l3 x.toNat o) := ⟨by rw [HE.out, impl_SwapNeeds.all, HA.out]; rfl⟩
            have HYF : Aside0 (rd_T62 l1 x = l1.getD x.toNat z62) := ⟨rfl⟩
            have HYN : Aside0 (rd l2 x = l2.getD x.toNat 0) := ⟨rfl⟩
            have HD : Aside0 (∀ q, impl_SwapNeeds.all l0 l1 l2 l3 (x + 1).toNat = q → (q = none ∨ q = some none) → impl_SwapNeeds.all l0 l1 l2 l3 l1.length = q) := ⟨fun q h1 h2 => by
              obtain ⟨d, hd⟩ : ∃ d, l1.length = (x + 1).toNat + d := ⟨l1.length - (x + 1).toNat, by have := HLT.out; have := HE.out; omega⟩
              rw [hd]
              rcases h2 with rfl | rfl
              · exact impl_SwapNeeds.all_none l0 l1 l2 l3 _ h1 d
              · exact impl_SwapNeeds.all_fail l0 l1 l2 l3 _ h1 d⟩
            unfold impl_SwapNeeds.step at HS
            rw [← HYF.out, ← HYN.out] at HS
            replace p1 := eq_true p1
            replace hlt := eq_true hlt
            replace hlt2 := eq_true hlt2
            have HMB := Aside0.mk (blk_lt HM.out)
            have HXB : Aside0 (ad2.block < wr.heap.size) := ⟨by have := World.block_lt_of_cell? _ _ hy0; first | rwa [add_block] at this | exact this⟩
            generalize rd_T62 l1 x = y at hx0 hx1 hx2 hx3 hx4 hx5 HS HYF
            generalize rd l2 x = need at hy0 HS HYN
            obtain ⟨id, u1, u2, u3, u4, u5⟩ := y
            simp only at hx0 hx1 hx2 hx3 hx4 hx5
            by_cases hneed : need = 0
            · have c1b : (need == 0) = true := beq_iff_eq.2 hneed
              rw [if_pos hneed] at HS
              clear hneed
              go_wp2_with (first | ((with_reducible refine gate_dst (N := 12) rfl ?_); refine box_event ?hg (N := 12) ?hd (cs := #[.int .i64 0, .int .i64 0, .int .i64 0, .int .i64 0, .int .i64 0, .int .i64 0]) (t := 62) ?hr ?_; (case hd => rfl); (case hg => rfl); (case hr => first | (go_simp; done) | (go_simp; rfl)); intro gb hg w5 hbox hb; have n0_ := Aside0.mk (Kd.R_below (Kd.R_elderB HO.out gb (Nat.le_of_eq hg.symm)) hb); have n1_ := Aside0.mk (below_step HB.out hb); have BK := Aside0.mk hbox; have GW := Aside0.mk ((by rw [hg]; exact HB.out.size) : w.heap.size ≤ gb); have n2_ := Aside0.mk (blk_below HM.out hb); have hne1 : (w.heap.size = gb) = False := eq_false (by have := HMB.out; omega); have hne2 : (gb = w.heap.size) = False := eq_false (by have := HMB.out; omega); have HNE : Aside0 (ad2.block ≠ gb) := ⟨by have := HXB.out; omega⟩; have hy5 := (hb.cell (World.block_lt_of_cell? _ _ hy0)).trans hy0; clear HO HB HM; have HO := n0_; have HB := n1_; have HM := n2_; clear n0_ n1_ n2_ hb hbox hg; have hcz0 : w5.cell? ⟨gb, 0, none⟩ = some (.int .i64 0) := (blk_cell BK.out 0).trans rfl; have hfz0 := blk_frozen BK.out 0; have hcz1 : w5.cell? ⟨gb, 1, none⟩ = some (.int .i64 0) := (blk_cell BK.out 1).trans rfl; have hfz1 := blk_frozen BK.out 1; have hcz2 : w5.cell? ⟨gb, 2, none⟩ = some (.int .i64 0) := (blk_cell BK.out 2).trans rfl; have hfz2 := blk_frozen BK.out 2; have hcz3 : w5.cell? ⟨gb, 3, none⟩ = some (.int .i64 0) := (blk_cell BK.out 3).trans rfl; have hfz3 := blk_frozen BK.out 3; have hcz4 : w5.cell? ⟨gb, 4, none⟩ = some (.int .i64 0) := (blk_cell BK.out 4).trans rfl; have hfz4 := blk_frozen BK.out 4; have hcz5 : w5.cell? ⟨gb, 5, none⟩ = some (.int .i64 0) := (blk_cell BK.out 5).trans rfl; have hfz5 := blk_frozen BK.out 5; have hm5 : w5.cell? ⟨w.heap.size, 0, none⟩ = some (.slice A3 l3.length c3) := (blk_cell HM.out 0).trans rfl; have hy1 : (((((((w5).setCell ⟨gb, 0, none⟩ (.int .i64 id)).setCell ⟨gb, 1, none⟩ (.int .i64 u1)).setCell ⟨gb, 2, none⟩ (.int .i64 u2)).setCell ⟨gb, 3, none⟩ (.int .i64 u3)).setCell ⟨gb, 4, none⟩ (.int .i64 u4)).setCell ⟨gb, 5, none⟩ (.int .i64 u5)).cell? (ad2.add x.toNat) = some (.int .i64 need) := (cell_far (p := ⟨gb, 5, none⟩) (by rw [add_block]; exact HNE.out) (.int .i64 u5)).trans ((cell_far (p := ⟨gb, 4, none⟩) (by rw [add_block]; exact HNE.out) (.int .i64 u4)).trans ((cell_far (p := ⟨gb, 3, none⟩) (by rw [add_block]; exact HNE.out) (.int .i64 u3)).trans ((cell_far (p := ⟨gb, 2, none⟩) (by rw [add_block]; exact HNE.out) (.int .i64 u2)).trans ((cell_far (p := ⟨gb, 1, none⟩) (by rw [add_block]; exact HNE.out) (.int .i64 u1)).trans ((cell_far (p := ⟨gb, 0, none⟩) (by rw [add_block]; exact HNE.out) (.int .i64 id)).trans (hy5))))))))
              go_roundg ((l1.length : Int) - (x + 1)).toNat
              case measure => have := HX.out; have := HGG.out; have := HLT.out; omega
              case rel => exact ⟨x + 1, o, ⟨by have := HX.out; have := HLT.out; omega⟩, ⟨Nat.le_refl _⟩, by first | rfl | (rw [EW.out]; done), ⟨HS.out⟩, ⟨blk_far (p := ⟨gb, 5, none⟩) (blk_far (p := ⟨gb, 4, none⟩) (blk_far (p := ⟨gb, 3, none⟩) (blk_far (p := ⟨gb, 2, none⟩) (blk_far (p := ⟨gb, 1, none⟩) (blk_far (p := ⟨gb, 0, none⟩) (HM.out) (of_eq_false hne1) (.int .i64 id)) (of_eq_false hne1) (.int .i64 u1)) (of_eq_false hne1) (.int .i64 u2)) (of_eq_false hne1) (.int .i64 u3)) (of_eq_false hne1) (.int .i64 u4)) (of_eq_false hne1) (.int .i64 u5)⟩, ⟨Kd.R_mono (Kd.R_far (p := ⟨gb, 5, none⟩) (Kd.R_far (p := ⟨gb, 4, none⟩) (Kd.R_far (p := ⟨gb, 3, none⟩) (Kd.R_far (p := ⟨gb, 2, none⟩) (Kd.R_far (p := ⟨gb, 1, none⟩) (Kd.R_far (p := ⟨gb, 0, none⟩) (HO.out) (fun _ hk => hk.2) (.int .i64 id)) (fun _ hk => hk.2) (.int .i64 u1)) (fun _ hk => hk.2) (.int .i64 u2)) (fun _ hk => hk.2) (.int .i64 u3)) (fun _ hk => hk.2) (.int .i64 u4)) (fun _ hk => hk.2) (.int .i64 u5)) (fun _ h => h.1)⟩, ⟨below_set (j := 5) (v := .int .i64 u5) (below_set (j := 4) (v := .int .i64 u4) (below_set (j := 3) (v := .int .i64 u3) (below_set (j := 2) (v := .int .i64 u2) (below_set (j := 1) (v := .int .i64 u1) (below_set (j := 0) (v := .int .i64 id) (HB.out) GW.out) GW.out) GW.out) GW.out) GW.out) GW.out⟩⟩
            · have c1b : (need == 0) = false := beq_eq_false_iff_ne.2 hneed
              rw [if_neg hneed] at HS
              clear hneed
              obtain ⟨kc, hkc⟩ := impl_SwapNeeds.contains_has l3 id hn3
              have HK := Aside0.mk hkc
              clear hkc
              by_cases hhas : impl_SwapNeeds.has l3 id = true
              · rw [hhas] at HK
                rw [if_pos hhas] at HS
                clear hhas
                go_wp2_with (first | ((with_reducible refine gate_dst (N := 12) rfl ?_); refine box_event ?hg (N := 12) ?hd (cs := #[.int .i64 0, .int .i64 0, .int .i64 0, .int .i64 0, .int .i64 0, .int .i64 0]) (t := 62) ?hr ?_; (case hd => rfl); (case hg => rfl); (case hr => first | (go_simp; done) | (go_simp; rfl)); intro gb hg w5 hbox hb; have n0_ := Aside0.mk (Kd.R_below (Kd.R_elderB HO.out gb (Nat.le_of_eq hg.symm)) hb); have n1_ := Aside0.mk (below_step HB.out hb); have BK := Aside0.mk hbox; have GW := Aside0.mk ((by rw [hg]; exact HB.out.size) : w.heap.size ≤ gb); have n2_ := Aside0.mk (blk_below HM.out hb); have hne1 : (w.heap.size = gb) = False := eq_false (by have := HMB.out; omega); have hne2 : (gb = w.heap.size) = False := eq_false (by have := HMB.out; omega); have HNE : Aside0 (ad2.block ≠ gb) := ⟨by have := HXB.out; omega⟩; have hy5 := (hb.cell (World.block_lt_of_cell? _ _ hy0)).trans hy0; clear HO HB HM; have HO := n0_; have HB := n1_; have HM := n2_; clear n0_ n1_ n2_ hb hbox hg; have hcz0 : w5.cell? ⟨gb, 0, none⟩ = some (.int .i64 0) := (blk_cell BK.out 0).trans rfl; have hfz0 := blk_frozen BK.out 0; have hcz1 : w5.cell? ⟨gb, 1, none⟩ = some (.int .i64 0) := (blk_cell BK.out 1).trans rfl; have hfz1 := blk_frozen BK.out 1; have hcz2 : w5.cell? ⟨gb, 2, none⟩ = some (.int .i64 0) := (blk_cell BK.out 2).trans rfl; have hfz2 := blk_frozen BK.out 2; have hcz3 : w5.cell? ⟨gb, 3, none⟩ = some (.int .i64 0) := (blk_cell BK.out 3).trans rfl; have hfz3 := blk_frozen BK.out 3; have hcz4 : w5.cell? ⟨gb, 4, none⟩ = some (.int .i64 0) := (blk_cell BK.out 4).trans rfl; have hfz4 := blk_frozen BK.out 4; have hcz5 : w5.cell? ⟨gb, 5, none⟩ = some (.int .i64 0) := (blk_cell BK.out 5).trans rfl; have hfz5 := blk_frozen BK.out 5; have hm5 : w5.cell? ⟨w.heap.size, 0, none⟩ = some (.slice A3 l3.length c3) := (blk_cell HM.out 0).trans rfl; have hy1 : (((((((w5).setCell ⟨gb, 0, none⟩ (.int .i64 id)).setCell ⟨gb, 1, none⟩ (.int .i64 u1)).setCell ⟨gb, 2, none⟩ (.int .i64 u2)).setCell ⟨gb, 3, none⟩ (.int .i64 u3)).setCell ⟨gb, 4, none⟩ (.int .i64 u4)).setCell ⟨gb, 5, none⟩ (.int .i64 u5)).cell? (ad2.add x.toNat) = some (.int .i64 need) := (cell_far (p := ⟨gb, 5, none⟩) (by rw [add_block]; exact HNE.out) (.int .i64 u5)).trans ((cell_far (p := ⟨gb, 4, none⟩) (by rw [add_block]; exact HNE.out) (.int .i64 u4)).trans ((cell_far (p := ⟨gb, 3, none⟩) (by rw [add_block]; exact HNE.out) (.int .i64 u3)).trans ((cell_far (p := ⟨gb, 2, none⟩) (by rw [add_block]; exact HNE.out) (.int .i64 u2)).trans ((cell_far (p := ⟨gb, 1, none⟩) (by rw [add_block]; exact HNE.out) (.int .i64 u1)).trans ((cell_far (p := ⟨gb, 0, none⟩) (by rw [add_block]; exact HNE.out) (.int .i64 id)).trans (hy5))))))))
                refine (slices_Contains_int_int.calls kc A3 c3 l3 id true _ (Kd.C_below HR3.out (below_set (j := 5) (v := .int .i64 u5) (below_set (j := 4) (v := .int .i64 u4) (below_set (j := 3) (v := .int .i64 u3) (below_set (j := 2) (v := .int .i64 u2) (below_set (j := 1) (v := .int .i64 u1) (below_set (j := 0) (v := .int .i64 id) (HB.out) GW.out) GW.out) GW.out) GW.out) GW.out) GW.out)) HC3.out HK.out).mono ?_
                rintro e w' ⟨rfl, ⟨nd, rfl⟩⟩
                have h1_ := Aside0.mk (Kd.R_drewN (Kd.R_far (p := ⟨gb, 5, none⟩) (Kd.R_far (p := ⟨gb, 4, none⟩) (Kd.R_far (p := ⟨gb, 3, none⟩) (Kd.R_far (p := ⟨gb, 2, none⟩) (Kd.R_far (p := ⟨gb, 1, none⟩) (Kd.R_far (p := ⟨gb, 0, none⟩) (HO.out) (fun _ hk => hk.2) (.int .i64 id)) (fun _ hk => hk.2) (.int .i64 u1)) (fun _ hk => hk.2) (.int .i64 u2)) (fun _ hk => hk.2) (.int .i64 u3)) (fun _ hk => hk.2) (.int .i64 u4)) (fun _ hk => hk.2) (.int .i64 u5)) nd)
                have h2_ := Aside0.mk (pw_below_drewN (below_set (j := 5) (v := .int .i64 u5) (below_set (j := 4) (v := .int .i64 u4) (below_set (j := 3) (v := .int .i64 u3) (below_set (j := 2) (v := .int .i64 u2) (below_set (j := 1) (v := .int .i64 u1) (below_set (j := 0) (v := .int .i64 id) (HB.out) GW.out) GW.out) GW.out) GW.out) GW.out) GW.out) nd)
                have h3_ : Aside0 (((((((((w5).setCell ⟨gb, 0, none⟩ (.int .i64 id)).setCell ⟨gb, 1, none⟩ (.int .i64 u1)).setCell ⟨gb, 2, none⟩ (.int .i64 u2)).setCell ⟨gb, 3, none⟩ (.int .i64 u3)).setCell ⟨gb, 4, none⟩ (.int .i64 u4)).setCell ⟨gb, 5, none⟩ (.int .i64 u5)).drewN nd).heap[w.heap.size]? = some (.cells #[.slice A3 l3.length c3] 23 (0, 0))) := ⟨blk_drewN (blk_far (p := ⟨gb, 5, none⟩) (blk_far (p := ⟨gb, 4, none⟩) (blk_far (p := ⟨gb, 3, none⟩) (blk_far (p := ⟨gb, 2, none⟩) (blk_far (p := ⟨gb, 1, none⟩) (blk_far (p := ⟨gb, 0, none⟩) (HM.out) (of_eq_false hne1) (.int .i64 id)) (of_eq_false hne1) (.int .i64 u1)) (of_eq_false hne1) (.int .i64 u2)) (of_eq_false hne1) (.int .i64 u3)) (of_eq_false hne1) (.int .i64 u4)) (of_eq_false hne1) (.int .i64 u5)) nd⟩
                have h4_ : Aside0 (((((((((w5).setCell ⟨gb, 0, none⟩ (.int .i64 id)).setCell ⟨gb, 1, none⟩ (.int .i64 u1)).setCell ⟨gb, 2, none⟩ (.int .i64 u2)).setCell ⟨gb, 3, none⟩ (.int .i64 u3)).setCell ⟨gb, 4, none⟩ (.int .i64 u4)).setCell ⟨gb, 5, none⟩ (.int .i64 u5)).drewN nd).heap[gb]? = some (.cells #[.int .i64 id, .int .i64 u1, .int .i64 u2, .int .i64 u3, .int .i64 u4, .int .i64 u5] 62 (0, 0))) := ⟨blk_drewN (blk_set (blk_set (blk_set (blk_set (blk_set (blk_set (BK.out) 0 (.int .i64 id)) 1 (.int .i64 u1)) 2 (.int .i64 u2)) 3 (.int .i64 u3)) 4 (.int .i64 u4)) 5 (.int .i64 u5)) nd⟩
                obtain ⟨w7, ew7⟩ : ∃ w7, w7 = (((((((w5).setCell ⟨gb, 0, none⟩ (.int .i64 id)).setCell ⟨gb, 1, none⟩ (.int .i64 u1)).setCell ⟨gb, 2, none⟩ (.int .i64 u2)).setCell ⟨gb, 3, none⟩ (.int .i64 u3)).setCell ⟨gb, 4, none⟩ (.int .i64 u4)).setCell ⟨gb, 5, none⟩ (.int .i64 u5)).drewN nd := ⟨_, rfl⟩
                rw [← ew7] at h1_ h2_ h3_ h4_ ⊢
                clear ew7 hy1 hm5 hy5 hcz0 hcz1 hcz2 hcz3 hcz4 hcz5 hfz0 hfz1 hfz2 hfz3 hfz4 hfz5 hx0 hx1 hx2 hx3 hx4 hx5 hy0 HO HB HM BK
                have hk0 : w7.cell? ⟨gb, 0, none⟩ = some (.int .i64 id) := (blk_cell h4_.out 0).trans rfl
                have hk1 : w7.cell? ⟨w.heap.size, 0, none⟩ = some (.slice A3 l3.length c3) := (blk_cell h3_.out 0).trans rfl
                have HIX : Aside0 (Calls Try.prog 65 #[.slice A0 l0.length c0, .func (.func 66) #[] #[.pointer (some ⟨gb, 0, none⟩), .pointer (some ⟨w.heap.size, 0, none⟩)]] w7 fun e w' => e = .returned (.int .i64 (idxOf (impl_SwapNeeds.pick l3 id) l0)) ∧ Below w7.heap.size w7 w') := ⟨indexSwap (impl_SwapNeeds.pick l3 id) 66 #[.pointer (some ⟨gb, 0, none⟩), .pointer (some ⟨w.heap.size, 0, none⟩)] impl_SwapNeeds.enters A0 c0 l0 w7 (Kd.C_below HR0.out h2_.out) HC0.out (fun W2 x2 hb2 => (impl_SwapNeeds.lit A3 c3 l3 x2 id gb w.heap.size W2 ((hb2.cell (World.block_lt_of_cell? _ _ hk0)).trans hk0) ((hb2.cell (World.block_lt_of_cell? _ _ hk1)).trans hk1) (Kd.C_below (Kd.C_below HR3.out h2_.out) hb2) HC3.out).mono fun e w' ⟨he, hb3⟩ => ⟨he, Below.trans hb2 (hb3.mono hb2.size)⟩)⟩
                have hqb : idxOf (impl_SwapNeeds.pick l3 id) l0 < (l0.length : Int) := by
                  unfold idxOf
                  split <;> omega
                replace HS : Aside0 (impl_SwapNeeds.all l0 l1 l2 l3 (x + 1).toNat = (if idxOf (impl_SwapNeeds.pick l3 id) l0 < 0 then some none else if 0 ≤ idxOf (fun z => z.f0 == (rd_T41 l0 (idxOf (impl_SwapNeeds.pick l3 id) l0)).f1) l1 ∧ idxOf (fun z => z.f0 == (rd_T41 l0 (idxOf (impl_SwapNeeds.pick l3 id) l0)).f1) l1 < (o.length : Int) then (impl_roundedUp.f (wrap64 (need * (rd_T41 l0 (idxOf (impl_SwapNeeds.pick l3 id) l0)).f2)) (rd_T41 l0 (idxOf (impl_SwapNeeds.pick l3 id) l0)).f3).bind fun u => some (some ((o.set x.toNat 0).set (idxOf (fun z => z.f0 == (rd_T41 l0 (idxOf (impl_SwapNeeds.pick l3 id) l0)).f1) l1).toNat (wrap64 ((o.set x.toNat 0).getD (idxOf (fun z => z.f0 == (rd_T41 l0 (idxOf (impl_SwapNeeds.pick l3 id) l0)).f1) l1).toNat 0 + u)))) else none)) := HS
                generalize idxOf (impl_SwapNeeds.pick l3 id) l0 = q at HS HIX hqb
                have HQB := Aside0.mk hqb
                clear hqb
                by_cases hq : q < 0
                · have c2b : decide (q < 0) = true := decide_eq_true hq
                  rw [if_pos hq] at HS
                  have hh := HH.out
                  rw [HD.out _ HS.out (.inr rfl)] at hh
                  obtain ⟨rfl, rfl⟩ : [] = r1 ∧ false = r2 := by simpa using hh
                  clear hh hq HS HH
                  go_wp2_with fail
                  refine HIX.out.mono ?_
                  rintro e w8 ⟨rfl, hb8⟩
                  have HB8 := Aside0.mk (below_step h2_.out hb8)
                  clear hb8
                  go_wp2
                  go_ret2
                  exact ⟨_, rfl, Kd.R_nil _ _ _ _ _, HB8.out⟩
                · have c2b : decide (q < 0) = false := decide_eq_false hq
                  rw [if_neg hq] at HS
                  have HQ0 : Aside0 (0 ≤ q) := ⟨by omega⟩
                  clear hq
                  generalize hs : rd_T41 l0 q = s at HS
                  have HSW := Aside0.mk hs
                  clear hs
                  generalize hto : idxOf (fun z => z.f0 == s.f1) l1 = tt at HS
                  have HTO := Aside0.mk hto
                  clear hto
                  by_cases htb : 0 ≤ tt ∧ tt < (o.length : Int)
                  · rw [if_pos htb] at HS
                    have HTB := Aside0.mk htb
                    clear htb
                    cases hru : impl_roundedUp.f (wrap64 (need * s.f2)) s.f3 with
                    | none =>
                      rw [hru] at HS
                      have hh := HH.out
                      rw [HD.out _ HS.out (.inl rfl)] at hh
                      cases hh
                    | some u =>
                      rw [hru] at HS
                      have HRU := Aside0.mk hru
                      clear hru
                      go_wp2_with fail
                      refine HIX.out.mono ?_
                      rintro e w8 ⟨rfl, hb8⟩
                      have HB8 := Aside0.mk (below_step h2_.out hb8)
                      have HM8 := Aside0.mk (blk_below h3_.out hb8)
                      have HO8 := Aside0.mk (Kd.R_below (Kd.R_mono h1_.out (ok' := fun k_ => k_ ≠ w.heap.size) (fun _ h => h.1)) hb8)
                      clear hb8 h1_ h2_ h3_ h4_ hk0 hk1 HIX
                      obtain ⟨g0, cap0, e0, gb0, gl0, cl0, hG0⟩ := Kd.R_form HO8.out (by have := HLO.out; have := HL.out; have := HLT.out; have := HX.out; omega)
                      have GB0 := Aside0.mk gb0
                      clear gb0 gl0 hG0
                      subst e0
                      have hlto : (x < (o.length : Int)) = True := eq_true (by have := HLO.out; have := HL.out; have := HLT.out; omega)
                      obtain ⟨hxo, hfo⟩ := Kd.R_celln 0 HO8.out x (by have := HX.out; omega) (by have := HLO.out; have := HL.out; have := HLT.out; omega)
                      have HGM : Aside0 (g0 ≠ w.heap.size) := ⟨HO8.out.1 g0 rfl⟩
                      have HP9 := Aside0.mk (Kd.R_putg HO8.out x 0)
                      go_wp2_with ((with_reducible refine gate_store (t := 3) (p := 52) rfl ?_); refine store_event (t := 3) (p := 52) (v := ?vo_w9) (w1 := (w8.setCell ⟨g0, x.toNat, none⟩ (.int .i64 0))) ?hg ?ho ?hn ?hr ?_; (case ho => rfl); (case hg => rfl); (case hn => rfl); (case hr => first | (go_simp; done) | (go_simp; rfl)); intro w9 hw; have HO9 : Aside0 (Kd.R (Kd.int .i64) 3 w9 w.heap.size (fun k_ => k_ ≠ w.heap.size) (.slice (some ⟨g0, 0, none⟩) o.length cap0) (o.set x.toNat 0)) := ⟨by rw [hw]; exact HP9.out.1⟩; have HB9 : Aside0 (Below w.heap.size w w9) := ⟨by rw [hw]; exact below_set HB8.out GB0.out⟩; have HM9 : Aside0 (w9.heap[w.heap.size]? = some (.cells #[.slice A3 l3.length c3] 23 (0, 0))) := ⟨by rw [hw]; exact blk_far (p := ⟨g0, x.toNat, none⟩) HM8.out (fun e => HGM.out e.symm) _⟩; clear hw)
                      clear HP9 hxo hfo HO8 HB8 HM8
                      -- REGION
                      obtain ⟨ad0, ea0, hs0, hs1, hs2, hs3⟩ := at_T41 (Kd.C_below HR0.out HB9.out) q HQ0.out HQB.out
                      cases ea0
                      rw [HSW.out] at hs0 hs1 hs2 hs3
                      obtain ⟨ad2', ea2', hn9⟩ := Kd.at_int (Kd.C_below HR2.out HB9.out) x HX.out.1 (by have := HL.out; have := HLT.out; omega)
                      obtain rfl : ad2 = ad2' := by injection ea2'
                      rw [show rd l2 x = need from HYN.out.symm] at hn9
                      obtain ⟨hto9, hft9⟩ := Kd.R_celln 0 HO9.out tt HTB.out.1 HTB.out.2
                      obtain ⟨m, hm⟩ : ∃ m : Int, (o.set x.toNat 0).getD tt.toNat 0 = m := ⟨_, rfl⟩
                      have hto9' : w9.cell? ⟨g0, tt.toNat, none⟩ = some (.int .i64 m) := by rw [← hm]; exact hto9
                      rw [hm] at HS
                      have HP10 := Aside0.mk (Kd.R_putg HO9.out tt (wrap64 (m + u)))
                      clear hto9
                      obtain ⟨s0, s1, s2, s3⟩ := s
                      simp only at hs0 hs1 hs2 hs3
                      have HFP : Aside0 (impl_foodPlace.f l1 s1 = some tt) := ⟨by rw [← HTO.out]; rfl⟩
                      have HRU' : Aside0 (impl_roundedUp.f (wrap64 (need * s2)) s3 = some u) := ⟨HRU.out⟩
                      have q0 : (0 ≤ q) = True := eq_true HQ0.out
                      have q1 : (q < (l0.length : Int)) = True := eq_true HQB.out
                      have t0 : (0 ≤ tt) = True := eq_true HTB.out.1
                      have t1 : (tt < (o.length : Int)) = True := eq_true HTB.out.2
                      clear hm HRU HSW HTO
                      -- REG12
                      refine start_ (n := 29) (S := (fun w' => w'.cell? ⟨(ad0.add (q.toNat * 4)).block, (ad0.add (q.toNat * 4)).off + 1, none⟩ = some (.int .i64 s1) ∧ w'.cell? ⟨(ad0.add (q.toNat * 4)).block, (ad0.add (q.toNat * 4)).off + 2, none⟩ = some (.int .i64 s2) ∧ w'.cell? ⟨(ad0.add (q.toNat * 4)).block, (ad0.add (q.toNat * 4)).off + 3, none⟩ = some (.int .i64 s3) ∧ w'.cell? (ad2.add x.toNat) = some (.int .i64 need) ∧ w'.cell? ⟨g0, tt.toNat, none⟩ = some (.int .i64 m))) (ds := [28]) #[false, false, false, false, false, false, false, false, false, false, false, false, false, false, false, false, false, false, false, false, false, false, false, false, false, false, false, false, false] pL rfl rfl ⟨hs1, hs2, hs3, hn9, hto9'⟩ (fun hHeld => ?_)
                      have HBd := Aside0.mk (below_drew1 HB9.out)
                      have HMd := Aside0.mk (blk_drew HM9.out)
                      have HOd := Aside0.mk (Kd.R_drew HO9.out)
                      clear HB9 HM9 HO9 hs0 hs1 hs2 hs3 hn9 hto9' HP10
                      generalize w9.drew = w10 at HBd HMd HOd hHeld ⊢
                      refine pure_ (i := 0) (N := some 53) (v := ?_) (a' := ?_) #[true, false, false, false, false, false, false, false, false, false, false, false, false, false, false, false, false, false, false, false, false, false, false, false, false, false, false, false, false] rfl rfl pL (fun _ _ _ h => h) (Or.inl ⟨by rfl, ?_⟩) ?_ ?_
                      rotate_left
                      · intro w'
                        go_simp
                        with_reducible rfl
                      rotate_left
                      · exact pP
                      refine pure_ (i := 1) (N := some 54) (v := ?_) (a' := ?_) #[true, true, false, false, false, false, false, false, false, false, false, false, false, false, false, false, false, false, false, false, false, false, false, false, false, false, false, false, false] rfl rfl pL (fun _ _ _ h => h) (Or.inl ⟨by rfl, ?_⟩) ?_ ?_
                      rotate_left
                      · intro w'
                        go_simp
                        with_reducible rfl
                      rotate_left
                      · exact pP
                      refine pure_ (i := 2) (N := some 55) (v := ?_) (a' := ?_) #[true, true, true, false, false, false, false, false, false, false, false, false, false, false, false, false, false, false, false, false, false, false, false, false, false, false, false, false, false] rfl rfl pL (fun _ _ _ h => h) (Or.inl ⟨by rfl, ?_⟩) ?_ ?_
                      rotate_left
                      · intro w'
                        go_simp
                        with_reducible rfl
                      rotate_left
                      · exact pP
                      refine pure_ (i := 3) (N := some 56) (v := ?_) (a' := ?_) #[true, true, true, true, false, false, false, false, false, false, false, false, false, false, false, false, false, false, false, false, false, false, false, false, false, false, false, false, false] rfl rfl pL (fun _ _ _ h => h) (Or.inl ⟨by rfl, ?_⟩) ?_ ?_
                      rotate_left
                      · intro w'
                        go_simp
                        with_reducible rfl
                      rotate_left
                      · exact pP
                      refine pure_ (i := 4) (N := some 57) (v := ?_) (a' := ?_) #[true, true, true, true, true, false, false, false, false, false, false, false, false, false, false, false, false, false, false, false, false, false, false, false, false, false, false, false, false] rfl rfl pL (fun _ _ _ h => h) (Or.inl ⟨by rfl, ?_⟩) ?_ ?_
                      rotate_left
                      · intro w'
                        go_simp
                        with_reducible rfl
                      rotate_left
                      · exact pP
                      refine pure_ (i := 5) (N := some 58) (v := ?_) (a' := ?_) #[true, true, true, true, true, true, false, false, false, false, false, false, false, false, false, false, false, false, false, false, false, false, false, false, false, false, false, false, false] rfl rfl pL (fun _ _ _ h => h) (Or.inl ⟨by rfl, ?_⟩) ?_ ?_
                      rotate_left
                      · intro w'
                        go_simp
                        with_reducible rfl
                      rotate_left
                      · exact pP
                      refine pure_ (i := 10) (N := some 63) (v := ?_) (a' := ?_) #[true, true, true, true, true, true, false, false, false, false, true, false, false, false, false, false, false, false, false, false, false, false, false, false, false, false, false, false, false] rfl rfl pL (fun _ _ _ h => h) (Or.inl ⟨by rfl, ?_⟩) ?_ ?_
                      rotate_left
                      · intro w'
                        go_simp
                        with_reducible rfl
                      rotate_left
                      · exact pP
                      refine pure_ (i := 11) (N := some 64) (v := ?_) (a' := ?_) #[true, true, true, true, true, true, false, false, false, false, true, true, false, false, false, false, false, false, false, false, false, false, false, false, false, false, false, false, false] rfl rfl pL (fun _ _ _ h => h) (Or.inl ⟨by rfl, ?_⟩) ?_ ?_
                      rotate_left
                      · intro w'
                        go_simp
                        with_reducible rfl
                      rotate_left
                      · exact pP
                      refine pure_ (i := 12) (N := some 65) (v := ?_) (a' := ?_) #[true, true, true, true, true, true, false, false, false, false, true, true, true, false, false, false, false, false, false, false, false, false, false, false, false, false, false, false, false] rfl rfl pL (fun _ _ _ h => h) (Or.inl ⟨by rfl, ?_⟩) ?_ ?_
                      rotate_left
                      · intro w'
                        go_simp
                        with_reducible rfl
                      rotate_left
                      · exact pP
                      refine pure_ (i := 14) (N := some 67) (v := ?_) (a' := ?_) #[true, true, true, true, true, true, false, false, false, false, true, true, true, false, true, false, false, false, false, false, false, false, false, false, false, false, false, false, false] rfl rfl pL (fun _ _ _ h => h) (Or.inl ⟨by rfl, ?_⟩) ?_ ?_
                      rotate_left
                      · intro w'
                        go_simp
                        with_reducible rfl
                      rotate_left
                      · exact pP
                      refine pure_ (i := 15) (N := some 68) (v := ?_) (a' := ?_) #[true, true, true, true, true, true, false, false, false, false, true, true, true, false, true, true, false, false, false, false, false, false, false, false, false, false, false, false, false] rfl rfl pL (fun _ _ _ h => h) (Or.inl ⟨by rfl, ?_⟩) ?_ ?_
                      rotate_left
                      · intro w'
                        go_simp
                        with_reducible rfl
                      rotate_left
                      · exact pP
                      refine pure_ (i := 16) (N := some 69) (v := ?_) (a' := ?_) #[true, true, true, true, true, true, false, false, false, false, true, true, true, false, true, true, true, false, false, false, false, false, false, false, false, false, false, false, false] rfl rfl pL (fun _ _ _ h => h) (Or.inl ⟨by rfl, ?_⟩) ?_ ?_
                      rotate_left
                      · intro w'
                        go_simp
                        with_reducible rfl
                      rotate_left
                      · exact pP
                      refine pure_ (i := 17) (N := some 70) (v := ?_) (a' := ?_) #[true, true, true, true, true, true, false, false, false, false, true, true, true, false, true, true, true, true, false, false, false, false, false, false, false, false, false, false, false] rfl rfl pL (fun _ _ _ h => h) (Or.inl ⟨by rfl, ?_⟩) ?_ ?_
                      rotate_left
                      · intro w'
                        go_simp
                        with_reducible rfl
                      rotate_left
                      · exact pP
                      refine pure_ (i := 20) (N := some 73) (v := ?_) (a' := ?_) #[true, true, true, true, true, true, false, false, false, false, true, true, true, false, true, true, true, true, false, false, true, false, false, false, false, false, false, false, false] rfl rfl pL (fun _ _ _ h => h) (Or.inl ⟨by rfl, ?_⟩) ?_ ?_
                      rotate_left
                      · intro w'
                        go_simp
                        with_reducible rfl
                      rotate_left
                      · exact pP
                      refine pure_ (i := 21) (N := some 74) (v := ?_) (a' := ?_) #[true, true, true, true, true, true, false, false, false, false, true, true, true, false, true, true, true, true, false, false, true, true, false, false, false, false, false, false, false] rfl rfl pL (fun _ _ _ h => h) (Or.inl ⟨by rfl, ?_⟩) ?_ ?_
                      rotate_left
                      · intro w'
                        go_simp
                        with_reducible rfl
                      rotate_left
                      · exact pP
                      refine pure_ (i := 22) (N := some 75) (v := ?_) (a' := ?_) #[true, true, true, true, true, true, false, false, false, false, true, true, true, false, true, true, true, true, false, false, true, true, true, false, false, false, false, false, false] rfl rfl pL (fun _ _ _ h => h) (Or.inl ⟨by rfl, ?_⟩) ?_ ?_
                      rotate_left
                      · intro w'
                        go_simp
                        with_reducible rfl
                      rotate_left
                      · exact pP
                      refine pure_ (i := 23) (N := some 76) (v := ?_) (a' := ?_) #[true, true, true, true, true, true, false, false, false, false, true, true, true, false, true, true, true, true, false, false, true, true, true, true, false, false, false, false, false] rfl rfl pL (fun _ _ _ h => h) (Or.inl ⟨by rfl, ?_⟩) ?_ ?_
                      rotate_left
                      · intro w'
                        go_simp
                        with_reducible rfl
                      rotate_left
                      · exact pP
                      refine take_ (i := 6) (N := some 59) (v := ?_) (a' := ?_) #[true, true, true, true, true, true, true, false, false, false, true, true, true, false, true, true, true, true, false, false, true, true, true, true, false, false, false, false, false] rfl rfl pL (fun _ _ _ h => h) (Or.inl ⟨by rfl, ?_⟩) hHeld ?_ ?_
                      rotate_left
                      · rintro w' ⟨e0, e1, e2, e3, e4⟩
                        go_simp
                        with_reducible rfl
                      rotate_left
                      · exact pP
                      refine take_ (i := 13) (N := some 66) (v := ?_) (a' := ?_) #[true, true, true, true, true, true, true, false, false, false, true, true, true, true, true, true, true, true, false, false, true, true, true, true, false, false, false, false, false] rfl rfl pL (fun _ _ _ h => h) (Or.inl ⟨by rfl, ?_⟩) hHeld ?_ ?_
                      rotate_left
                      · rintro w' ⟨e0, e1, e2, e3, e4⟩
                        go_simp
                        with_reducible rfl
                      rotate_left
                      · exact pP
                      refine take_ (i := 18) (N := some 71) (v := ?_) (a' := ?_) #[true, true, true, true, true, true, true, false, false, false, true, true, true, true, true, true, true, true, true, false, true, true, true, true, false, false, false, false, false] rfl rfl pL (fun _ _ _ h => h) (Or.inl ⟨by rfl, ?_⟩) hHeld ?_ ?_
                      rotate_left
                      · rintro w' ⟨e0, e1, e2, e3, e4⟩
                        go_simp
                        with_reducible rfl
                      rotate_left
                      · exact pP
                      refine pure_ (i := 19) (N := some 72) (v := ?_) (a' := ?_) #[true, true, true, true, true, true, true, false, false, false, true, true, true, true, true, true, true, true, true, true, true, true, true, true, false, false, false, false, false] rfl rfl pL (fun _ _ _ h => h) (Or.inl ⟨by rfl, ?_⟩) ?_ ?_
                      rotate_left
                      · intro w'
                        go_simp
                        with_reducible rfl
                      rotate_left
                      · exact pP
                      refine take_ (i := 24) (N := some 77) (v := ?_) (a' := ?_) #[true, true, true, true, true, true, true, false, false, false, true, true, true, true, true, true, true, true, true, true, true, true, true, true, true, false, false, false, false] rfl rfl pL (fun _ _ _ h => h) (Or.inl ⟨by rfl, ?_⟩) hHeld ?_ ?_
                      rotate_left
                      · rintro w' ⟨e0, e1, e2, e3, e4⟩
                        go_simp
                        with_reducible rfl
                      rotate_left
                      · exact pP
                      refine one_ (i := 7) (N := some 60) #[true, true, true, true, true, true, true, true, false, false, true, true, true, true, true, true, true, true, true, true, true, true, true, true, true, false, false, false, false] rfl rfl pL (by decide) (fun K hK => ?_)
                      refine goes_ Try.func55 pL rfl #[.slice (some ad1) l1.length c1, .int .i64 s1] (by rfl) rfl rfl (by (try simp only [List.map_toArray, List.map_cons, List.map_nil]); first | done | rfl) ?_
                      with_reducible refine (impl_foodPlace.calls (some ad1) c1 l1 s1 tt _ (Kd.C_below HR1.out HBd.out) HC1.out HFP.out).mono ?_
                      rintro e wf ⟨rfl, hbf⟩
                      refine ⟨_, rfl, ?_⟩
                      have HBdf := Aside0.mk (below_step HBd.out hbf)
                      have HMdf := Aside0.mk (blk_below HMd.out hbf)
                      have HOdf := Aside0.mk (Kd.R_below HOd.out hbf)
                      refine hK.out _ _ ⟨impl_SwapNeeds.cellB hbf hHeld.1, impl_SwapNeeds.cellB hbf hHeld.2.1, impl_SwapNeeds.cellB hbf hHeld.2.2.1, impl_SwapNeeds.cellB hbf hHeld.2.2.2.1, impl_SwapNeeds.cellB hbf hHeld.2.2.2.2⟩ (fun hHeld => ?_)
                      clear hK K
                      refine norm_ (a' := ?_) ?_ ?_
                      rotate_left
                      · show Act.put _ (some 60) _ = _
                        exact pP
                      refine pure_ (i := 8) (N := some 61) (v := ?_) (a' := ?_) #[true, true, true, true, true, true, true, true, true, false, true, true, true, true, true, true, true, true, true, true, true, true, true, true, true, false, false, false, false] rfl rfl pL (fun _ _ _ h => h) (Or.inl ⟨by rfl, ?_⟩) ?_ ?_
                      rotate_left
                      · intro w'
                        go_simp
                        with_reducible rfl
                      rotate_left
                      · exact pP
                      refine take_ (i := 9) (N := some 62) (v := ?_) (a' := ?_) #[true, true, true, true, true, true, true, true, true, true, true, true, true, true, true, true, true, true, true, true, true, true, true, true, true, false, false, false, false] rfl rfl pL (fun _ _ _ h => h) (Or.inl ⟨by rfl, ?_⟩) hHeld ?_ ?_
                      rotate_left
                      · rintro w' ⟨e0, e1, e2, e3, e4⟩
                        go_simp
                        with_reducible rfl
                      rotate_left
                      · exact pP
                      refine one_ (i := 25) (N := some 78) #[true, true, true, true, true, true, true, true, true, true, true, true, true, true, true, true, true, true, true, true, true, true, true, true, true, true, false, false, false] rfl rfl pL (by decide) (fun K hK => ?_)
                      refine goes_ Try.func67 pL rfl #[.int .i64 (wrap64 (need * s2)), .int .i64 s3] (by rfl) rfl rfl (by (try simp only [List.map_toArray, List.map_cons, List.map_nil]); first | done | rfl) ?_
                      with_reducible refine (impl_roundedUp.calls (wrap64 (need * s2)) s3 u _ HRU'.out).mono ?_
                      rintro e wu ⟨rfl, ⟨nd, rfl⟩⟩
                      refine ⟨_, rfl, ?_⟩
                      have HBdfu := Aside0.mk (pw_below_drewN HBdf.out nd)
                      have HMdfu := Aside0.mk (blk_drewN HMdf.out nd)
                      have HOdfu := Aside0.mk (Kd.R_drewN HOdf.out nd)
                      refine hK.out _ _ ⟨hHeld.1, hHeld.2.1, hHeld.2.2.1, hHeld.2.2.2.1, hHeld.2.2.2.2⟩ (fun hHeld => ?_)
                      clear hK K
                      refine norm_ (a' := ?_) ?_ ?_
                      rotate_left
                      · show Act.put _ (some 78) _ = _
                        exact pP
                      refine pure_ (i := 26) (N := some 79) (v := ?_) (a' := ?_) #[true, true, true, true, true, true, true, true, true, true, true, true, true, true, true, true, true, true, true, true, true, true, true, true, true, true, true, false, false] rfl rfl pL (fun _ _ _ h => h) (Or.inl ⟨by rfl, ?_⟩) ?_ ?_
                      rotate_left
                      · intro w'
                        go_simp
                        with_reducible rfl
                      rotate_left
                      · exact pP
                      refine pure_ (i := 27) (N := some 80) (v := ?_) (a' := ?_) #[true, true, true, true, true, true, true, true, true, true, true, true, true, true, true, true, true, true, true, true, true, true, true, true, true, true, true, true, false] rfl rfl pL (fun _ _ _ h => h) (Or.inl ⟨by rfl, ?_⟩) ?_ ?_
                      rotate_left
                      · intro w'
                        go_simp
                        with_reducible rfl
                      rotate_left
                      · exact pP
                      obtain ⟨hxt, hft⟩ := Kd.R_celln 0 HOdfu.out tt HTB.out.1 HTB.out.2
                      have HPF := Aside0.mk (Kd.R_putg HOdfu.out tt (wrap64 (m + u)))
                      refine last_ (i := 28) (N := none) #[true, true, true, true, true, true, true, true, true, true, true, true, true, true, true, true, true, true, true, true, true, true, true, true, true, true, true, true, true] rfl rfl pL (by decide) (fun K hK => ?_)
                      refine skip_ (w1 := ?_) (by rfl) rfl ?_ ?_
                      rotate_left
                      · go_simp
                        rfl
                      refine hK.out _ _ ?_
                      clear hK K
                      refine done_ pL ?_
                      try go_wp2
                      go_roundg ((l1.length : Int) - (x + 1)).toNat
                      case measure => have := HX.out; have := HGG.out; have := HLT.out; omega
                      case rel => exact ⟨x + 1, (o.set x.toNat 0).set tt.toNat (wrap64 (m + u)), ⟨by have := HX.out; have := HLT.out; omega⟩, ⟨Nat.le_refl _⟩, by first | rfl | (rw [EW.out]; done), HS, ⟨blk_far (p := ⟨g0, tt.toNat, none⟩) HMdfu.out (fun e => HGM.out e.symm) _⟩, ⟨HPF.out.1⟩, ⟨below_set HBdfu.out GB0.out⟩⟩
                  · rw [if_neg htb] at HS
                    have hh := HH.out
                    rw [HD.out _ HS.out (.inl rfl)] at hh
                    cases hh
              · have hf : impl_SwapNeeds.has l3 id = false := Bool.eq_false_iff.2 hhas
                rw [hf] at HK
                rw [if_neg hhas] at HS
                clear hhas hf
                go_wp2_with (first | ((with_reducible refine gate_dst (N := 12) rfl ?_); refine box_event ?hg (N := 12) ?hd (cs := #[.int .i64 0, .int .i64 0, .int .i64 0, .int .i64 0, .int .i64 0, .int .i64 0]) (t := 62) ?hr ?_; (case hd => rfl); (case hg => rfl); (case hr => first | (go_simp; done) | (go_simp; rfl)); intro gb hg w5 hbox hb; have n0_ := Aside0.mk (Kd.R_below (Kd.R_elderB HO.out gb (Nat.le_of_eq hg.symm)) hb); have n1_ := Aside0.mk (below_step HB.out hb); have BK := Aside0.mk hbox; have GW := Aside0.mk ((by rw [hg]; exact HB.out.size) : w.heap.size ≤ gb); have n2_ := Aside0.mk (blk_below HM.out hb); have hne1 : (w.heap.size = gb) = False := eq_false (by have := HMB.out; omega); have hne2 : (gb = w.heap.size) = False := eq_false (by have := HMB.out; omega); have HNE : Aside0 (ad2.block ≠ gb) := ⟨by have := HXB.out; omega⟩; have hy5 := (hb.cell (World.block_lt_of_cell? _ _ hy0)).trans hy0; clear HO HB HM; have HO := n0_; have HB := n1_; have HM := n2_; clear n0_ n1_ n2_ hb hbox hg; have hcz0 : w5.cell? ⟨gb, 0, none⟩ = some (.int .i64 0) := (blk_cell BK.out 0).trans rfl; have hfz0 := blk_frozen BK.out 0; have hcz1 : w5.cell? ⟨gb, 1, none⟩ = some (.int .i64 0) := (blk_cell BK.out 1).trans rfl; have hfz1 := blk_frozen BK.out 1; have hcz2 : w5.cell? ⟨gb, 2, none⟩ = some (.int .i64 0) := (blk_cell BK.out 2).trans rfl; have hfz2 := blk_frozen BK.out 2; have hcz3 : w5.cell? ⟨gb, 3, none⟩ = some (.int .i64 0) := (blk_cell BK.out 3).trans rfl; have hfz3 := blk_frozen BK.out 3; have hcz4 : w5.cell? ⟨gb, 4, none⟩ = some (.int .i64 0) := (blk_cell BK.out 4).trans rfl; have hfz4 := blk_frozen BK.out 4; have hcz5 : w5.cell? ⟨gb, 5, none⟩ = some (.int .i64 0) := (blk_cell BK.out 5).trans rfl; have hfz5 := blk_frozen BK.out 5; have hm5 : w5.cell? ⟨w.heap.size, 0, none⟩ = some (.slice A3 l3.length c3) := (blk_cell HM.out 0).trans rfl; have hy1 : (((((((w5).setCell ⟨gb, 0, none⟩ (.int .i64 id)).setCell ⟨gb, 1, none⟩ (.int .i64 u1)).setCell ⟨gb, 2, none⟩ (.int .i64 u2)).setCell ⟨gb, 3, none⟩ (.int .i64 u3)).setCell ⟨gb, 4, none⟩ (.int .i64 u4)).setCell ⟨gb, 5, none⟩ (.int .i64 u5)).cell? (ad2.add x.toNat) = some (.int .i64 need) := (cell_far (p := ⟨gb, 5, none⟩) (by rw [add_block]; exact HNE.out) (.int .i64 u5)).trans ((cell_far (p := ⟨gb, 4, none⟩) (by rw [add_block]; exact HNE.out) (.int .i64 u4)).trans ((cell_far (p := ⟨gb, 3, none⟩) (by rw [add_block]; exact HNE.out) (.int .i64 u3)).trans ((cell_far (p := ⟨gb, 2, none⟩) (by rw [add_block]; exact HNE.out) (.int .i64 u2)).trans ((cell_far (p := ⟨gb, 1, none⟩) (by rw [add_block]; exact HNE.out) (.int .i64 u1)).trans ((cell_far (p := ⟨gb, 0, none⟩) (by rw [add_block]; exact HNE.out) (.int .i64 id)).trans (hy5))))))))
                refine (slices_Contains_int_int.calls kc A3 c3 l3 id false _ (Kd.C_below HR3.out (below_set (j := 5) (v := .int .i64 u5) (below_set (j := 4) (v := .int .i64 u4) (below_set (j := 3) (v := .int .i64 u3) (below_set (j := 2) (v := .int .i64 u2) (below_set (j := 1) (v := .int .i64 u1) (below_set (j := 0) (v := .int .i64 id) (HB.out) GW.out) GW.out) GW.out) GW.out) GW.out) GW.out)) HC3.out HK.out).mono ?_
                rintro e w' ⟨rfl, ⟨nd, rfl⟩⟩
                go_wp2
                go_roundg ((l1.length : Int) - (x + 1)).toNat
                case measure => have := HX.out; have := HGG.out; have := HLT.out; omega
                case rel => exact ⟨x + 1, o, ⟨by have := HX.out; have := HLT.out; omega⟩, ⟨Nat.le_refl _⟩, by first | rfl | (rw [EW.out]; done), ⟨HS.out⟩, ⟨blk_drewN (blk_far (p := ⟨gb, 5, none⟩) (blk_far (p := ⟨gb, 4, none⟩) (blk_far (p := ⟨gb, 3, none⟩) (blk_far (p := ⟨gb, 2, none⟩) (blk_far (p := ⟨gb, 1, none⟩) (blk_far (p := ⟨gb, 0, none⟩) (HM.out) (of_eq_false hne1) (.int .i64 id)) (of_eq_false hne1) (.int .i64 u1)) (of_eq_false hne1) (.int .i64 u2)) (of_eq_false hne1) (.int .i64 u3)) (of_eq_false hne1) (.int .i64 u4)) (of_eq_false hne1) (.int .i64 u5)) nd⟩, ⟨Kd.R_mono (Kd.R_drewN (Kd.R_far (p := ⟨gb, 5, none⟩) (Kd.R_far (p := ⟨gb, 4, none⟩) (Kd.R_far (p := ⟨gb, 3, none⟩) (Kd.R_far (p := ⟨gb, 2, none⟩) (Kd.R_far (p := ⟨gb, 1, none⟩) (Kd.R_far (p := ⟨gb, 0, none⟩) (HO.out) (fun _ hk => hk.2) (.int .i64 id)) (fun _ hk => hk.2) (.int .i64 u1)) (fun _ hk => hk.2) (.int .i64 u2)) (fun _ hk => hk.2) (.int .i64 u3)) (fun _ hk => hk.2) (.int .i64 u4)) (fun _ hk => hk.2) (.int .i64 u5)) nd) (fun _ h => h.1)⟩, ⟨pw_below_drewN (below_set (j := 5) (v := .int .i64 u5) (below_set (j := 4) (v := .int .i64 u4) (below_set (j := 3) (v := .int .i64 u3) (below_set (j := 2) (v := .int .i64 u2) (below_set (j := 1) (v := .int .i64 u1) (below_set (j := 0) (v := .int .i64 id) (HB.out) GW.out) GW.out) GW.out) GW.out) GW.out) GW.out) nd⟩⟩
          · have c3b0 : decide (x < (l1.length : Int)) = false := decide_eq_false hlt
            have HE : Aside0 (x.toNat = l1.length) := ⟨by have := HX.out; omega⟩
            have h := HH.out
            rw [← HE.out, HA.out] at h
            obtain ⟨b, hb, h⟩ := Option.bind_eq_some_iff.1 (show (impl_needsValid.f k l1 o).bind _ = _ from h)
            have HN2 := Aside0.mk hb
            clear hb hlt HH
            obtain ⟨Ao, co, eo⟩ := Kd.R_slice HO.out
            subst eo
            have HRO := Aside0.mk (Kd.R_reads' HO.out)
            cases b with
            | true =>
              obtain ⟨rfl, rfl⟩ : o = r1 ∧ true = r2 := by simpa using h
              clear h
              go_wp2_with fail
              refine (impl_needsValid.calls k A1 c1 l1 Ao co o true _ (Kd.C_below HR1.out HB.out) HC1.out HRO.out.2.2 HRO.out.2.1 HN2.out).mono ?_
              rintro e w5 ⟨rfl, hb5⟩
              have HB5 := Aside0.mk (below_step HB.out hb5)
              have HO5 := Aside0.mk (Kd.R_below HO.out hb5)
              clear hb5
              go_wp2
              go_ret2
              exact ⟨_, rfl, Kd.R_mono HO5.out (fun _ _ => trivial), HB5.out⟩
            | false =>
              obtain ⟨rfl, rfl⟩ : [] = r1 ∧ false = r2 := by simpa using h
              clear h
              go_wp2_with fail
              refine (impl_needsValid.calls k A1 c1 l1 Ao co o false _ (Kd.C_below HR1.out HB.out) HC1.out HRO.out.2.2 HRO.out.2.1 HN2.out).mono ?_
              rintro e w5 ⟨rfl, hb5⟩
              have HB5 := Aside0.mk (below_step HB.out hb5)
              clear hb5
              go_wp2
              go_ret2
              exact ⟨_, rfl, Kd.R_nil _ _ _ _ _, HB5.out⟩
      · rw [if_neg hl] at h
        cases h

/-! ### spec_l15Has: function 68 -/
def spec_l15Has.l0 : Nat → List Int → Int → Int → Option (Bool)
 | 0, _, _, _ => none
 | k + 1, x0, x1, x5 => if x5 < (x0.length : Int) then (if 0 ≤ x5 then (if (rd x0 x5) = x1 then (some true) else (spec_l15Has.l0 k x0 x1 (wrap64 (x5 + 1)))) else (none)) else (some false)
def spec_l15Has.f (k : Nat) (l0 : List Int) (a1 : Int) : Option (Bool) := spec_l15Has.l0 k l0 a1 0
theorem spec_l15Has.mono_l : ∀ k, (∀ y0 y1 y2, LeO (spec_l15Has.l0 k y0 y1 y2) (spec_l15Has.l0 (k + 1) y0 y1 y2))
 | 0 => fun _ _ _ r h => by simp [spec_l15Has.l0] at h
 | k + 1 => by
  have ih0 := spec_l15Has.mono_l k
  ·intro y0 y1 y2
   unfold spec_l15Has.l0
   repeat' first
   | (with_reducible exact ih0 _ _ _)
   | (with_reducible exact LeO.refl _)
   | (with_reducible exact LeO.none _)
   | (with_reducible refine LeO.ite ?_ ?_)
   | (with_reducible refine LeO.bind ?_ (fun _ => ?_))
   | exact ih0 _ _ _
   | exact LeO.none _
   | refine LeO.ite ?_ ?_
   | refine LeO.bind ?_ (fun _ => ?_)
theorem spec_l15Has.mono : ∀ a0 a1 k, LeO (spec_l15Has.f k a0 a1) (spec_l15Has.f (k + 1) a0 a1) := by
 intro a0 a1 k
 have ih0 := spec_l15Has.mono_l k
 unfold spec_l15Has.f
 repeat' first
   | (with_reducible exact ih0 _ _ _)
   | (with_reducible exact LeO.refl _)
   | (with_reducible exact LeO.none _)
   | (with_reducible refine LeO.ite ?_ ?_)
   | (with_reducible refine LeO.bind ?_ (fun _ => ?_))
   | exact ih0 _ _ _
   | exact LeO.none _
   | refine LeO.ite ?_ ?_
   | refine LeO.bind ?_ (fun _ => ?_)
set_option maxHeartbeats 8000000 in
set_option maxRecDepth 100000 in
theorem spec_l15Has.calls (k : Nat) (A0 : Option Addr) (c0 : Nat) (l0 : List Int) (a1 : Int) (r : Bool) (w : World) (hr0 : Kd.C (Kd.int .i64) w A0 l0.length l0) (hc0 : l0.length ≤ c0) (h : spec_l15Has.f k l0 a1 = some r) :
  Calls Try.prog 68 #[.slice A0 l0.length c0, .int .i64 a1] w fun e w' => e = .returned (.bool r) ∧ Drawn0 w w' := by
 have HR0 := Aside0.mk hr0
 have HC0 := Aside0.mk hc0
 clear hr0 hc0
 have H : (spec_l15Has.l0 k l0 a1 0) = some r := h
 clear h
 have H' := Aside0.mk H
 clear H
 go_enter Try.func68, Try.ntmps68
 go_wp2
 go_loopg [5] k (fun kq v5 w' => ∃ (x5_1 : Int), v5 = .int .i64 x5_1 ∧ Aside0 (spec_l15Has.l0 kq l0 a1 x5_1 = some r) ∧ Aside0 (kq ≤ k) ∧ Drawn0 w w')
 case atStart => exact ⟨(0), pF, H', ⟨Nat.le_refl _⟩, by repeat (first | exact Drawn0.refl _ | apply Drawn0.step)⟩
 case round =>
  clear H'
  try clear p2
  obtain ⟨x5_1, rfl, HA, HK1, ⟨m1, rfl⟩⟩ := hrel
  cases gk with
  | zero => exact absurd HA.out (by simp [spec_l15Has.l0])
  | succ k1 =>
   have H := HA.out
   clear HA
   simp only [spec_l15Has.l0] at H
   by_cases c3 : x5_1 < (l0.length : Int)
   ·rw [if_pos c3] at H
    have c3b0 : decide (x5_1 < (l0.length : Int)) = true := decide_eq_true c3
    clear c3
    by_cases c4 : 0 ≤ x5_1
    ·rw [if_pos c4] at H
     have c4b0 : decide (0 ≤ x5_1) = true := decide_eq_true c4
     clear c4
     by_cases c5 : (rd l0 x5_1) = a1
     ·rw [if_pos c5] at H
      have c5b0 : ((rd l0 x5_1) == a1) = true := beq_iff_eq.mpr c5
      have c5b1 : ((rd l0 x5_1) != a1) = false := bne_eq_false_iff_eq.mpr c5
      clear c5
      obtain rfl := Option.some.inj H
      have p581 : 0 ≤ (x5_1 : Int) := of_decide_eq_true pA
      have q581 : x5_1 < (l0.length : Int) := of_decide_eq_true pA
      obtain ⟨ad581, e581, hx581_0⟩ := Kd.at_int HR0.out x5_1 p581 q581
      cases e581
      replace p581 := eq_true p581
      replace q581 := eq_true q581
      go_wp2
      go_ret
      exact ⟨pF, by repeat (first | exact Drawn0.refl _ | apply Drawn0.step)⟩
     ·rw [if_neg c5] at H
      have c5b0 : ((rd l0 x5_1) == a1) = false := beq_eq_false_iff_ne.mpr c5
      have c5b1 : ((rd l0 x5_1) != a1) = true := bne_iff_ne.mpr c5
      have H' := Aside0.mk H
      clear H
      have p581 : 0 ≤ (x5_1 : Int) := of_decide_eq_true pA
      have q581 : x5_1 < (l0.length : Int) := of_decide_eq_true pA
      obtain ⟨ad581, e581, hx581_0⟩ := Kd.at_int HR0.out x5_1 p581 q581
      cases e581
      replace p581 := eq_true p581
      replace q581 := eq_true q581
      go_wp2
      go_roundg k1
      case measure => have := HK1.out; omega
      case rel => exact ⟨(wrap64 (x5_1 + 1)), pF, H', ⟨by have := HK1.out; omega⟩, by repeat (first | exact Drawn0.refl _ | apply Drawn0.step)⟩
    ·rw [if_neg c4] at H
     exact absurd H (by simp)
   ·rw [if_neg c3] at H
    have c3b0 : decide (x5_1 < (l0.length : Int)) = false := decide_eq_false c3
    clear c3
    obtain rfl := Option.some.inj H
    go_wp2
    go_ret
    exact ⟨pF, by repeat (first | exact Drawn0.refl _ | apply Drawn0.step)⟩

/-! ### spec_l1Up: function 69 -/
def spec_l1Up.f (a0 : Int) (a1 : Int) : Option (Int) := if a1 = 0 then (none) else (some (wrap64 (Int.tdiv (wrap64 ((wrap64 (a0 + a1)) - 1)) a1)))
set_option maxHeartbeats 8000000 in
set_option maxRecDepth 100000 in
theorem spec_l1Up.calls (a0 : Int) (a1 : Int) (r : Int) (w : World) (h : spec_l1Up.f a0 a1 = some r) :
  Calls Try.prog 69 #[.int .i64 a0, .int .i64 a1] w fun e w' => e = .returned (.int .i64 r) ∧ Drawn0 w w' := by
 have H : (if a1 = 0 then (none) else (some (wrap64 (Int.tdiv (wrap64 ((wrap64 (a0 + a1)) - 1)) a1)))) = some r := h
 clear h
 by_cases c3 : a1 = 0
 ·rw [if_pos c3] at H
  exact absurd H (by simp)
 ·rw [if_neg c3] at H
  have c3b0 : (a1 == 0) = false := beq_eq_false_iff_ne.mpr c3
  have c3b1 : (a1 != 0) = true := bne_iff_ne.mpr c3
  obtain rfl := Option.some.inj H
  go_enter Try.func69, Try.ntmps69
  go_wp2
  go_ret
  exact ⟨pF, by repeat (first | exact Drawn0.refl _ | apply Drawn0.step)⟩

end Go.Proofs.Ytglddjbcaknnaaa.Q
