-- Written by the kit's print.py for all laws of the seat at once (one namespace), by a program of this session.
import Derived.Test.YtglddjbcaknnaaaQx0
import Derived.Test.YtglddjbcaknnaaaQx2
import Derived.Test.YtglddjbcaknnaaaQx3
namespace Go.Proofs.Ytglddjbcaknnaaa.Q
open Go.RowKit Go.Proofs.YtglddjbcaknnaaaW.PrintWords Go.Proofs.YtglddjbcaknnaaaW.PrintLast Go.Proofs.YtglddjbcaknnaaaW.PrintMore
attribute [local go_sem] max2_int min2_int max_two min_two max_three min_three max_four min_four   -- for this text's walks alone
set_option linter.unusedVariables false
set_option linter.unusedSimpArgs false

/-! ### spec_l15Needs: function 44 -/
def spec_l15Needs.l0 : Nat → List (S62) → List Int → Int → Option (Bool)
 | 0, _, _, _ => none
 | k + 1, x0, x1, x5 => if x5 < (x1.length : Int) then (if 0 ≤ x5 then ((spec_l6In.f (rd x1 x5) 0 999999).bind fun t112 => (if t112 = true then (spec_l15Needs.l0 k x0 x1 (wrap64 (x5 + 1))) else (some false))) else (none)) else ((spec_FoodsValid.f k x0).bind fun t113 => (if t113 = true then (some ((x1.length : Int) == (x0.length : Int))) else (some false)))
def spec_l15Needs.f (k : Nat) (l0 : List (S62)) (l1 : List Int) : Option (Bool) := spec_l15Needs.l0 k l0 l1 0
theorem spec_l15Needs.mono_l : ∀ k, (∀ y0 y1 y2, LeO (spec_l15Needs.l0 k y0 y1 y2) (spec_l15Needs.l0 (k + 1) y0 y1 y2))
 | 0 => fun _ _ _ r h => by simp [spec_l15Needs.l0] at h
 | k + 1 => by
  have ih0 := spec_l15Needs.mono_l k
  ·intro y0 y1 y2
   unfold spec_l15Needs.l0
   repeat' first
   | (with_reducible exact ih0 _ _ _)
   | (with_reducible exact spec_FoodsValid.mono _ _)
   | (with_reducible exact LeO.refl _)
   | (with_reducible exact LeO.none _)
   | (with_reducible refine LeO.ite ?_ ?_)
   | (with_reducible refine LeO.bind ?_ (fun _ => ?_))
   | exact ih0 _ _ _
   | exact spec_FoodsValid.mono _ _
   | exact LeO.none _
   | refine LeO.ite ?_ ?_
   | refine LeO.bind ?_ (fun _ => ?_)
theorem spec_l15Needs.mono : ∀ a0 a1 k, LeO (spec_l15Needs.f k a0 a1) (spec_l15Needs.f (k + 1) a0 a1) := by
 intro a0 a1 k
 have ih0 := spec_l15Needs.mono_l k
 unfold spec_l15Needs.f
 repeat' first
   | (with_reducible exact ih0 _ _ _)
   | (with_reducible exact spec_FoodsValid.mono _ _)
   | (with_reducible exact LeO.refl _)
   | (with_reducible exact LeO.none _)
   | (with_reducible refine LeO.ite ?_ ?_)
   | (with_reducible refine LeO.bind ?_ (fun _ => ?_))
   | exact ih0 _ _ _
   | exact spec_FoodsValid.mono _ _
   | exact LeO.none _
   | refine LeO.ite ?_ ?_
   | refine LeO.bind ?_ (fun _ => ?_)
set_option maxHeartbeats 8000000 in
set_option maxRecDepth 100000 in
theorem spec_l15Needs.calls (k : Nat) (A0 : Option Addr) (c0 : Nat) (l0 : List (S62)) (A1 : Option Addr) (c1 : Nat) (l1 : List Int) (r : Bool) (w : World) (hr0 : Kd.C k62 w A0 l0.length l0) (hc0 : l0.length ≤ c0) (hr1 : Kd.C (Kd.int .i64) w A1 l1.length l1) (hc1 : l1.length ≤ c1) (h : spec_l15Needs.f k l0 l1 = some r) :
  Calls Try.prog 44 #[.slice A0 l0.length c0, .slice A1 l1.length c1] w fun e w' => e = .returned (.bool r) ∧ Below w.heap.size w w' := by
 have HR0 := Aside0.mk hr0
 have HC0 := Aside0.mk hc0
 clear hr0 hc0
 have HR1 := Aside0.mk hr1
 have HC1 := Aside0.mk hc1
 clear hr1 hc1
 have HB := Aside0.mk (Below.refl w.heap.size w)
 have H : (spec_l15Needs.l0 k l0 l1 0) = some r := h
 clear h
 have H' := Aside0.mk H
 clear H
 go_enter Try.func44, Try.ntmps44
 go_wp2
 go_loopg [5] k (fun kq v5 w' => ∃ (x5_1 : Int), v5 = .int .i64 x5_1 ∧ Aside0 (spec_l15Needs.l0 kq l0 l1 x5_1 = some r) ∧ Aside0 (kq ≤ k) ∧ Aside0 (Below w.heap.size w w'))
 case atStart => exact ⟨(0), pF, H', ⟨Nat.le_refl _⟩, ⟨pB⟩⟩
 case round =>
  clear H'
  try clear c1
  try clear p2
  obtain ⟨x5_1, rfl, HA, HK1, HB⟩ := hrel
  cases gk with
  | zero => exact absurd HA.out (by simp [spec_l15Needs.l0])
  | succ k1 =>
   have H := HA.out
   clear HA
   simp only [spec_l15Needs.l0] at H
   by_cases c3 : x5_1 < (l1.length : Int)
   ·rw [if_pos c3] at H
    have c3b0 : decide (x5_1 < (l1.length : Int)) = true := decide_eq_true c3
    clear c3
    by_cases c4 : 0 ≤ x5_1
    ·rw [if_pos c4] at H
     have c4b0 : decide (0 ≤ x5_1) = true := decide_eq_true c4
     clear c4
     replace H := Option.bind_eq_some_iff.mp H
     obtain ⟨t112, A50, H⟩ := H
     replace H : (if t112 = true then (spec_l15Needs.l0 k1 l0 l1 (wrap64 (x5_1 + 1))) else (some false)) = some r := H
     have A5 := Aside0.mk A50
     clear A50
     by_cases c6 : t112 = true
     ·subst c6
      have H1 : (spec_l15Needs.l0 k1 l0 l1 (wrap64 (x5_1 + 1))) = some r := by rw [if_pos rfl] at H; exact H
      clear H
      have H := H1
      clear H1
      have H' := Aside0.mk H
      clear H
      have p111 : 0 ≤ (x5_1 : Int) := of_decide_eq_true pA
      have q111 : x5_1 < (l1.length : Int) := of_decide_eq_true pA
      obtain ⟨ad111, e111, hx111_0⟩ := Kd.at_int HR1.out x5_1 p111 q111
      cases e111
      replace hx111_0 := (HB.out.cell (World.block_lt_of_cell? w _ hx111_0)).trans hx111_0
      replace p111 := eq_true p111
      replace q111 := eq_true q111
      go_wp2_with (first | ((with_reducible refine gate_callee (f := 58) rfl ?_); refine goesL_ (some 16) rfl rfl Try.func58 pL rfl #[.int .i64 (rd l1 x5_1), .int .i64 0, .int .i64 999999] rfl pM ?_; (with_reducible refine (spec_l6In.calls (rd l1 x5_1) 0 999999 true _ A5.out).mono ?_); rintro e w' ⟨rfl, ⟨nd, rfl⟩⟩; refine ⟨_, rfl, ?_⟩))
      go_roundg k1
      case measure => have := HK1.out; omega
      case rel => exact ⟨(wrap64 (x5_1 + 1)), pF, H', ⟨by have := HK1.out; omega⟩, ⟨pB⟩⟩
     ·replace c6 := Bool.eq_false_iff.mpr c6
      subst c6
      have H1 : (some false) = some r := by rw [if_neg (show ¬ (false = true) by decide)] at H; exact H
      clear H
      have H := H1
      clear H1
      obtain rfl := Option.some.inj H
      have p111 : 0 ≤ (x5_1 : Int) := of_decide_eq_true pA
      have q111 : x5_1 < (l1.length : Int) := of_decide_eq_true pA
      obtain ⟨ad111, e111, hx111_0⟩ := Kd.at_int HR1.out x5_1 p111 q111
      cases e111
      replace hx111_0 := (HB.out.cell (World.block_lt_of_cell? w _ hx111_0)).trans hx111_0
      replace p111 := eq_true p111
      replace q111 := eq_true q111
      go_wp2_with (first | ((with_reducible refine gate_callee (f := 58) rfl ?_); refine goesL_ (some 16) rfl rfl Try.func58 pL rfl #[.int .i64 (rd l1 x5_1), .int .i64 0, .int .i64 999999] rfl pM ?_; (with_reducible refine (spec_l6In.calls (rd l1 x5_1) 0 999999 false _ A5.out).mono ?_); rintro e w' ⟨rfl, ⟨nd, rfl⟩⟩; refine ⟨_, rfl, ?_⟩))
      go_ret
      exact ⟨pE, pB⟩
    ·rw [if_neg c4] at H
     exact absurd H (by simp)
   ·rw [if_neg c3] at H
    have c3b0 : decide (x5_1 < (l1.length : Int)) = false := decide_eq_false c3
    clear c3
    replace H := Option.bind_eq_some_iff.mp H
    obtain ⟨t113, A70, H⟩ := H
    replace H : (if t113 = true then (some ((l1.length : Int) == (l0.length : Int))) else (some false)) = some r := H
    have A7 := Aside0.mk A70
    clear A70
    by_cases c8 : t113 = true
    ·subst c8
     have H1 : (some ((l1.length : Int) == (l0.length : Int))) = some r := by rw [if_pos rfl] at H; exact H
     clear H
     have H := H1
     clear H1
     obtain rfl := Option.some.inj H
     go_wp2_with (first | ((with_reducible refine gate_callee (f := 59) rfl ?_); refine goesL_ (some 19) rfl rfl Try.func59 pL rfl #[.slice A0 l0.length c0] rfl pM ?_; (with_reducible refine (spec_FoodsValid.calls k1 _ _ l0 true _ ?side1 ?side2 A7.out).mono ?_); (case side1 => exact pS ((Kd.C_below HR0.out HB.out))); (case side2 => exact HC0.out); rintro e w9 ⟨rfl, hb⟩; refine ⟨_, rfl, ?_⟩; have n0_ := Aside0.mk (below_step pB hb); clear HB; have HB := n0_; clear n0_; (try clear hb); (try clear hb2); (try clear hk); (try clear hi)))
     go_ret
     exact ⟨pE, pB⟩
    ·replace c8 := Bool.eq_false_iff.mpr c8
     subst c8
     have H1 : (some false) = some r := by rw [if_neg (show ¬ (false = true) by decide)] at H; exact H
     clear H
     have H := H1
     clear H1
     obtain rfl := Option.some.inj H
     go_wp2_with (first | ((with_reducible refine gate_callee (f := 59) rfl ?_); refine goesL_ (some 19) rfl rfl Try.func59 pL rfl #[.slice A0 l0.length c0] rfl pM ?_; (with_reducible refine (spec_FoodsValid.calls k1 _ _ l0 false _ ?side1 ?side2 A7.out).mono ?_); (case side1 => exact pS ((Kd.C_below HR0.out HB.out))); (case side2 => exact HC0.out); rintro e w10 ⟨rfl, hb⟩; refine ⟨_, rfl, ?_⟩; have n0_ := Aside0.mk (below_step pB hb); clear HB; have HB := n0_; clear n0_; (try clear hb); (try clear hb2); (try clear hk); (try clear hi)))
     go_ret
     exact ⟨pE, pB⟩

-- NOT PRINTED: function 80 (slices_IndexFunc_int_int)

-- NOT PRINTED: function 70 (slices_ContainsFunc_int_int)

/-! ### impl_needsValid: function 46 -/
-- by hand
set_option maxHeartbeats 4000000 in
set_option maxRecDepth 100000 in
/-- slices.IndexFunc: the first element of which the predicate holds. -/
theorem indexInt (p : Int → Bool) (g : Nat) (lb : Array Value) (eg : ∀ args w, (callFunc g args).run Try.prog w = .ok (.enter g args) w) (A0 : Option Addr) (c0 : Nat) (l0 : List (Int)) (w : World) (hr0 : Kd.C (Kd.int .i64) w A0 l0.length l0) (hc0 : l0.length ≤ c0)
    (hp : ∀ (W : World) (x : Int), Below w.heap.size w W → Calls Try.prog g (#[.int .i64 x] ++ lb) W fun e w' => e = .returned (.bool (p x)) ∧ Below w.heap.size w w') :
    Calls Try.prog 80 #[.slice A0 l0.length c0, .func (.func g) #[] lb] w fun e w' => e = .returned (.int .i64 (idxOf p l0)) ∧ Below w.heap.size w w' := by
  have HR0 := Aside0.mk hr0
  have HC0 := Aside0.mk hc0
  have HP := Aside0.mk hp
  have hn : l0.length ≤ 9223372036854775807 := hr0.2.1
  clear hr0 hc0 hp
  go_enter Try.func80, Try.ntmps80
  go_wp2
  go_loopg [5, 8] l0.length (fun gg _ s8 wr => ∃ x : Int, Aside0 (0 ≤ x ∧ x ≤ (l0.length : Int)) ∧ Aside0 (((l0.length : Int) - x).toNat ≤ gg) ∧ s8 = .int .i64 x ∧ Aside0 (Below w.heap.size w wr) ∧ Aside0 (∀ j : Nat, (j : Int) < x → p (l0.getD j 0) = false))
  case atStart => exact ⟨0, ⟨by omega⟩, ⟨by omega⟩, rfl, ⟨Below.refl _ w⟩, ⟨fun j hj => absurd hj (by omega)⟩⟩
  case round =>
    obtain ⟨x, HX, HG, rfl, HB, HQ⟩ := hrel
    by_cases hlt : x < (l0.length : Int)
    · have c3b0 : decide (x < (l0.length : Int)) = true := decide_eq_true hlt
      have HLT := Aside0.mk hlt
      have p1 : 0 ≤ x := HX.out.1
      obtain ⟨ad, ea, hx0⟩ := Kd.at_int (Kd.C_below HR0.out HB.out) x p1 hlt
      cases ea
      have hcall := HP.out wr (rd l0 x) HB.out
      have HY : Aside0 (rd l0 x = l0.getD x.toNat 0) := ⟨rfl⟩
      have ew : wrap64 (x + 1) = x + 1 := by unfold wrap64; omega
      have EW := Aside0.mk ew
      clear ew
      replace p1 := eq_true p1
      replace hlt := eq_true hlt
      generalize rd l0 x = y at hx0 hcall HY
      cases hq : p y with
      | true =>
        rw [hq] at hcall
        have HQQ := Aside0.mk hq
        clear hq
        go_wp2_with fail
        refine hcall.mono ?_
        rintro e w' ⟨rfl, hb'⟩
        go_wp2
        go_ret
        refine ⟨?_, hb'⟩
        show Ending.returned (.int .i64 x) = _
        rw [idxOf_hit p l0 0 x.toNat (by have := HX.out; have := HLT.out; omega) (by rw [← HY.out]; exact HQQ.out) (fun j hj => HQ.out j (by have := HX.out; omega)), Int.toNat_of_nonneg HX.out.1]
      | false =>
        rw [hq] at hcall
        have HQQ := Aside0.mk hq
        clear hq
        go_wp2_with fail
        refine hcall.mono ?_
        rintro e w' ⟨rfl, hb'⟩
        go_wp2
        go_roundg ((l0.length : Int) - (x + 1)).toNat
        case measure => have := HX.out; have := HG.out; have := HLT.out; omega
        case rel =>
          refine ⟨x + 1, ⟨by have := HX.out; have := HLT.out; omega⟩, ⟨Nat.le_refl _⟩, by first | rfl | (rw [EW.out]; done), ⟨hb'⟩, ⟨fun j hj => ?_⟩⟩
          by_cases e : (j : Int) = x
          · obtain rfl : x.toNat = j := by omega
            rw [← HY.out]; exact HQQ.out
          · exact HQ.out j (by omega)
    · have c3b0 : decide (x < (l0.length : Int)) = false := decide_eq_false hlt
      have HLT := Aside0.mk hlt
      clear hlt
      go_wp2
      go_ret
      refine ⟨?_, HB.out⟩
      show Ending.returned (.int .i64 (-1)) = _
      rw [idxOf_miss p l0 0 (fun j hj => HQ.out j (by have := HX.out; have := HLT.out; omega))]
set_option maxHeartbeats 4000000 in
set_option maxRecDepth 100000 in
theorem containsInt (p : Int → Bool) (g : Nat) (lb : Array Value) (eg : ∀ args w, (callFunc g args).run Try.prog w = .ok (.enter g args) w) (A0 : Option Addr) (c0 : Nat) (l0 : List (Int)) (w : World) (hr0 : Kd.C (Kd.int .i64) w A0 l0.length l0) (hc0 : l0.length ≤ c0)
    (hp : ∀ (W : World) (x : Int), Below w.heap.size w W → Calls Try.prog g (#[.int .i64 x] ++ lb) W fun e w' => e = .returned (.bool (p x)) ∧ Below w.heap.size w w') :
    Calls Try.prog 70 #[.slice A0 l0.length c0, .func (.func g) #[] lb] w fun e w' => e = .returned (.bool (l0.any p)) ∧ Below w.heap.size w w' := by
  have HI := Aside0.mk (indexInt p g lb eg A0 c0 l0 w hr0 hc0 hp)
  have HA := Aside0.mk (idxOf_any p l0)
  clear hr0 hc0 hp
  go_enter Try.func70, Try.ntmps70
  go_wp2_with fail
  refine HI.out.mono ?_
  rintro e w' ⟨rfl, hb'⟩
  generalize idxOf p l0 = n at HA
  go_wp2
  go_ret
  refine ⟨?_, hb'⟩
  show Ending.returned (.bool (decide (n ≥ 0))) = _
  rw [HA.out]
def impl_needsValid.bad (n : Int) : Bool := !(decide (0 ≤ n ∧ n ≤ 999999))
def impl_needsValid.f (k : Nat) (l0 : List S62) (l1 : List Int) : Option Bool := (impl_FoodsValid.f k l0).bind fun b => if b = true then (if (l1.length : Int) = (l0.length : Int) then some (!(l1.any impl_needsValid.bad)) else some false) else some false
theorem impl_needsValid.mono : ∀ a0 a1 k, LeO (impl_needsValid.f k a0 a1) (impl_needsValid.f (k + 1) a0 a1) := by
  intro a0 a1 k
  unfold impl_needsValid.f
  refine LeO.bind (impl_FoodsValid.mono _ _) (fun _ => LeO.refl _)
theorem impl_needsValid.within_at (a b c : Int) : impl_within.f a b c = some (decide (b ≤ a ∧ a ≤ c)) := by
  unfold impl_within.f
  by_cases h : a ≥ b
  · rw [if_pos h]; simp [h]
  · rw [if_neg h]; simp; omega
set_option maxHeartbeats 4000000 in
set_option maxRecDepth 100000 in
theorem impl_needsValid.lit (x : Int) (W : World) :
    Calls Try.prog 71 #[.int .i64 x] W fun e w' => e = .returned (.bool (impl_needsValid.bad x)) ∧ Below W.heap.size W w' := by
  have hw := Aside0.mk (impl_needsValid.within_at x 0 999999)
  unfold impl_needsValid.bad
  generalize decide (0 ≤ x ∧ x ≤ 999999) = b at hw
  go_enter Try.func71, Try.ntmps71
  go_wp2_with fail
  refine (impl_within.calls _ _ _ _ _ hw.out).mono ?_
  rintro e w' ⟨rfl, hd⟩
  have hd' := hd.below
  clear hd
  have HD := Aside0.mk hd'
  clear hd'
  go_wp2
  go_ret
  exact ⟨rfl, HD.out⟩
theorem impl_needsValid.enters : ∀ args w, (callFunc 71 args).run Try.prog w = .ok (.enter 71 args) w := by
  intro args w
  have h1 : Try.f71.name ≠ "runtime.NumGoroutine" := of_decide_eq_true pL
  have hb : ∃ c, Try.f71.body = some c := ⟨_, rfl⟩
  obtain ⟨c, hb⟩ := hb
  simp [callFunc, Try.func71, h1, hb, mark]
set_option maxHeartbeats 4000000 in
set_option maxRecDepth 100000 in
theorem impl_needsValid.calls (k : Nat) (A0 : Option Addr) (c0 : Nat) (l0 : List (S62)) (A1 : Option Addr) (c1 : Nat) (l1 : List Int) (r : Bool) (w : World) (hr0 : Kd.C k62 w A0 l0.length l0) (hc0 : l0.length ≤ c0) (hr1 : Kd.C (Kd.int .i64) w A1 l1.length l1) (hc1 : l1.length ≤ c1) (h : impl_needsValid.f k l0 l1 = some r) :
    Calls Try.prog 46 #[.slice A0 l0.length c0, .slice A1 l1.length c1] w fun e w' => e = .returned (.bool r) ∧ Below w.heap.size w w' := by
  unfold impl_needsValid.f at h
  obtain ⟨b, hb, h⟩ := Option.bind_eq_some_iff.1 h
  have HF := Aside0.mk (impl_FoodsValid.calls k A0 c0 l0 b w hr0 hc0 hb)
  have HR1 := Aside0.mk hr1
  have HC1 := Aside0.mk hc1
  have HH := Aside0.mk h
  clear hr0 hc0 hr1 hc1 h hb
  cases b with
  | false =>
    have e : r = false := by have := HH.out; simp at this; exact this
    subst e
    go_enter Try.func46, Try.ntmps46
    go_wp2_with fail
    refine HF.out.mono ?_
    rintro e w' ⟨rfl, hb'⟩
    go_wp2
    go_ret
    exact ⟨rfl, hb'⟩
  | true =>
    by_cases hl : (l1.length : Int) = (l0.length : Int)
    · have e : r = !(l1.any impl_needsValid.bad) := by have := HH.out; rw [if_pos rfl, if_pos hl] at this; exact (Option.some.inj this).symm
      subst e
      have c1b : ((l1.length : Int) == (l0.length : Int)) = true := beq_iff_eq.mpr hl
      have HQ : Aside0 (∀ W, Below w.heap.size w W → Calls Try.prog 70 #[.slice A1 l1.length c1, .func (.func 71) #[] #[]] W fun e w' => e = .returned (.bool (l1.any impl_needsValid.bad)) ∧ Below W.heap.size W w') := ⟨fun W hW =>
        containsInt impl_needsValid.bad 71 #[] impl_needsValid.enters A1 c1 l1 W (Kd.C_below HR1.out hW) HC1.out (fun W2 x hb2 => (impl_needsValid.lit x W2).mono fun e w' ⟨he, hb3⟩ => ⟨he, Below.trans hb2 (hb3.mono hb2.size)⟩)⟩
      clear hl HH
      generalize l1.any impl_needsValid.bad = v at HQ
      go_enter Try.func46, Try.ntmps46
      go_wp2_with fail
      refine HF.out.mono ?_
      rintro e w' ⟨rfl, hb'⟩
      have HB := Aside0.mk hb'
      clear hb'
      go_wp2_with fail
      refine (HQ.out _ HB.out).mono ?_
      rintro e w2 ⟨rfl, hb2⟩
      have HB2 := Aside0.mk hb2
      clear hb2
      go_wp2
      go_ret
      exact ⟨rfl, below_then HB.out HB.out.size HB2.out⟩
    · have e : r = false := by have := HH.out; rw [if_pos rfl, if_neg hl] at this; exact (Option.some.inj this).symm
      subst e
      have c1b : ((l1.length : Int) == (l0.length : Int)) = false := beq_eq_false_iff_ne.mpr hl
      clear hl HH
      go_enter Try.func46, Try.ntmps46
      go_wp2_with fail
      refine HF.out.mono ?_
      rintro e w' ⟨rfl, hb'⟩
      go_wp2
      go_ret
      exact ⟨rfl, hb'⟩

end Go.Proofs.Ytglddjbcaknnaaa.Q
