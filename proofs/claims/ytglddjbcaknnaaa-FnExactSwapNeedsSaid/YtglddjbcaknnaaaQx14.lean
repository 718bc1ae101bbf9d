-- Written by the kit's print.py for all laws of the seat at once (one namespace), by a program of this session.
import Derived.Test.YtglddjbcaknnaaaQx0
import Derived.Test.YtglddjbcaknnaaaQx2
import Derived.Test.YtglddjbcaknnaaaQx3
namespace Go.Proofs.Ytglddjbcaknnaaa.Q
open Go.RowKit Go.Proofs.YtglddjbcaknnaaaW.PrintWords Go.Proofs.YtglddjbcaknnaaaW.PrintLast Go.Proofs.YtglddjbcaknnaaaW.PrintMore
attribute [local go_sem] max2_int min2_int max_two min_two max_three min_three max_four min_four   -- for this text's walks alone
set_option linter.unusedVariables false
set_option linter.unusedSimpArgs false

-- NOT PRINTED: function 65 (impl_Swap_65)

-- NOT PRINTED: function 53 (impl_Swap_53)

-- NOT PRINTED: function 76 (impl_Food)

/-! ### impl_foodPlace: function 55 -/
-- by hand
set_option maxHeartbeats 4000000 in
set_option maxRecDepth 100000 in
/-- slices.IndexFunc: the first element of which the predicate holds. -/
theorem indexFood (p : S62 → Bool) (g : Nat) (lb : Array Value) (eg : ∀ args w, (callFunc g args).run Try.prog w = .ok (.enter g args) w) (A0 : Option Addr) (c0 : Nat) (l0 : List (S62)) (w : World) (hr0 : Kd.C k62 w A0 l0.length l0) (hc0 : l0.length ≤ c0)
    (hp : ∀ (W : World) (x : S62), Below w.heap.size w W → Calls Try.prog g (#[.agg #[.int .i64 x.f0, .int .i64 x.f1, .int .i64 x.f2, .int .i64 x.f3, .int .i64 x.f4, .int .i64 x.f5]] ++ lb) W fun e w' => e = .returned (.bool (p x)) ∧ Below w.heap.size w w') :
    Calls Try.prog 76 #[.slice A0 l0.length c0, .func (.func g) #[] lb] w fun e w' => e = .returned (.int .i64 (idxOf p l0)) ∧ Below w.heap.size w w' := by
  have hu62 := Try.underlying62
  have HR0 := Aside0.mk hr0
  have HC0 := Aside0.mk hc0
  have HP := Aside0.mk hp
  have hn : l0.length ≤ 9223372036854775807 := hr0.2.1
  clear hr0 hc0 hp
  go_enter Try.func76, Try.ntmps76
  go_wp2
  go_loopg [5, 8] l0.length (fun gg _ s8 wr => ∃ x : Int, Aside0 (0 ≤ x ∧ x ≤ (l0.length : Int)) ∧ Aside0 (((l0.length : Int) - x).toNat ≤ gg) ∧ s8 = .int .i64 x ∧ Aside0 (Below w.heap.size w wr) ∧ Aside0 (∀ j : Nat, (j : Int) < x → p (l0.getD j z62) = false))
  case atStart => exact ⟨0, ⟨by omega⟩, ⟨by omega⟩, rfl, ⟨Below.refl _ w⟩, ⟨fun j hj => absurd hj (by omega)⟩⟩
  case round =>
    obtain ⟨x, HX, HG, rfl, HB, HQ⟩ := hrel
    by_cases hlt : x < (l0.length : Int)
    · have c3b0 : decide (x < (l0.length : Int)) = true := decide_eq_true hlt
      have HLT := Aside0.mk hlt
      have p1 : 0 ≤ x := HX.out.1
      obtain ⟨ad, ea, hx0, hx1, hx2, hx3, hx4, hx5⟩ := at_T62 (Kd.C_below HR0.out HB.out) x p1 hlt
      cases ea
      have hcall := HP.out wr (rd_T62 l0 x) HB.out
      have HY : Aside0 (rd_T62 l0 x = l0.getD x.toNat z62) := ⟨rfl⟩
      have ew : wrap64 (x + 1) = x + 1 := by unfold wrap64; omega
      have EW := Aside0.mk ew
      clear ew
      replace p1 := eq_true p1
      replace hlt := eq_true hlt
      generalize rd_T62 l0 x = y at hx0 hx1 hx2 hx3 hx4 hx5 hcall HY
      cases hq : p y with
      | true =>
        rw [hq] at hcall
        have HQQ := Aside0.mk hq
        clear hq
        go_wp2_with fail
        refine hcall.mono ?_
        rintro e w' ⟨rfl, hb'⟩
        go_wp2
        go_ret
        refine ⟨?_, hb'⟩
        show Ending.returned (.int .i64 x) = _
        rw [idxOf_hit p l0 z62 x.toNat (by have := HX.out; have := HLT.out; omega) (by rw [← HY.out]; exact HQQ.out) (fun j hj => HQ.out j (by have := HX.out; omega)), Int.toNat_of_nonneg HX.out.1]
      | false =>
        rw [hq] at hcall
        have HQQ := Aside0.mk hq
        clear hq
        go_wp2_with fail
        refine hcall.mono ?_
        rintro e w' ⟨rfl, hb'⟩
        go_wp2
        go_roundg ((l0.length : Int) - (x + 1)).toNat
        case measure => have := HX.out; have := HG.out; have := HLT.out; omega
        case rel =>
          refine ⟨x + 1, ⟨by have := HX.out; have := HLT.out; omega⟩, ⟨Nat.le_refl _⟩, by first | rfl | (rw [EW.out]; done), ⟨hb'⟩, ⟨fun j hj => ?_⟩⟩
          by_cases e : (j : Int) = x
          · obtain rfl : x.toNat = j := by omega
            rw [← HY.out]; exact HQQ.out
          · exact HQ.out j (by omega)
    · have c3b0 : decide (x < (l0.length : Int)) = false := decide_eq_false hlt
      have HLT := Aside0.mk hlt
      clear hlt
      go_wp2
      go_ret
      refine ⟨?_, HB.out⟩
      show Ending.returned (.int .i64 (-1)) = _
      rw [idxOf_miss p l0 z62 (fun j hj => HQ.out j (by have := HX.out; have := HLT.out; omega))]
def impl_foodPlace.f (l0 : List S62) (a1 : Int) : Option Int := some (idxOf (fun x => x.f0 == a1) l0)
set_option maxHeartbeats 4000000 in
set_option maxRecDepth 100000 in
theorem impl_foodPlace.lit (x : S62) (a : Int) (B : Nat) (W : World) (hc : W.cell? ⟨B, 0, none⟩ = some (.int .i64 a)) :
    Calls Try.prog 77 #[.agg #[.int .i64 x.f0, .int .i64 x.f1, .int .i64 x.f2, .int .i64 x.f3, .int .i64 x.f4, .int .i64 x.f5], .pointer (some ⟨B, 0, none⟩)] W fun e w' => e = .returned (.bool (x.f0 == a)) ∧ Below W.heap.size W w' := by
  have hu62 := Try.underlying62
  have hb : B < W.heap.size := World.block_lt_of_cell? W ⟨B, 0, none⟩ hc
  go_enter Try.func77, Try.ntmps77
  go_wp2
  go_ret
  exact ⟨rfl, below_alloc (Below.refl _ _) _⟩
theorem impl_foodPlace.enters : ∀ args w, (callFunc 77 args).run Try.prog w = .ok (.enter 77 args) w := by
  intro args w
  have h1 : Try.f77.name ≠ "runtime.NumGoroutine" := of_decide_eq_true pL
  have hb : ∃ c, Try.f77.body = some c := ⟨_, rfl⟩
  obtain ⟨c, hb⟩ := hb
  simp [callFunc, Try.func77, h1, hb, mark]
set_option maxHeartbeats 4000000 in
set_option maxRecDepth 100000 in
theorem impl_foodPlace.calls (A0 : Option Addr) (c0 : Nat) (l0 : List (S62)) (a1 : Int) (r : Int) (w : World) (hr0 : Kd.C k62 w A0 l0.length l0) (hc0 : l0.length ≤ c0) (h : impl_foodPlace.f l0 a1 = some r) :
    Calls Try.prog 55 #[.slice A0 l0.length c0, .int .i64 a1] w fun e w' => e = .returned (.int .i64 r) ∧ Below w.heap.size w w' := by
  obtain rfl := Option.some.inj h
  have HR0 := Aside0.mk hr0
  have HC0 := Aside0.mk hc0
  clear hr0 hc0 h
  go_enter Try.func55, Try.ntmps55
  go_wp2_with fail
  refine (indexFood (fun x => x.f0 == a1) 77 #[.pointer (some ⟨w.heap.size, 0, none⟩)] impl_foodPlace.enters A0 c0 l0 _ (Kd.C_below HR0.out (below_alloc (Below.refl _ _) _)) HC0.out ?_).mono ?_
  · intro W x hb
    refine (impl_foodPlace.lit x a1 w.heap.size W ?_).mono fun e w' ⟨he, hb'⟩ => ⟨he, Below.trans hb (hb'.mono ?_)⟩
    · rw [hb.cell (p := ⟨w.heap.size, 0, none⟩) (by simp)]
      simp
    · exact hb.size
  rintro e w' ⟨rfl, hb'⟩
  go_wp2
  go_ret
  exact ⟨rfl, below_then (below_alloc (Below.refl _ _) _) (by simp) hb'⟩

/-! ### impl_SwapsValid: function 24 -/
-- by hand
set_option maxHeartbeats 4000000 in
set_option maxRecDepth 100000 in
/-- slices.IndexFunc: the first element of which the predicate holds. -/
theorem indexSwap (p : S41 → Bool) (g : Nat) (lb : Array Value) (eg : ∀ args w, (callFunc g args).run Try.prog w = .ok (.enter g args) w) (A0 : Option Addr) (c0 : Nat) (l0 : List (S41)) (w : World) (hr0 : Kd.C k41 w A0 l0.length l0) (hc0 : l0.length ≤ c0)
    (hp : ∀ (W : World) (x : S41), Below w.heap.size w W → Calls Try.prog g (#[.agg #[.int .i64 x.f0, .int .i64 x.f1, .int .i64 x.f2, .int .i64 x.f3]] ++ lb) W fun e w' => e = .returned (.bool (p x)) ∧ Below w.heap.size w w') :
    Calls Try.prog 65 #[.slice A0 l0.length c0, .func (.func g) #[] lb] w fun e w' => e = .returned (.int .i64 (idxOf p l0)) ∧ Below w.heap.size w w' := by
  have hu41 := Try.underlying41
  have HR0 := Aside0.mk hr0
  have HC0 := Aside0.mk hc0
  have HP := Aside0.mk hp
  have hn : l0.length ≤ 9223372036854775807 := hr0.2.1
  clear hr0 hc0 hp
  go_enter Try.func65, Try.ntmps65
  go_wp2
  go_loopg [5, 8] l0.length (fun gg _ s8 wr => ∃ x : Int, Aside0 (0 ≤ x ∧ x ≤ (l0.length : Int)) ∧ Aside0 (((l0.length : Int) - x).toNat ≤ gg) ∧ s8 = .int .i64 x ∧ Aside0 (Below w.heap.size w wr) ∧ Aside0 (∀ j : Nat, (j : Int) < x → p (l0.getD j z41) = false))
  case atStart => exact ⟨0, ⟨by omega⟩, ⟨by omega⟩, rfl, ⟨Below.refl _ w⟩, ⟨fun j hj => absurd hj (by omega)⟩⟩
  case round =>
    obtain ⟨x, HX, HG, rfl, HB, HQ⟩ := hrel
    by_cases hlt : x < (l0.length : Int)
    · have c3b0 : decide (x < (l0.length : Int)) = true := decide_eq_true hlt
      have HLT := Aside0.mk hlt
      have p1 : 0 ≤ x := HX.out.1
      obtain ⟨ad, ea, hx0, hx1, hx2, hx3⟩ := at_T41 (Kd.C_below HR0.out HB.out) x p1 hlt
      cases ea
      have hcall := HP.out wr (rd_T41 l0 x) HB.out
      have HY : Aside0 (rd_T41 l0 x = l0.getD x.toNat z41) := ⟨rfl⟩
      have ew : wrap64 (x + 1) = x + 1 := by unfold wrap64; omega
      have EW := Aside0.mk ew
      clear ew
      replace p1 := eq_true p1
      replace hlt := eq_true hlt
      generalize rd_T41 l0 x = y at hx0 hx1 hx2 hx3 hcall HY
      cases hq : p y with
      | true =>
        rw [hq] at hcall
        have HQQ := Aside0.mk hq
        clear hq
        go_wp2_with fail
        refine hcall.mono ?_
        rintro e w' ⟨rfl, hb'⟩
        go_wp2
        go_ret
        refine ⟨?_, hb'⟩
        show Ending.returned (.int .i64 x) = _
        rw [idxOf_hit p l0 z41 x.toNat (by have := HX.out; have := HLT.out; omega) (by rw [← HY.out]; exact HQQ.out) (fun j hj => HQ.out j (by have := HX.out; omega)), Int.toNat_of_nonneg HX.out.1]
      | false =>
        rw [hq] at hcall
        have HQQ := Aside0.mk hq
        clear hq
        go_wp2_with fail
        refine hcall.mono ?_
        rintro e w' ⟨rfl, hb'⟩
        go_wp2
        go_roundg ((l0.length : Int) - (x + 1)).toNat
        case measure => have := HX.out; have := HG.out; have := HLT.out; omega
        case rel =>
          refine ⟨x + 1, ⟨by have := HX.out; have := HLT.out; omega⟩, ⟨Nat.le_refl _⟩, by first | rfl | (rw [EW.out]; done), ⟨hb'⟩, ⟨fun j hj => ?_⟩⟩
          by_cases e : (j : Int) = x
          · obtain rfl : x.toNat = j := by omega
            rw [← HY.out]; exact HQQ.out
          · exact HQ.out j (by omega)
    · have c3b0 : decide (x < (l0.length : Int)) = false := decide_eq_false hlt
      have HLT := Aside0.mk hlt
      clear hlt
      go_wp2
      go_ret
      refine ⟨?_, HB.out⟩
      show Ending.returned (.int .i64 (-1)) = _
      rw [idxOf_miss p l0 z41 (fun j hj => HQ.out j (by have := HX.out; have := HLT.out; omega))]
set_option maxHeartbeats 4000000 in
set_option maxRecDepth 100000 in
theorem containsSwap (p : S41 → Bool) (g : Nat) (lb : Array Value) (eg : ∀ args w, (callFunc g args).run Try.prog w = .ok (.enter g args) w) (A0 : Option Addr) (c0 : Nat) (l0 : List (S41)) (w : World) (hr0 : Kd.C k41 w A0 l0.length l0) (hc0 : l0.length ≤ c0)
    (hp : ∀ (W : World) (x : S41), Below w.heap.size w W → Calls Try.prog g (#[.agg #[.int .i64 x.f0, .int .i64 x.f1, .int .i64 x.f2, .int .i64 x.f3]] ++ lb) W fun e w' => e = .returned (.bool (p x)) ∧ Below w.heap.size w w') :
    Calls Try.prog 53 #[.slice A0 l0.length c0, .func (.func g) #[] lb] w fun e w' => e = .returned (.bool (l0.any p)) ∧ Below w.heap.size w w' := by
  have HI := Aside0.mk (indexSwap p g lb eg A0 c0 l0 w hr0 hc0 hp)
  have HA := Aside0.mk (idxOf_any p l0)
  clear hr0 hc0 hp
  go_enter Try.func53, Try.ntmps53
  go_wp2_with fail
  refine HI.out.mono ?_
  rintro e w' ⟨rfl, hb'⟩
  generalize idxOf p l0 = n at HA
  go_wp2
  go_ret
  refine ⟨?_, hb'⟩
  show Ending.returned (.bool (decide (n ≥ 0))) = _
  rw [HA.out]
def impl_SwapsValid.bad (l1 : List S62) (x : S41) : Bool := if x.f0 = x.f1 then true else if idxOf (fun y => y.f0 == x.f0) l1 < 0 then true else if idxOf (fun y => y.f0 == x.f1) l1 < 0 then true else if 1 ≤ x.f2 ∧ x.f2 ≤ 9 then !(decide (1 ≤ x.f3 ∧ x.f3 ≤ 9)) else true
def impl_SwapsValid.f (k : Nat) (l0 : List S41) (l1 : List S62) : Option Bool := (impl_FoodsValid.f k l1).bind fun b => if b = true then (if (l0.length : Int) ≤ 6 then some (!(l0.any (impl_SwapsValid.bad l1))) else some false) else some false
theorem impl_SwapsValid.mono : ∀ a0 a1 k, LeO (impl_SwapsValid.f k a0 a1) (impl_SwapsValid.f (k + 1) a0 a1) := by
  intro a0 a1 k
  unfold impl_SwapsValid.f
  refine LeO.bind (impl_FoodsValid.mono _ _) (fun _ => LeO.refl _)
theorem impl_SwapsValid.within_at (a b c : Int) : impl_within.f a b c = some (decide (b ≤ a ∧ a ≤ c)) := by
  unfold impl_within.f
  by_cases h : a ≥ b
  · rw [if_pos h]; simp [h]
  · rw [if_neg h]; simp; omega
set_option maxHeartbeats 4000000 in
set_option maxRecDepth 100000 in
theorem impl_SwapsValid.lit (A1 : Option Addr) (c1 : Nat) (l1 : List S62) (x : S41) (B : Nat) (W : World) (hc : W.cell? ⟨B, 0, none⟩ = some (.slice A1 l1.length c1)) (hr1 : Kd.C k62 W A1 l1.length l1) (hc1 : l1.length ≤ c1) :
    Calls Try.prog 54 #[.agg #[.int .i64 x.f0, .int .i64 x.f1, .int .i64 x.f2, .int .i64 x.f3], .pointer (some ⟨B, 0, none⟩)] W fun e w' => e = .returned (.bool (impl_SwapsValid.bad l1 x)) ∧ Below W.heap.size W w' := by
  have hu41 := Try.underlying41
  have hb : B < W.heap.size := World.block_lt_of_cell? W ⟨B, 0, none⟩ hc
  have HR := Aside0.mk hr1
  have HC := Aside0.mk hc1
  have HE : Aside0 (∀ W2, Below W.heap.size W W2 → ∀ a, Calls Try.prog 55 #[.slice A1 l1.length c1, .int .i64 a] W2 fun e w' => e = .returned (.int .i64 (idxOf (fun y => y.f0 == a) l1)) ∧ Below W2.heap.size W2 w') := ⟨fun W2 h2 a => impl_foodPlace.calls A1 c1 l1 a _ W2 (Kd.C_below HR.out h2) HC.out rfl⟩
  clear hr1 hc1
  obtain ⟨a0, a1, a2, a3⟩ := x
  unfold impl_SwapsValid.bad
  simp only
  by_cases h1 : a0 = a1
  · rw [if_pos h1]
    have c1b : (a0 == a1) = true := beq_iff_eq.mpr h1
    clear h1
    go_enter Try.func54, Try.ntmps54
    go_wp2
    go_ret
    exact ⟨rfl, below_alloc (Below.refl _ _) _⟩
  rw [if_neg h1]
  have c1b : (a0 == a1) = false := beq_eq_false_iff_ne.mpr h1
  have H0 := Aside0.mk (fun W2 h2 => HE.out W2 h2 a0)
  have H1 := Aside0.mk (fun W2 h2 => HE.out W2 h2 a1)
  have V2 := Aside0.mk (impl_SwapsValid.within_at a2 1 9)
  have V3 := Aside0.mk (impl_SwapsValid.within_at a3 1 9)
  clear h1 HE HR HC
  generalize idxOf (fun y => y.f0 == a0) l1 = n0 at H0
  generalize idxOf (fun y => y.f0 == a1) l1 = n1 at H1
  by_cases hn0 : n0 < 0
  · rw [if_pos hn0]
    have e0 : decide (n0 < 0) = true := decide_eq_true hn0
    clear hn0
    go_enter Try.func54, Try.ntmps54
    go_wp2_with fail
    refine (H0.out _ (below_alloc (Below.refl _ _) _)).mono ?_
    rintro e w1 ⟨rfl, hb1⟩
    have g1 : Below (W.heap.size + 1) (W.alloc (.cells #[.int .i64 a0, .int .i64 a1, .int .i64 a2, .int .i64 a3] 41)) w1 := by simpa using hb1
    have d1_0 : w1.cell? ⟨W.heap.size, 0, none⟩ = some (.int .i64 a0) := (g1.cell (p := ⟨W.heap.size, 0, none⟩) (by simp)).trans (by simp)
    have d1_1 : w1.cell? ⟨W.heap.size, 1, none⟩ = some (.int .i64 a1) := (g1.cell (p := ⟨W.heap.size, 1, none⟩) (by simp)).trans (by simp)
    have d1_2 : w1.cell? ⟨W.heap.size, 2, none⟩ = some (.int .i64 a2) := (g1.cell (p := ⟨W.heap.size, 2, none⟩) (by simp)).trans (by simp)
    have d1_3 : w1.cell? ⟨W.heap.size, 3, none⟩ = some (.int .i64 a3) := (g1.cell (p := ⟨W.heap.size, 3, none⟩) (by simp)).trans (by simp)
    have dB1 : w1.cell? ⟨B, 0, none⟩ = some (.slice A1 l1.length c1) := (g1.cell (p := ⟨B, 0, none⟩) (by simp; omega)).trans (pw_cell_below (below_alloc (Below.refl _ _) _) hc)
    have F1 : Aside0 (Below W.heap.size W w1) := ⟨below_then (below_alloc (Below.refl _ _) _) (by simp) (by simpa using g1)⟩
    have G1 := Aside0.mk g1
    have gz1 := g1.size
    simp at gz1
    clear hb1 g1
    go_wp2
    go_ret
    exact ⟨rfl, F1.out⟩
  rw [if_neg hn0]
  have e0 : decide (n0 < 0) = false := decide_eq_false hn0
  clear hn0
  by_cases hn1 : n1 < 0
  · rw [if_pos hn1]
    have e1 : decide (n1 < 0) = true := decide_eq_true hn1
    clear hn1
    go_enter Try.func54, Try.ntmps54
    go_wp2_with fail
    refine (H0.out _ (below_alloc (Below.refl _ _) _)).mono ?_
    rintro e w1 ⟨rfl, hb1⟩
    have g1 : Below (W.heap.size + 1) (W.alloc (.cells #[.int .i64 a0, .int .i64 a1, .int .i64 a2, .int .i64 a3] 41)) w1 := by simpa using hb1
    have d1_0 : w1.cell? ⟨W.heap.size, 0, none⟩ = some (.int .i64 a0) := (g1.cell (p := ⟨W.heap.size, 0, none⟩) (by simp)).trans (by simp)
    have d1_1 : w1.cell? ⟨W.heap.size, 1, none⟩ = some (.int .i64 a1) := (g1.cell (p := ⟨W.heap.size, 1, none⟩) (by simp)).trans (by simp)
    have d1_2 : w1.cell? ⟨W.heap.size, 2, none⟩ = some (.int .i64 a2) := (g1.cell (p := ⟨W.heap.size, 2, none⟩) (by simp)).trans (by simp)
    have d1_3 : w1.cell? ⟨W.heap.size, 3, none⟩ = some (.int .i64 a3) := (g1.cell (p := ⟨W.heap.size, 3, none⟩) (by simp)).trans (by simp)
    have dB1 : w1.cell? ⟨B, 0, none⟩ = some (.slice A1 l1.length c1) := (g1.cell (p := ⟨B, 0, none⟩) (by simp; omega)).trans (pw_cell_below (below_alloc (Below.refl _ _) _) hc)
    have F1 : Aside0 (Below W.heap.size W w1) := ⟨below_then (below_alloc (Below.refl _ _) _) (by simp) (by simpa using g1)⟩
    have G1 := Aside0.mk g1
    have gz1 := g1.size
    simp at gz1
    clear hb1 g1
    go_wp2_with fail
    refine (H1.out _ F1.out).mono ?_
    rintro e w2 ⟨rfl, hb2⟩
    have g2 := Below.trans G1.out (hb2.mono (by have := G1.out.size; simp at this; omega))
    have d2_0 : w2.cell? ⟨W.heap.size, 0, none⟩ = some (.int .i64 a0) := (g2.cell (p := ⟨W.heap.size, 0, none⟩) (by simp)).trans (by simp)
    have d2_1 : w2.cell? ⟨W.heap.size, 1, none⟩ = some (.int .i64 a1) := (g2.cell (p := ⟨W.heap.size, 1, none⟩) (by simp)).trans (by simp)
    have d2_2 : w2.cell? ⟨W.heap.size, 2, none⟩ = some (.int .i64 a2) := (g2.cell (p := ⟨W.heap.size, 2, none⟩) (by simp)).trans (by simp)
    have d2_3 : w2.cell? ⟨W.heap.size, 3, none⟩ = some (.int .i64 a3) := (g2.cell (p := ⟨W.heap.size, 3, none⟩) (by simp)).trans (by simp)
    have dB2 : w2.cell? ⟨B, 0, none⟩ = some (.slice A1 l1.length c1) := (g2.cell (p := ⟨B, 0, none⟩) (by simp; omega)).trans (pw_cell_below (below_alloc (Below.refl _ _) _) hc)
    have F2 : Aside0 (Below W.heap.size W w2) := ⟨below_then (below_alloc (Below.refl _ _) _) (by simp) (by simpa using g2)⟩
    have G2 := Aside0.mk g2
    have gz2 := g2.size
    simp at gz2
    clear hb2 g2
    go_wp2
    go_ret
    exact ⟨rfl, F2.out⟩
  rw [if_neg hn1]
  have e1 : decide (n1 < 0) = false := decide_eq_false hn1
  clear hn1
  by_cases h2 : 1 ≤ a2 ∧ a2 ≤ 9
  · rw [if_pos h2]
    rw [decide_eq_true h2] at V2
    clear h2
    generalize decide (1 ≤ a3 ∧ a3 ≤ 9) = v3 at V3
    go_enter Try.func54, Try.ntmps54
    go_wp2_with fail
    refine (H0.out _ (below_alloc (Below.refl _ _) _)).mono ?_
    rintro e w1 ⟨rfl, hb1⟩
    have g1 : Below (W.heap.size + 1) (W.alloc (.cells #[.int .i64 a0, .int .i64 a1, .int .i64 a2, .int .i64 a3] 41)) w1 := by simpa using hb1
    have d1_0 : w1.cell? ⟨W.heap.size, 0, none⟩ = some (.int .i64 a0) := (g1.cell (p := ⟨W.heap.size, 0, none⟩) (by simp)).trans (by simp)
    have d1_1 : w1.cell? ⟨W.heap.size, 1, none⟩ = some (.int .i64 a1) := (g1.cell (p := ⟨W.heap.size, 1, none⟩) (by simp)).trans (by simp)
    have d1_2 : w1.cell? ⟨W.heap.size, 2, none⟩ = some (.int .i64 a2) := (g1.cell (p := ⟨W.heap.size, 2, none⟩) (by simp)).trans (by simp)
    have d1_3 : w1.cell? ⟨W.heap.size, 3, none⟩ = some (.int .i64 a3) := (g1.cell (p := ⟨W.heap.size, 3, none⟩) (by simp)).trans (by simp)
    have dB1 : w1.cell? ⟨B, 0, none⟩ = some (.slice A1 l1.length c1) := (g1.cell (p := ⟨B, 0, none⟩) (by simp; omega)).trans (pw_cell_below (below_alloc (Below.refl _ _) _) hc)
    have F1 : Aside0 (Below W.heap.size W w1) := ⟨below_then (below_alloc (Below.refl _ _) _) (by simp) (by simpa using g1)⟩
    have G1 := Aside0.mk g1
    have gz1 := g1.size
    simp at gz1
    clear hb1 g1
    go_wp2_with fail
    refine (H1.out _ F1.out).mono ?_
    rintro e w2 ⟨rfl, hb2⟩
    have g2 := Below.trans G1.out (hb2.mono (by have := G1.out.size; simp at this; omega))
    have d2_0 : w2.cell? ⟨W.heap.size, 0, none⟩ = some (.int .i64 a0) := (g2.cell (p := ⟨W.heap.size, 0, none⟩) (by simp)).trans (by simp)
    have d2_1 : w2.cell? ⟨W.heap.size, 1, none⟩ = some (.int .i64 a1) := (g2.cell (p := ⟨W.heap.size, 1, none⟩) (by simp)).trans (by simp)
    have d2_2 : w2.cell? ⟨W.heap.size, 2, none⟩ = some (.int .i64 a2) := (g2.cell (p := ⟨W.heap.size, 2, none⟩) (by simp)).trans (by simp)
    have d2_3 : w2.cell? ⟨W.heap.size, 3, none⟩ = some (.int .i64 a3) := (g2.cell (p := ⟨W.heap.size, 3, none⟩) (by simp)).trans (by simp)
    have dB2 : w2.cell? ⟨B, 0, none⟩ = some (.slice A1 l1.length c1) := (g2.cell (p := ⟨B, 0, none⟩) (by simp; omega)).trans (pw_cell_below (below_alloc (Below.refl _ _) _) hc)
    have F2 : Aside0 (Below W.heap.size W w2) := ⟨below_then (below_alloc (Below.refl _ _) _) (by simp) (by simpa using g2)⟩
    have G2 := Aside0.mk g2
    have gz2 := g2.size
    simp at gz2
    clear hb2 g2
    go_wp2_with fail
    refine (impl_within.calls _ _ _ _ _ V2.out).mono ?_
    rintro e w3 ⟨rfl, hb3⟩
    have hb3_ := hb3.below
    clear hb3
    have hb3 := hb3_
    clear hb3_
    have g3 := Below.trans G2.out (hb3.mono (by have := G2.out.size; simp at this; omega))
    have d3_0 : w3.cell? ⟨W.heap.size, 0, none⟩ = some (.int .i64 a0) := (g3.cell (p := ⟨W.heap.size, 0, none⟩) (by simp)).trans (by simp)
    have d3_1 : w3.cell? ⟨W.heap.size, 1, none⟩ = some (.int .i64 a1) := (g3.cell (p := ⟨W.heap.size, 1, none⟩) (by simp)).trans (by simp)
    have d3_2 : w3.cell? ⟨W.heap.size, 2, none⟩ = some (.int .i64 a2) := (g3.cell (p := ⟨W.heap.size, 2, none⟩) (by simp)).trans (by simp)
    have d3_3 : w3.cell? ⟨W.heap.size, 3, none⟩ = some (.int .i64 a3) := (g3.cell (p := ⟨W.heap.size, 3, none⟩) (by simp)).trans (by simp)
    have dB3 : w3.cell? ⟨B, 0, none⟩ = some (.slice A1 l1.length c1) := (g3.cell (p := ⟨B, 0, none⟩) (by simp; omega)).trans (pw_cell_below (below_alloc (Below.refl _ _) _) hc)
    have F3 : Aside0 (Below W.heap.size W w3) := ⟨below_then (below_alloc (Below.refl _ _) _) (by simp) (by simpa using g3)⟩
    have G3 := Aside0.mk g3
    have gz3 := g3.size
    simp at gz3
    clear hb3 g3
    go_wp2_with fail
    refine (impl_within.calls _ _ _ _ _ V3.out).mono ?_
    rintro e w4 ⟨rfl, hb4⟩
    have hb4_ := hb4.below
    clear hb4
    have hb4 := hb4_
    clear hb4_
    have g4 := Below.trans G3.out (hb4.mono (by have := G3.out.size; simp at this; omega))
    have d4_0 : w4.cell? ⟨W.heap.size, 0, none⟩ = some (.int .i64 a0) := (g4.cell (p := ⟨W.heap.size, 0, none⟩) (by simp)).trans (by simp)
    have d4_1 : w4.cell? ⟨W.heap.size, 1, none⟩ = some (.int .i64 a1) := (g4.cell (p := ⟨W.heap.size, 1, none⟩) (by simp)).trans (by simp)
    have d4_2 : w4.cell? ⟨W.heap.size, 2, none⟩ = some (.int .i64 a2) := (g4.cell (p := ⟨W.heap.size, 2, none⟩) (by simp)).trans (by simp)
    have d4_3 : w4.cell? ⟨W.heap.size, 3, none⟩ = some (.int .i64 a3) := (g4.cell (p := ⟨W.heap.size, 3, none⟩) (by simp)).trans (by simp)
    have dB4 : w4.cell? ⟨B, 0, none⟩ = some (.slice A1 l1.length c1) := (g4.cell (p := ⟨B, 0, none⟩) (by simp; omega)).trans (pw_cell_below (below_alloc (Below.refl _ _) _) hc)
    have F4 : Aside0 (Below W.heap.size W w4) := ⟨below_then (below_alloc (Below.refl _ _) _) (by simp) (by simpa using g4)⟩
    have G4 := Aside0.mk g4
    have gz4 := g4.size
    simp at gz4
    clear hb4 g4
    go_wp2
    go_ret
    exact ⟨rfl, F4.out⟩
  rw [if_neg h2]
  rw [decide_eq_false h2] at V2
  clear h2
  go_enter Try.func54, Try.ntmps54
  go_wp2_with fail
  refine (H0.out _ (below_alloc (Below.refl _ _) _)).mono ?_
  rintro e w1 ⟨rfl, hb1⟩
  have g1 : Below (W.heap.size + 1) (W.alloc (.cells #[.int .i64 a0, .int .i64 a1, .int .i64 a2, .int .i64 a3] 41)) w1 := by simpa using hb1
  have d1_0 : w1.cell? ⟨W.heap.size, 0, none⟩ = some (.int .i64 a0) := (g1.cell (p := ⟨W.heap.size, 0, none⟩) (by simp)).trans (by simp)
  have d1_1 : w1.cell? ⟨W.heap.size, 1, none⟩ = some (.int .i64 a1) := (g1.cell (p := ⟨W.heap.size, 1, none⟩) (by simp)).trans (by simp)
  have d1_2 : w1.cell? ⟨W.heap.size, 2, none⟩ = some (.int .i64 a2) := (g1.cell (p := ⟨W.heap.size, 2, none⟩) (by simp)).trans (by simp)
  have d1_3 : w1.cell? ⟨W.heap.size, 3, none⟩ = some (.int .i64 a3) := (g1.cell (p := ⟨W.heap.size, 3, none⟩) (by simp)).trans (by simp)
  have dB1 : w1.cell? ⟨B, 0, none⟩ = some (.slice A1 l1.length c1) := (g1.cell (p := ⟨B, 0, none⟩) (by simp; omega)).trans (pw_cell_below (below_alloc (Below.refl _ _) _) hc)
  have F1 : Aside0 (Below W.heap.size W w1) := ⟨below_then (below_alloc (Below.refl _ _) _) (by simp) (by simpa using g1)⟩
  have G1 := Aside0.mk g1
  have gz1 := g1.size
  simp at gz1
  clear hb1 g1
  go_wp2_with fail
  refine (H1.out _ F1.out).mono ?_
  rintro e w2 ⟨rfl, hb2⟩
  have g2 := Below.trans G1.out (hb2.mono (by have := G1.out.size; simp at this; omega))
  have d2_0 : w2.cell? ⟨W.heap.size, 0, none⟩ = some (.int .i64 a0) := (g2.cell (p := ⟨W.heap.size, 0, none⟩) (by simp)).trans (by simp)
  have d2_1 : w2.cell? ⟨W.heap.size, 1, none⟩ = some (.int .i64 a1) := (g2.cell (p := ⟨W.heap.size, 1, none⟩) (by simp)).trans (by simp)
  have d2_2 : w2.cell? ⟨W.heap.size, 2, none⟩ = some (.int .i64 a2) := (g2.cell (p := ⟨W.heap.size, 2, none⟩) (by simp)).trans (by simp)
  have d2_3 : w2.cell? ⟨W.heap.size, 3, none⟩ = some (.int .i64 a3) := (g2.cell (p := ⟨W.heap.size, 3, none⟩) (by simp)).trans (by simp)
  have dB2 : w2.cell? ⟨B, 0, none⟩ = some (.slice A1 l1.length c1) := (g2.cell (p := ⟨B, 0, none⟩) (by simp; omega)).trans (pw_cell_below (below_alloc (Below.refl _ _) _) hc)
  have F2 : Aside0 (Below W.heap.size W w2) := ⟨below_then (below_alloc (Below.refl _ _) _) (by simp) (by simpa using g2)⟩
  have G2 := Aside0.mk g2
  have gz2 := g2.size
  simp at gz2
  clear hb2 g2
  go_wp2_with fail
  refine (impl_within.calls _ _ _ _ _ V2.out).mono ?_
  rintro e w3 ⟨rfl, hb3⟩
  have hb3_ := hb3.below
  clear hb3
  have hb3 := hb3_
  clear hb3_
  have g3 := Below.trans G2.out (hb3.mono (by have := G2.out.size; simp at this; omega))
  have d3_0 : w3.cell? ⟨W.heap.size, 0, none⟩ = some (.int .i64 a0) := (g3.cell (p := ⟨W.heap.size, 0, none⟩) (by simp)).trans (by simp)
  have d3_1 : w3.cell? ⟨W.heap.size, 1, none⟩ = some (.int .i64 a1) := (g3.cell (p := ⟨W.heap.size, 1, none⟩) (by simp)).trans (by simp)
  have d3_2 : w3.cell? ⟨W.heap.size, 2, none⟩ = some (.int .i64 a2) := (g3.cell (p := ⟨W.heap.size, 2, none⟩) (by simp)).trans (by simp)
  have d3_3 : w3.cell? ⟨W.heap.size, 3, none⟩ = some (.int .i64 a3) := (g3.cell (p := ⟨W.heap.size, 3, none⟩) (by simp)).trans (by simp)
  have dB3 : w3.cell? ⟨B, 0, none⟩ = some (.slice A1 l1.length c1) := (g3.cell (p := ⟨B, 0, none⟩) (by simp; omega)).trans (pw_cell_below (below_alloc (Below.refl _ _) _) hc)
  have F3 : Aside0 (Below W.heap.size W w3) := ⟨below_then (below_alloc (Below.refl _ _) _) (by simp) (by simpa using g3)⟩
  have G3 := Aside0.mk g3
  have gz3 := g3.size
  simp at gz3
  clear hb3 g3
  go_wp2
  go_ret
  exact ⟨rfl, F3.out⟩
theorem impl_SwapsValid.enters : ∀ args w, (callFunc 54 args).run Try.prog w = .ok (.enter 54 args) w := by
  intro args w
  have h1 : Try.f54.name ≠ "runtime.NumGoroutine" := of_decide_eq_true pL
  have hb : ∃ c, Try.f54.body = some c := ⟨_, rfl⟩
  obtain ⟨c, hb⟩ := hb
  simp [callFunc, Try.func54, h1, hb, mark]
set_option maxHeartbeats 4000000 in
set_option maxRecDepth 100000 in
theorem impl_SwapsValid.calls (k : Nat) (A0 : Option Addr) (c0 : Nat) (l0 : List (S41)) (A1 : Option Addr) (c1 : Nat) (l1 : List (S62)) (r : Bool) (w : World) (hr0 : Kd.C k41 w A0 l0.length l0) (hc0 : l0.length ≤ c0) (hr1 : Kd.C k62 w A1 l1.length l1) (hc1 : l1.length ≤ c1) (h : impl_SwapsValid.f k l0 l1 = some r) :
    Calls Try.prog 24 #[.slice A0 l0.length c0, .slice A1 l1.length c1] w fun e w' => e = .returned (.bool r) ∧ Below w.heap.size w w' := by
  unfold impl_SwapsValid.f at h
  obtain ⟨b, hb, h⟩ := Option.bind_eq_some_iff.1 h
  have HF := Aside0.mk (impl_FoodsValid.calls k A1 c1 l1 b (w.alloc (.cells #[.slice A1 l1.length c1] 26)) (Kd.C_below hr1 (below_alloc (Below.refl _ _) _)) hc1 hb)
  have HR0 := Aside0.mk hr0
  have HC0 := Aside0.mk hc0
  have HR1 := Aside0.mk hr1
  have HC1 := Aside0.mk hc1
  have HH := Aside0.mk h
  clear hr0 hc0 hr1 hc1 h hb
  cases b with
  | false =>
    have e : r = false := by have := HH.out; simp at this; exact this
    subst e
    go_enter Try.func24, Try.ntmps24
    go_wp2_with fail
    refine HF.out.mono ?_
    rintro e w' ⟨rfl, hb'⟩
    go_wp2
    go_ret
    exact ⟨rfl, below_then (below_alloc (Below.refl _ _) _) (by simp) hb'⟩
  | true =>
    by_cases hl : (l0.length : Int) ≤ 6
    · have e : r = !(l0.any (impl_SwapsValid.bad l1)) := by have := HH.out; rw [if_pos rfl, if_pos hl] at this; exact (Option.some.inj this).symm
      subst e
      have c1b : decide ((l0.length : Int) ≤ 6) = true := decide_eq_true hl
      have HQ : Aside0 (∀ W, Below w.heap.size w W → W.cell? ⟨w.heap.size, 0, none⟩ = some (.slice A1 l1.length c1) → Calls Try.prog 53 #[.slice A0 l0.length c0, .func (.func 54) #[] #[.pointer (some ⟨w.heap.size, 0, none⟩)]] W fun e w' => e = .returned (.bool (l0.any (impl_SwapsValid.bad l1))) ∧ Below W.heap.size W w') := ⟨fun W hW hcell =>
        containsSwap (impl_SwapsValid.bad l1) 54 #[.pointer (some ⟨w.heap.size, 0, none⟩)] impl_SwapsValid.enters A0 c0 l0 W (Kd.C_below HR0.out hW) HC0.out (fun W2 x hb2 => (impl_SwapsValid.lit A1 c1 l1 x w.heap.size W2 ((hb2.cell (p := ⟨w.heap.size, 0, none⟩) (World.block_lt_of_cell? W ⟨w.heap.size, 0, none⟩ hcell)).trans hcell) (Kd.C_below (Kd.C_below HR1.out hW) hb2) HC1.out).mono fun e w' ⟨he, hb3⟩ => ⟨he, Below.trans hb2 (hb3.mono hb2.size)⟩)⟩
      clear hl HH
      generalize l0.any (impl_SwapsValid.bad l1) = v at HQ
      go_enter Try.func24, Try.ntmps24
      go_wp2_with fail
      refine HF.out.mono ?_
      rintro e w1 ⟨rfl, hb'⟩
      have hcell : w1.cell? ⟨w.heap.size, 0, none⟩ = some (.slice A1 l1.length c1) := (hb'.cell (p := ⟨w.heap.size, 0, none⟩) (by simp)).trans (by simp)
      have HB : Aside0 (Below w.heap.size w w1) := ⟨below_then (below_alloc (Below.refl _ _) _) (by simp) hb'⟩
      have HCE := Aside0.mk hcell
      clear hb'
      go_wp2_with fail
      refine (HQ.out _ HB.out HCE.out).mono ?_
      rintro e w2 ⟨rfl, hb2⟩
      have HB2 := Aside0.mk hb2
      clear hb2 hcell
      go_wp2
      go_ret
      exact ⟨rfl, below_then HB.out HB.out.size HB2.out⟩
    · have e : r = false := by have := HH.out; rw [if_pos rfl, if_neg hl] at this; exact (Option.some.inj this).symm
      subst e
      have c1b : decide ((l0.length : Int) ≤ 6) = false := decide_eq_false hl
      clear hl HH
      go_enter Try.func24, Try.ntmps24
      go_wp2_with fail
      refine HF.out.mono ?_
      rintro e w' ⟨rfl, hb'⟩
      go_wp2
      go_ret
      exact ⟨rfl, below_then (below_alloc (Below.refl _ _) _) (by simp) hb'⟩

/-! ### spec_l5Find: function 57 -/
def spec_l5Find.l0 : Nat → List (S62) → Int → Int → Option (Int)
 | 0, _, _, _ => none
 | k + 1, x0, x1, x5 => if x5 < (x0.length : Int) then (if 0 ≤ x5 then (if ((rd_T62 x0 x5).f0) = x1 then (some x5) else (spec_l5Find.l0 k x0 x1 (wrap64 (x5 + 1)))) else (none)) else (some (-1))
def spec_l5Find.f (k : Nat) (l0 : List (S62)) (a1 : Int) : Option (Int) := spec_l5Find.l0 k l0 a1 0
theorem spec_l5Find.mono_l : ∀ k, (∀ y0 y1 y2, LeO (spec_l5Find.l0 k y0 y1 y2) (spec_l5Find.l0 (k + 1) y0 y1 y2))
 | 0 => fun _ _ _ r h => by simp [spec_l5Find.l0] at h
 | k + 1 => by
  have ih0 := spec_l5Find.mono_l k
  ·intro y0 y1 y2
   unfold spec_l5Find.l0
   repeat' first
   | (with_reducible exact ih0 _ _ _)
   | (with_reducible exact LeO.refl _)
   | (with_reducible exact LeO.none _)
   | (with_reducible refine LeO.ite ?_ ?_)
   | (with_reducible refine LeO.bind ?_ (fun _ => ?_))
   | exact ih0 _ _ _
   | exact LeO.none _
   | refine LeO.ite ?_ ?_
   | refine LeO.bind ?_ (fun _ => ?_)
theorem spec_l5Find.mono : ∀ a0 a1 k, LeO (spec_l5Find.f k a0 a1) (spec_l5Find.f (k + 1) a0 a1) := by
 intro a0 a1 k
 have ih0 := spec_l5Find.mono_l k
 unfold spec_l5Find.f
 repeat' first
   | (with_reducible exact ih0 _ _ _)
   | (with_reducible exact LeO.refl _)
   | (with_reducible exact LeO.none _)
   | (with_reducible refine LeO.ite ?_ ?_)
   | (with_reducible refine LeO.bind ?_ (fun _ => ?_))
   | exact ih0 _ _ _
   | exact LeO.none _
   | refine LeO.ite ?_ ?_
   | refine LeO.bind ?_ (fun _ => ?_)
set_option maxHeartbeats 8000000 in
set_option maxRecDepth 100000 in
theorem spec_l5Find.calls (k : Nat) (A0 : Option Addr) (c0 : Nat) (l0 : List (S62)) (a1 : Int) (r : Int) (w : World) (hr0 : Kd.C k62 w A0 l0.length l0) (hc0 : l0.length ≤ c0) (h : spec_l5Find.f k l0 a1 = some r) :
  Calls Try.prog 57 #[.slice A0 l0.length c0, .int .i64 a1] w fun e w' => e = .returned (.int .i64 r) ∧ Drawn0 w w' := by
 have HR0 := Aside0.mk hr0
 have HC0 := Aside0.mk hc0
 clear hr0 hc0
 have H : (spec_l5Find.l0 k l0 a1 0) = some r := h
 clear h
 have H' := Aside0.mk H
 clear H
 go_enter Try.func57, Try.ntmps57
 go_wp2
 go_loopg [5] k (fun kq v5 w' => ∃ (x5_1 : Int), v5 = .int .i64 x5_1 ∧ Aside0 (spec_l5Find.l0 kq l0 a1 x5_1 = some r) ∧ Aside0 (kq ≤ k) ∧ Drawn0 w w')
 case atStart => exact ⟨(0), pF, H', ⟨Nat.le_refl _⟩, by repeat (first | exact Drawn0.refl _ | apply Drawn0.step)⟩
 case round =>
  clear H'
  try clear p2
  obtain ⟨x5_1, rfl, HA, HK1, ⟨m1, rfl⟩⟩ := hrel
  cases gk with
  | zero => exact absurd HA.out (by simp [spec_l5Find.l0])
  | succ k1 =>
   have H := HA.out
   clear HA
   simp only [spec_l5Find.l0] at H
   by_cases c3 : x5_1 < (l0.length : Int)
   ·rw [if_pos c3] at H
    have c3b0 : decide (x5_1 < (l0.length : Int)) = true := decide_eq_true c3
    clear c3
    by_cases c4 : 0 ≤ x5_1
    ·rw [if_pos c4] at H
     have c4b0 : decide (0 ≤ x5_1) = true := decide_eq_true c4
     clear c4
     by_cases c5 : ((rd_T62 l0 x5_1).f0) = a1
     ·rw [if_pos c5] at H
      have c5b0 : (((rd_T62 l0 x5_1).f0) == a1) = true := beq_iff_eq.mpr c5
      have c5b1 : (((rd_T62 l0 x5_1).f0) != a1) = false := bne_eq_false_iff_eq.mpr c5
      clear c5
      obtain rfl := Option.some.inj H
      have p326 : 0 ≤ (x5_1 : Int) := of_decide_eq_true pA
      have q326 : x5_1 < (l0.length : Int) := of_decide_eq_true pA
      obtain ⟨ad326, e326, hx326_0, hx326_1, hx326_2, hx326_3, hx326_4, hx326_5⟩ := at_T62 HR0.out x5_1 p326 q326
      cases e326
      replace p326 := eq_true p326
      replace q326 := eq_true q326
      go_wp2
      go_ret
      exact ⟨pF, by repeat (first | exact Drawn0.refl _ | apply Drawn0.step)⟩
     ·rw [if_neg c5] at H
      have c5b0 : (((rd_T62 l0 x5_1).f0) == a1) = false := beq_eq_false_iff_ne.mpr c5
      have c5b1 : (((rd_T62 l0 x5_1).f0) != a1) = true := bne_iff_ne.mpr c5
      have H' := Aside0.mk H
      clear H
      have p326 : 0 ≤ (x5_1 : Int) := of_decide_eq_true pA
      have q326 : x5_1 < (l0.length : Int) := of_decide_eq_true pA
      obtain ⟨ad326, e326, hx326_0, hx326_1, hx326_2, hx326_3, hx326_4, hx326_5⟩ := at_T62 HR0.out x5_1 p326 q326
      cases e326
      replace p326 := eq_true p326
      replace q326 := eq_true q326
      go_wp2
      go_roundg k1
      case measure => have := HK1.out; omega
      case rel => exact ⟨(wrap64 (x5_1 + 1)), pF, H', ⟨by have := HK1.out; omega⟩, by repeat (first | exact Drawn0.refl _ | apply Drawn0.step)⟩
    ·rw [if_neg c4] at H
     exact absurd H (by simp)
   ·rw [if_neg c3] at H
    have c3b0 : decide (x5_1 < (l0.length : Int)) = false := decide_eq_false c3
    clear c3
    obtain rfl := Option.some.inj H
    go_wp2
    go_ret
    exact ⟨pF, by repeat (first | exact Drawn0.refl _ | apply Drawn0.step)⟩

/-! ### spec_SwapsValid: function 25 -/
def spec_SwapsValid.l0 : Nat → List (S41) → List (S62) → Int → Option (Bool)
 | 0, _, _, _ => none
 | k + 1, x0, x1, x5 => if x5 < (x0.length : Int) then (if 0 ≤ x5 then ((spec_l5Find.f k x1 ((rd_T41 x0 x5).f0)).bind fun t330 => (if t330 < 0 then (some false) else ((spec_l5Find.f k x1 ((rd_T41 x0 x5).f1)).bind fun t331 => (if t331 < 0 then (some false) else (if ((rd_T41 x0 x5).f0) = ((rd_T41 x0 x5).f1) then (some false) else ((spec_l6In.f ((rd_T41 x0 x5).f2) 1 9).bind fun t332 => (if t332 = true then ((spec_l6In.f ((rd_T41 x0 x5).f3) 1 9).bind fun t333 => (if t333 = true then (spec_SwapsValid.l0 k x0 x1 (wrap64 (x5 + 1))) else (some false))) else (some false)))))))) else (none)) else ((spec_FoodsValid.f k x1).bind fun t327 => (if t327 = true then (some (decide ((x0.length : Int) ≤ 6))) else (some false)))
def spec_SwapsValid.f (k : Nat) (l0 : List (S41)) (l1 : List (S62)) : Option (Bool) := spec_SwapsValid.l0 k l0 l1 0
theorem spec_SwapsValid.mono_l : ∀ k, (∀ y0 y1 y2, LeO (spec_SwapsValid.l0 k y0 y1 y2) (spec_SwapsValid.l0 (k + 1) y0 y1 y2))
 | 0 => fun _ _ _ r h => by simp [spec_SwapsValid.l0] at h
 | k + 1 => by
  have ih0 := spec_SwapsValid.mono_l k
  ·intro y0 y1 y2
   unfold spec_SwapsValid.l0
   repeat' first
   | (with_reducible exact ih0 _ _ _)
   | (with_reducible exact spec_FoodsValid.mono _ _)
   | (with_reducible exact spec_l5Find.mono _ _ _)
   | (with_reducible exact LeO.refl _)
   | (with_reducible exact LeO.none _)
   | (with_reducible refine LeO.ite ?_ ?_)
   | (with_reducible refine LeO.bind ?_ (fun _ => ?_))
   | exact ih0 _ _ _
   | exact spec_FoodsValid.mono _ _
   | exact spec_l5Find.mono _ _ _
   | exact LeO.none _
   | refine LeO.ite ?_ ?_
   | refine LeO.bind ?_ (fun _ => ?_)
theorem spec_SwapsValid.mono : ∀ a0 a1 k, LeO (spec_SwapsValid.f k a0 a1) (spec_SwapsValid.f (k + 1) a0 a1) := by
 intro a0 a1 k
 have ih0 := spec_SwapsValid.mono_l k
 unfold spec_SwapsValid.f
 repeat' first
   | (with_reducible exact ih0 _ _ _)
   | (with_reducible exact spec_FoodsValid.mono _ _)
   | (with_reducible exact spec_l5Find.mono _ _ _)
   | (with_reducible exact LeO.refl _)
   | (with_reducible exact LeO.none _)
   | (with_reducible refine LeO.ite ?_ ?_)
   | (with_reducible refine LeO.bind ?_ (fun _ => ?_))
   | exact ih0 _ _ _
   | exact spec_FoodsValid.mono _ _
   | exact spec_l5Find.mono _ _ _
   | exact LeO.none _
   | refine LeO.ite ?_ ?_
   | refine LeO.bind ?_ (fun _ => ?_)
set_option maxHeartbeats 8000000 in
set_option maxRecDepth 100000 in
theorem spec_SwapsValid.calls (k : Nat) (A0 : Option Addr) (c0 : Nat) (l0 : List (S41)) (A1 : Option Addr) (c1 : Nat) (l1 : List (S62)) (r : Bool) (w : World) (hr0 : Kd.C k41 w A0 l0.length l0) (hc0 : l0.length ≤ c0) (hr1 : Kd.C k62 w A1 l1.length l1) (hc1 : l1.length ≤ c1) (h : spec_SwapsValid.f k l0 l1 = some r) :
  Calls Try.prog 25 #[.slice A0 l0.length c0, .slice A1 l1.length c1] w fun e w' => e = .returned (.bool r) ∧ Below w.heap.size w w' := by
 have hu41 := Try.underlying41
 have HR0 := Aside0.mk hr0
 have HC0 := Aside0.mk hc0
 clear hr0 hc0
 have HR1 := Aside0.mk hr1
 have HC1 := Aside0.mk hc1
 clear hr1 hc1
 have HB := Aside0.mk (Below.refl w.heap.size w)
 have H : (spec_SwapsValid.l0 k l0 l1 0) = some r := h
 clear h
 have H' := Aside0.mk H
 clear H
 go_enter Try.func25, Try.ntmps25
 go_wp2
 go_loopg [5] k (fun kq v5 w' => ∃ (x5_1 : Int), v5 = .int .i64 x5_1 ∧ Aside0 (spec_SwapsValid.l0 kq l0 l1 x5_1 = some r) ∧ Aside0 (kq ≤ k) ∧ Aside0 (Below w.heap.size w w'))
 case atStart => exact ⟨(0), pF, H', ⟨Nat.le_refl _⟩, ⟨pB⟩⟩
 case round =>
  clear H'
  try clear c1
  try clear c2
  try clear p2
  obtain ⟨x5_1, rfl, HA, HK1, HB⟩ := hrel
  cases gk with
  | zero => exact absurd HA.out (by simp [spec_SwapsValid.l0])
  | succ k1 =>
   have H := HA.out
   clear HA
   simp only [spec_SwapsValid.l0] at H
   by_cases c3 : x5_1 < (l0.length : Int)
   ·rw [if_pos c3] at H
    have c3b0 : decide (x5_1 < (l0.length : Int)) = true := decide_eq_true c3
    clear c3
    by_cases c4 : 0 ≤ x5_1
    ·rw [if_pos c4] at H
     have c4b0 : decide (0 ≤ x5_1) = true := decide_eq_true c4
     clear c4
     replace H := Option.bind_eq_some_iff.mp H
     obtain ⟨t330, A50, H⟩ := H
     replace H : (if t330 < 0 then (some false) else ((spec_l5Find.f k1 l1 ((rd_T41 l0 x5_1).f1)).bind fun t331 => (if t331 < 0 then (some false) else (if ((rd_T41 l0 x5_1).f0) = ((rd_T41 l0 x5_1).f1) then (some false) else ((spec_l6In.f ((rd_T41 l0 x5_1).f2) 1 9).bind fun t332 => (if t332 = true then ((spec_l6In.f ((rd_T41 l0 x5_1).f3) 1 9).bind fun t333 => (if t333 = true then (spec_SwapsValid.l0 k1 l0 l1 (wrap64 (x5_1 + 1))) else (some false))) else (some false))))))) = some r := H
     have A5 := Aside0.mk A50
     clear A50
     by_cases c6 : t330 < 0
     ·rw [if_pos c6] at H
      have c6b0 : decide (t330 < 0) = true := decide_eq_true c6
      clear c6
      obtain rfl := Option.some.inj H
      have p328 : 0 ≤ (x5_1 : Int) := of_decide_eq_true pA
      have q328 : x5_1 < (l0.length : Int) := of_decide_eq_true pA
      obtain ⟨ad328, e328, hx328_0, hx328_1, hx328_2, hx328_3⟩ := at_T41 HR0.out x5_1 p328 q328
      cases e328
      replace hx328_0 := (HB.out.cell (World.block_lt_of_cell? w _ hx328_0)).trans hx328_0
      replace hx328_1 := (HB.out.cell (World.block_lt_of_cell? w _ hx328_1)).trans hx328_1
      replace hx328_2 := (HB.out.cell (World.block_lt_of_cell? w _ hx328_2)).trans hx328_2
      replace hx328_3 := (HB.out.cell (World.block_lt_of_cell? w _ hx328_3)).trans hx328_3
      replace p328 := eq_true p328
      replace q328 := eq_true q328
      go_wp2_with (first | ((with_reducible refine gate_dst (N := 6) rfl ?_); (try (refine gate_guard (by rfl) ?_; dsimp only)); refine box_event ?hg (N := 6) ?hd (cs := #[.int .i64 0, .int .i64 0, .int .i64 0, .int .i64 0]) (t := 41) ?hr ?_; (case hd => rfl); (case hg => rfl); (case hr => first | (go_simp; done) | (go_simp; rfl)); intro gb329 hg w7 hbox hb; have n0_ := Aside0.mk (below_step pB hb); have n1_ := Aside0.mk (hbox); have n2_ := Aside0.mk ((by rw [hg]; exact (below_size pB) : w.heap.size ≤ gb329)); have n3_ := Aside0.mk ((by rw [hg]; exact (below_size pB) : w.heap.size ≤ gb329)); clear HB; have HB := n0_; have BK329 := n1_; have GW329 := n2_; have GE329 := n3_; clear n0_ n1_ n2_ n3_; clear hb hbox hg; have hcz8_0 : w7.cell? ⟨gb329, 0, none⟩ = some (.int .i64 0) := (blk_cell BK329.out 0).trans rfl; have hcz8_1 : w7.cell? ⟨gb329, 1, none⟩ = some (.int .i64 0) := (blk_cell BK329.out 1).trans rfl; have hcz8_2 : w7.cell? ⟨gb329, 2, none⟩ = some (.int .i64 0) := (blk_cell BK329.out 2).trans rfl; have hcz8_3 : w7.cell? ⟨gb329, 3, none⟩ = some (.int .i64 0) := (blk_cell BK329.out 3).trans rfl; have hfz8_0 := blk_frozen BK329.out 0; have hfz8_1 := blk_frozen BK329.out 1; have hfz8_2 := blk_frozen BK329.out 2; have hfz8_3 := blk_frozen BK329.out 3) | ((with_reducible refine gate_callee (f := 57) rfl ?_); refine goesL_ (some 20) rfl rfl Try.func57 pL rfl #[.slice A1 l1.length c1, .int .i64 ((rd_T41 l0 x5_1).f0)] rfl pM ?_; (with_reducible refine (spec_l5Find.calls k1 _ _ l1 ((rd_T41 l0 x5_1).f0) t330 _ ?side1 ?side2 A5.out).mono ?_); (case side1 => exact Kd.C_below HR1.out (pG GE329)); (case side2 => exact HC1.out); rintro e w' ⟨rfl, ⟨nd, rfl⟩⟩; refine ⟨_, rfl, ?_⟩))
      go_ret
      exact ⟨pE, pG GE329⟩
     ·rw [if_neg c6] at H
      have c6b0 : decide (t330 < 0) = false := decide_eq_false c6
      clear c6
      replace H := Option.bind_eq_some_iff.mp H
      obtain ⟨t331, A90, H⟩ := H
      replace H : (if t331 < 0 then (some false) else (if ((rd_T41 l0 x5_1).f0) = ((rd_T41 l0 x5_1).f1) then (some false) else ((spec_l6In.f ((rd_T41 l0 x5_1).f2) 1 9).bind fun t332 => (if t332 = true then ((spec_l6In.f ((rd_T41 l0 x5_1).f3) 1 9).bind fun t333 => (if t333 = true then (spec_SwapsValid.l0 k1 l0 l1 (wrap64 (x5_1 + 1))) else (some false))) else (some false))))) = some r := H
      have A9 := Aside0.mk A90
      clear A90
      by_cases c10 : t331 < 0
      ·rw [if_pos c10] at H
       have c10b0 : decide (t331 < 0) = true := decide_eq_true c10
       clear c10
       obtain rfl := Option.some.inj H
       have p328 : 0 ≤ (x5_1 : Int) := of_decide_eq_true pA
       have q328 : x5_1 < (l0.length : Int) := of_decide_eq_true pA
       obtain ⟨ad328, e328, hx328_0, hx328_1, hx328_2, hx328_3⟩ := at_T41 HR0.out x5_1 p328 q328
       cases e328
       replace hx328_0 := (HB.out.cell (World.block_lt_of_cell? w _ hx328_0)).trans hx328_0
       replace hx328_1 := (HB.out.cell (World.block_lt_of_cell? w _ hx328_1)).trans hx328_1
       replace hx328_2 := (HB.out.cell (World.block_lt_of_cell? w _ hx328_2)).trans hx328_2
       replace hx328_3 := (HB.out.cell (World.block_lt_of_cell? w _ hx328_3)).trans hx328_3
       replace p328 := eq_true p328
       replace q328 := eq_true q328
       go_wp2_with (first | ((with_reducible refine gate_dst (N := 6) rfl ?_); (try (refine gate_guard (by rfl) ?_; dsimp only)); refine box_event ?hg (N := 6) ?hd (cs := #[.int .i64 0, .int .i64 0, .int .i64 0, .int .i64 0]) (t := 41) ?hr ?_; (case hd => rfl); (case hg => rfl); (case hr => first | (go_simp; done) | (go_simp; rfl)); intro gb329 hg w11 hbox hb; have n0_ := Aside0.mk (below_step pB hb); have n1_ := Aside0.mk (hbox); have n2_ := Aside0.mk ((by rw [hg]; exact (below_size pB) : w.heap.size ≤ gb329)); have n3_ := Aside0.mk ((by rw [hg]; exact (below_size pB) : w.heap.size ≤ gb329)); clear HB; have HB := n0_; have BK329 := n1_; have GW329 := n2_; have GE329 := n3_; clear n0_ n1_ n2_ n3_; clear hb hbox hg; have hcz12_0 : w11.cell? ⟨gb329, 0, none⟩ = some (.int .i64 0) := (blk_cell BK329.out 0).trans rfl; have hcz12_1 : w11.cell? ⟨gb329, 1, none⟩ = some (.int .i64 0) := (blk_cell BK329.out 1).trans rfl; have hcz12_2 : w11.cell? ⟨gb329, 2, none⟩ = some (.int .i64 0) := (blk_cell BK329.out 2).trans rfl; have hcz12_3 : w11.cell? ⟨gb329, 3, none⟩ = some (.int .i64 0) := (blk_cell BK329.out 3).trans rfl; have hfz12_0 := blk_frozen BK329.out 0; have hfz12_1 := blk_frozen BK329.out 1; have hfz12_2 := blk_frozen BK329.out 2; have hfz12_3 := blk_frozen BK329.out 3) | ((with_reducible refine gate_callee (f := 57) rfl ?_); refine goesL_ (some 20) rfl rfl Try.func57 pL rfl #[.slice A1 l1.length c1, .int .i64 ((rd_T41 l0 x5_1).f0)] rfl pM ?_; (with_reducible refine (spec_l5Find.calls k1 _ _ l1 ((rd_T41 l0 x5_1).f0) t330 _ ?side1 ?side2 A5.out).mono ?_); (case side1 => exact Kd.C_below HR1.out (pG GE329)); (case side2 => exact HC1.out); rintro e w' ⟨rfl, ⟨nd, rfl⟩⟩; refine ⟨_, rfl, ?_⟩) | (go_at_call 57; (with_reducible refine (spec_l5Find.calls k1 _ _ l1 ((rd_T41 l0 x5_1).f1) t331 _ ?side1 ?side2 A9.out).mono ?_); (case side1 => exact Kd.C_below HR1.out (pG GE329)); (case side2 => exact HC1.out); rintro e w' ⟨rfl, ⟨nd, rfl⟩⟩))
       go_ret
       exact ⟨pE, pG GE329⟩
      ·rw [if_neg c10] at H
       have c10b0 : decide (t331 < 0) = false := decide_eq_false c10
       clear c10
       by_cases c13 : ((rd_T41 l0 x5_1).f0) = ((rd_T41 l0 x5_1).f1)
       ·rw [if_pos c13] at H
        have c13b0 : (((rd_T41 l0 x5_1).f0) == ((rd_T41 l0 x5_1).f1)) = true := beq_iff_eq.mpr c13
        have c13b1 : (((rd_T41 l0 x5_1).f0) != ((rd_T41 l0 x5_1).f1)) = false := bne_eq_false_iff_eq.mpr c13
        clear c13
        obtain rfl := Option.some.inj H
        have p328 : 0 ≤ (x5_1 : Int) := of_decide_eq_true pA
        have q328 : x5_1 < (l0.length : Int) := of_decide_eq_true pA
        obtain ⟨ad328, e328, hx328_0, hx328_1, hx328_2, hx328_3⟩ := at_T41 HR0.out x5_1 p328 q328
        cases e328
        replace hx328_0 := (HB.out.cell (World.block_lt_of_cell? w _ hx328_0)).trans hx328_0
        replace hx328_1 := (HB.out.cell (World.block_lt_of_cell? w _ hx328_1)).trans hx328_1
        replace hx328_2 := (HB.out.cell (World.block_lt_of_cell? w _ hx328_2)).trans hx328_2
        replace hx328_3 := (HB.out.cell (World.block_lt_of_cell? w _ hx328_3)).trans hx328_3
        replace p328 := eq_true p328
        replace q328 := eq_true q328
        go_wp2_with (first | ((with_reducible refine gate_dst (N := 6) rfl ?_); (try (refine gate_guard (by rfl) ?_; dsimp only)); refine box_event ?hg (N := 6) ?hd (cs := #[.int .i64 0, .int .i64 0, .int .i64 0, .int .i64 0]) (t := 41) ?hr ?_; (case hd => rfl); (case hg => rfl); (case hr => first | (go_simp; done) | (go_simp; rfl)); intro gb329 hg w14 hbox hb; have n0_ := Aside0.mk (below_step pB hb); have n1_ := Aside0.mk (hbox); have n2_ := Aside0.mk ((by rw [hg]; exact (below_size pB) : w.heap.size ≤ gb329)); have n3_ := Aside0.mk ((by rw [hg]; exact (below_size pB) : w.heap.size ≤ gb329)); clear HB; have HB := n0_; have BK329 := n1_; have GW329 := n2_; have GE329 := n3_; clear n0_ n1_ n2_ n3_; clear hb hbox hg; have hcz15_0 : w14.cell? ⟨gb329, 0, none⟩ = some (.int .i64 0) := (blk_cell BK329.out 0).trans rfl; have hcz15_1 : w14.cell? ⟨gb329, 1, none⟩ = some (.int .i64 0) := (blk_cell BK329.out 1).trans rfl; have hcz15_2 : w14.cell? ⟨gb329, 2, none⟩ = some (.int .i64 0) := (blk_cell BK329.out 2).trans rfl; have hcz15_3 : w14.cell? ⟨gb329, 3, none⟩ = some (.int .i64 0) := (blk_cell BK329.out 3).trans rfl; have hfz15_0 := blk_frozen BK329.out 0; have hfz15_1 := blk_frozen BK329.out 1; have hfz15_2 := blk_frozen BK329.out 2; have hfz15_3 := blk_frozen BK329.out 3) | ((with_reducible refine gate_callee (f := 57) rfl ?_); refine goesL_ (some 20) rfl rfl Try.func57 pL rfl #[.slice A1 l1.length c1, .int .i64 ((rd_T41 l0 x5_1).f0)] rfl pM ?_; (with_reducible refine (spec_l5Find.calls k1 _ _ l1 ((rd_T41 l0 x5_1).f0) t330 _ ?side1 ?side2 A5.out).mono ?_); (case side1 => exact Kd.C_below HR1.out (pG GE329)); (case side2 => exact HC1.out); rintro e w' ⟨rfl, ⟨nd, rfl⟩⟩; refine ⟨_, rfl, ?_⟩) | (go_at_call 57; (with_reducible refine (spec_l5Find.calls k1 _ _ l1 ((rd_T41 l0 x5_1).f1) t331 _ ?side1 ?side2 A9.out).mono ?_); (case side1 => exact Kd.C_below HR1.out (pG GE329)); (case side2 => exact HC1.out); rintro e w' ⟨rfl, ⟨nd, rfl⟩⟩))
        go_ret
        exact ⟨pE, pG GE329⟩
       ·rw [if_neg c13] at H
        have c13b0 : (((rd_T41 l0 x5_1).f0) == ((rd_T41 l0 x5_1).f1)) = false := beq_eq_false_iff_ne.mpr c13
        have c13b1 : (((rd_T41 l0 x5_1).f0) != ((rd_T41 l0 x5_1).f1)) = true := bne_iff_ne.mpr c13
        replace H := Option.bind_eq_some_iff.mp H
        obtain ⟨t332, A160, H⟩ := H
        replace H : (if t332 = true then ((spec_l6In.f ((rd_T41 l0 x5_1).f3) 1 9).bind fun t333 => (if t333 = true then (spec_SwapsValid.l0 k1 l0 l1 (wrap64 (x5_1 + 1))) else (some false))) else (some false)) = some r := H
        have A16 := Aside0.mk A160
        clear A160
        by_cases c17 : t332 = true
        ·subst c17
         have H1 : ((spec_l6In.f ((rd_T41 l0 x5_1).f3) 1 9).bind fun t333 => (if t333 = true then (spec_SwapsValid.l0 k1 l0 l1 (wrap64 (x5_1 + 1))) else (some false))) = some r := by rw [if_pos rfl] at H; exact H
         clear H
         have H := H1
         clear H1
         replace H := Option.bind_eq_some_iff.mp H
         obtain ⟨t333, A180, H⟩ := H
         replace H : (if t333 = true then (spec_SwapsValid.l0 k1 l0 l1 (wrap64 (x5_1 + 1))) else (some false)) = some r := H
         have A18 := Aside0.mk A180
         clear A180
         by_cases c19 : t333 = true
         ·subst c19
          have H1 : (spec_SwapsValid.l0 k1 l0 l1 (wrap64 (x5_1 + 1))) = some r := by rw [if_pos rfl] at H; exact H
          clear H
          have H := H1
          clear H1
          have H' := Aside0.mk H
          clear H
          have p328 : 0 ≤ (x5_1 : Int) := of_decide_eq_true pA
          have q328 : x5_1 < (l0.length : Int) := of_decide_eq_true pA
          obtain ⟨ad328, e328, hx328_0, hx328_1, hx328_2, hx328_3⟩ := at_T41 HR0.out x5_1 p328 q328
          cases e328
          replace hx328_0 := (HB.out.cell (World.block_lt_of_cell? w _ hx328_0)).trans hx328_0
          replace hx328_1 := (HB.out.cell (World.block_lt_of_cell? w _ hx328_1)).trans hx328_1
          replace hx328_2 := (HB.out.cell (World.block_lt_of_cell? w _ hx328_2)).trans hx328_2
          replace hx328_3 := (HB.out.cell (World.block_lt_of_cell? w _ hx328_3)).trans hx328_3
          replace p328 := eq_true p328
          replace q328 := eq_true q328
          go_wp2_with (first | ((with_reducible refine gate_dst (N := 6) rfl ?_); (try (refine gate_guard (by rfl) ?_; dsimp only)); refine box_event ?hg (N := 6) ?hd (cs := #[.int .i64 0, .int .i64 0, .int .i64 0, .int .i64 0]) (t := 41) ?hr ?_; (case hd => rfl); (case hg => rfl); (case hr => first | (go_simp; done) | (go_simp; rfl)); intro gb329 hg w20 hbox hb; have n0_ := Aside0.mk (below_step pB hb); have n1_ := Aside0.mk (hbox); have n2_ := Aside0.mk ((by rw [hg]; exact (below_size pB) : w.heap.size ≤ gb329)); have n3_ := Aside0.mk ((by rw [hg]; exact (below_size pB) : w.heap.size ≤ gb329)); clear HB; have HB := n0_; have BK329 := n1_; have GW329 := n2_; have GE329 := n3_; clear n0_ n1_ n2_ n3_; clear hb hbox hg; have hcz21_0 : w20.cell? ⟨gb329, 0, none⟩ = some (.int .i64 0) := (blk_cell BK329.out 0).trans rfl; have hcz21_1 : w20.cell? ⟨gb329, 1, none⟩ = some (.int .i64 0) := (blk_cell BK329.out 1).trans rfl; have hcz21_2 : w20.cell? ⟨gb329, 2, none⟩ = some (.int .i64 0) := (blk_cell BK329.out 2).trans rfl; have hcz21_3 : w20.cell? ⟨gb329, 3, none⟩ = some (.int .i64 0) := (blk_cell BK329.out 3).trans rfl; have hfz21_0 := blk_frozen BK329.out 0; have hfz21_1 := blk_frozen BK329.out 1; have hfz21_2 := blk_frozen BK329.out 2; have hfz21_3 := blk_frozen BK329.out 3) | ((with_reducible refine gate_callee (f := 57) rfl ?_); refine goesL_ (some 20) rfl rfl Try.func57 pL rfl #[.slice A1 l1.length c1, .int .i64 ((rd_T41 l0 x5_1).f0)] rfl pM ?_; (with_reducible refine (spec_l5Find.calls k1 _ _ l1 ((rd_T41 l0 x5_1).f0) t330 _ ?side1 ?side2 A5.out).mono ?_); (case side1 => exact Kd.C_below HR1.out (pG GE329)); (case side2 => exact HC1.out); rintro e w' ⟨rfl, ⟨nd, rfl⟩⟩; refine ⟨_, rfl, ?_⟩) | (go_at_call 57; (with_reducible refine (spec_l5Find.calls k1 _ _ l1 ((rd_T41 l0 x5_1).f1) t331 _ ?side1 ?side2 A9.out).mono ?_); (case side1 => exact Kd.C_below HR1.out (pG GE329)); (case side2 => exact HC1.out); rintro e w' ⟨rfl, ⟨nd, rfl⟩⟩) | (go_at_call 58; (with_reducible refine (spec_l6In.calls ((rd_T41 l0 x5_1).f2) 1 9 true _ A16.out).mono ?_); rintro e w' ⟨rfl, ⟨nd, rfl⟩⟩) | (go_at_call 58; (with_reducible refine (spec_l6In.calls ((rd_T41 l0 x5_1).f3) 1 9 true _ A18.out).mono ?_); rintro e w' ⟨rfl, ⟨nd, rfl⟩⟩))
          go_roundg k1
          case measure => have := HK1.out; omega
          case rel => exact ⟨(wrap64 (x5_1 + 1)), pF, H', ⟨by have := HK1.out; omega⟩, ⟨pG GE329⟩⟩
         ·replace c19 := Bool.eq_false_iff.mpr c19
          subst c19
          have H1 : (some false) = some r := by rw [if_neg (show ¬ (false = true) by decide)] at H; exact H
          clear H
          have H := H1
          clear H1
          obtain rfl := Option.some.inj H
          have p328 : 0 ≤ (x5_1 : Int) := of_decide_eq_true pA
          have q328 : x5_1 < (l0.length : Int) := of_decide_eq_true pA
          obtain ⟨ad328, e328, hx328_0, hx328_1, hx328_2, hx328_3⟩ := at_T41 HR0.out x5_1 p328 q328
          cases e328
          replace hx328_0 := (HB.out.cell (World.block_lt_of_cell? w _ hx328_0)).trans hx328_0
          replace hx328_1 := (HB.out.cell (World.block_lt_of_cell? w _ hx328_1)).trans hx328_1
          replace hx328_2 := (HB.out.cell (World.block_lt_of_cell? w _ hx328_2)).trans hx328_2
          replace hx328_3 := (HB.out.cell (World.block_lt_of_cell? w _ hx328_3)).trans hx328_3
          replace p328 := eq_true p328
          replace q328 := eq_true q328
          go_wp2_with (first | ((with_reducible refine gate_dst (N := 6) rfl ?_); (try (refine gate_guard (by rfl) ?_; dsimp only)); refine box_event ?hg (N := 6) ?hd (cs := #[.int .i64 0, .int .i64 0, .int .i64 0, .int .i64 0]) (t := 41) ?hr ?_; (case hd => rfl); (case hg => rfl); (case hr => first | (go_simp; done) | (go_simp; rfl)); intro gb329 hg w22 hbox hb; have n0_ := Aside0.mk (below_step pB hb); have n1_ := Aside0.mk (hbox); have n2_ := Aside0.mk ((by rw [hg]; exact (below_size pB) : w.heap.size ≤ gb329)); have n3_ := Aside0.mk ((by rw [hg]; exact (below_size pB) : w.heap.size ≤ gb329)); clear HB; have HB := n0_; have BK329 := n1_; have GW329 := n2_; have GE329 := n3_; clear n0_ n1_ n2_ n3_; clear hb hbox hg; have hcz23_0 : w22.cell? ⟨gb329, 0, none⟩ = some (.int .i64 0) := (blk_cell BK329.out 0).trans rfl; have hcz23_1 : w22.cell? ⟨gb329, 1, none⟩ = some (.int .i64 0) := (blk_cell BK329.out 1).trans rfl; have hcz23_2 : w22.cell? ⟨gb329, 2, none⟩ = some (.int .i64 0) := (blk_cell BK329.out 2).trans rfl; have hcz23_3 : w22.cell? ⟨gb329, 3, none⟩ = some (.int .i64 0) := (blk_cell BK329.out 3).trans rfl; have hfz23_0 := blk_frozen BK329.out 0; have hfz23_1 := blk_frozen BK329.out 1; have hfz23_2 := blk_frozen BK329.out 2; have hfz23_3 := blk_frozen BK329.out 3) | ((with_reducible refine gate_callee (f := 57) rfl ?_); refine goesL_ (some 20) rfl rfl Try.func57 pL rfl #[.slice A1 l1.length c1, .int .i64 ((rd_T41 l0 x5_1).f0)] rfl pM ?_; (with_reducible refine (spec_l5Find.calls k1 _ _ l1 ((rd_T41 l0 x5_1).f0) t330 _ ?side1 ?side2 A5.out).mono ?_); (case side1 => exact Kd.C_below HR1.out (pG GE329)); (case side2 => exact HC1.out); rintro e w' ⟨rfl, ⟨nd, rfl⟩⟩; refine ⟨_, rfl, ?_⟩) | (go_at_call 57; (with_reducible refine (spec_l5Find.calls k1 _ _ l1 ((rd_T41 l0 x5_1).f1) t331 _ ?side1 ?side2 A9.out).mono ?_); (case side1 => exact Kd.C_below HR1.out (pG GE329)); (case side2 => exact HC1.out); rintro e w' ⟨rfl, ⟨nd, rfl⟩⟩) | (go_at_call 58; (with_reducible refine (spec_l6In.calls ((rd_T41 l0 x5_1).f2) 1 9 true _ A16.out).mono ?_); rintro e w' ⟨rfl, ⟨nd, rfl⟩⟩) | (go_at_call 58; (with_reducible refine (spec_l6In.calls ((rd_T41 l0 x5_1).f3) 1 9 false _ A18.out).mono ?_); rintro e w' ⟨rfl, ⟨nd, rfl⟩⟩))
          go_ret
          exact ⟨pE, pG GE329⟩
        ·replace c17 := Bool.eq_false_iff.mpr c17
         subst c17
         have H1 : (some false) = some r := by rw [if_neg (show ¬ (false = true) by decide)] at H; exact H
         clear H
         have H := H1
         clear H1
         obtain rfl := Option.some.inj H
         have p328 : 0 ≤ (x5_1 : Int) := of_decide_eq_true pA
         have q328 : x5_1 < (l0.length : Int) := of_decide_eq_true pA
         obtain ⟨ad328, e328, hx328_0, hx328_1, hx328_2, hx328_3⟩ := at_T41 HR0.out x5_1 p328 q328
         cases e328
         replace hx328_0 := (HB.out.cell (World.block_lt_of_cell? w _ hx328_0)).trans hx328_0
         replace hx328_1 := (HB.out.cell (World.block_lt_of_cell? w _ hx328_1)).trans hx328_1
         replace hx328_2 := (HB.out.cell (World.block_lt_of_cell? w _ hx328_2)).trans hx328_2
         replace hx328_3 := (HB.out.cell (World.block_lt_of_cell? w _ hx328_3)).trans hx328_3
         replace p328 := eq_true p328
         replace q328 := eq_true q328
         go_wp2_with (first | ((with_reducible refine gate_dst (N := 6) rfl ?_); (try (refine gate_guard (by rfl) ?_; dsimp only)); refine box_event ?hg (N := 6) ?hd (cs := #[.int .i64 0, .int .i64 0, .int .i64 0, .int .i64 0]) (t := 41) ?hr ?_; (case hd => rfl); (case hg => rfl); (case hr => first | (go_simp; done) | (go_simp; rfl)); intro gb329 hg w24 hbox hb; have n0_ := Aside0.mk (below_step pB hb); have n1_ := Aside0.mk (hbox); have n2_ := Aside0.mk ((by rw [hg]; exact (below_size pB) : w.heap.size ≤ gb329)); have n3_ := Aside0.mk ((by rw [hg]; exact (below_size pB) : w.heap.size ≤ gb329)); clear HB; have HB := n0_; have BK329 := n1_; have GW329 := n2_; have GE329 := n3_; clear n0_ n1_ n2_ n3_; clear hb hbox hg; have hcz25_0 : w24.cell? ⟨gb329, 0, none⟩ = some (.int .i64 0) := (blk_cell BK329.out 0).trans rfl; have hcz25_1 : w24.cell? ⟨gb329, 1, none⟩ = some (.int .i64 0) := (blk_cell BK329.out 1).trans rfl; have hcz25_2 : w24.cell? ⟨gb329, 2, none⟩ = some (.int .i64 0) := (blk_cell BK329.out 2).trans rfl; have hcz25_3 : w24.cell? ⟨gb329, 3, none⟩ = some (.int .i64 0) := (blk_cell BK329.out 3).trans rfl; have hfz25_0 := blk_frozen BK329.out 0; have hfz25_1 := blk_frozen BK329.out 1; have hfz25_2 := blk_frozen BK329.out 2; have hfz25_3 := blk_frozen BK329.out 3) | ((with_reducible refine gate_callee (f := 57) rfl ?_); refine goesL_ (some 20) rfl rfl Try.func57 pL rfl #[.slice A1 l1.length c1, .int .i64 ((rd_T41 l0 x5_1).f0)] rfl pM ?_; (with_reducible refine (spec_l5Find.calls k1 _ _ l1 ((rd_T41 l0 x5_1).f0) t330 _ ?side1 ?side2 A5.out).mono ?_); (case side1 => exact Kd.C_below HR1.out (pG GE329)); (case side2 => exact HC1.out); rintro e w' ⟨rfl, ⟨nd, rfl⟩⟩; refine ⟨_, rfl, ?_⟩) | (go_at_call 57; (with_reducible refine (spec_l5Find.calls k1 _ _ l1 ((rd_T41 l0 x5_1).f1) t331 _ ?side1 ?side2 A9.out).mono ?_); (case side1 => exact Kd.C_below HR1.out (pG GE329)); (case side2 => exact HC1.out); rintro e w' ⟨rfl, ⟨nd, rfl⟩⟩) | (go_at_call 58; (with_reducible refine (spec_l6In.calls ((rd_T41 l0 x5_1).f2) 1 9 false _ A16.out).mono ?_); rintro e w' ⟨rfl, ⟨nd, rfl⟩⟩))
         go_ret
         exact ⟨pE, pG GE329⟩
    ·rw [if_neg c4] at H
     exact absurd H (by simp)
   ·rw [if_neg c3] at H
    have c3b0 : decide (x5_1 < (l0.length : Int)) = false := decide_eq_false c3
    clear c3
    replace H := Option.bind_eq_some_iff.mp H
    obtain ⟨t327, A260, H⟩ := H
    replace H : (if t327 = true then (some (decide ((l0.length : Int) ≤ 6))) else (some false)) = some r := H
    have A26 := Aside0.mk A260
    clear A260
    by_cases c27 : t327 = true
    ·subst c27
     have H1 : (some (decide ((l0.length : Int) ≤ 6))) = some r := by rw [if_pos rfl] at H; exact H
     clear H
     have H := H1
     clear H1
     obtain rfl := Option.some.inj H
     go_wp2_with (first | ((with_reducible refine gate_callee (f := 59) rfl ?_); refine goesL_ (some 49) rfl rfl Try.func59 pL rfl #[.slice A1 l1.length c1] rfl pM ?_; (with_reducible refine (spec_FoodsValid.calls k1 _ _ l1 true _ ?side1 ?side2 A26.out).mono ?_); (case side1 => exact pS ((Kd.C_below HR1.out HB.out))); (case side2 => exact HC1.out); rintro e w28 ⟨rfl, hb⟩; refine ⟨_, rfl, ?_⟩; have n0_ := Aside0.mk (below_step pB hb); clear HB; have HB := n0_; clear n0_; (try clear hb); (try clear hb2); (try clear hk); (try clear hi)))
     go_ret
     exact ⟨pE, pB⟩
    ·replace c27 := Bool.eq_false_iff.mpr c27
     subst c27
     have H1 : (some false) = some r := by rw [if_neg (show ¬ (false = true) by decide)] at H; exact H
     clear H
     have H := H1
     clear H1
     obtain rfl := Option.some.inj H
     go_wp2_with (first | ((with_reducible refine gate_callee (f := 59) rfl ?_); refine goesL_ (some 49) rfl rfl Try.func59 pL rfl #[.slice A1 l1.length c1] rfl pM ?_; (with_reducible refine (spec_FoodsValid.calls k1 _ _ l1 false _ ?side1 ?side2 A26.out).mono ?_); (case side1 => exact pS ((Kd.C_below HR1.out HB.out))); (case side2 => exact HC1.out); rintro e w29 ⟨rfl, hb⟩; refine ⟨_, rfl, ?_⟩; have n0_ := Aside0.mk (below_step pB hb); clear HB; have HB := n0_; clear n0_; (try clear hb); (try clear hb2); (try clear hk); (try clear hi)))
     go_ret
     exact ⟨pE, pB⟩

end Go.Proofs.Ytglddjbcaknnaaa.Q
