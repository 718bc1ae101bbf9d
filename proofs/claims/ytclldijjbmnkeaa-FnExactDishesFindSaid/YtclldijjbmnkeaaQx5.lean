-- Written by the kit's print.py for all laws of the seat at once (one namespace), by a program of this session.
import Derived.Test.YtclldijjbmnkeaaQx0
namespace Go.Proofs.Ytclldijjbmnkeaa.Q
open Go.RowKit Go.Proofs.YtclldijjbmnkeaaW.PrintWords Go.Proofs.YtclldijjbmnkeaaW.PrintLast Go.Proofs.YtclldijjbmnkeaaW.PrintMore
attribute [local go_sem] max2_int min2_int max_two min_two max_three min_three max_four min_four   -- for this text's walks alone
set_option linter.unusedVariables false
set_option linter.unusedSimpArgs false

-- NOT PRINTED: function 56 (impl_Dish)

/-! ### impl_DishesFind: function 20 -/
-- by hand
set_option maxHeartbeats 4000000 in
set_option maxRecDepth 100000 in
/-- slices.IndexFunc: the first element of which the predicate holds. -/
theorem indexDish (p : S29 → Bool) (g : Nat) (lb : Array Value) (eg : ∀ args w, (callFunc g args).run Try.prog w = .ok (.enter g args) w) (A0 : Option Addr) (c0 : Nat) (l0 : List (S29)) (w : World) (hr0 : Kd.C k29 w A0 l0.length l0) (hc0 : l0.length ≤ c0)
    (hp : ∀ (W : World) (x : S29) (A2_ : Option Addr) (c2_ : Nat), Below w.heap.size w W → Calls Try.prog g (#[.agg #[.int .i64 x.f0, .int .i64 x.f1, .slice A2_ x.f2.length c2_]] ++ lb) W fun e w' => e = .returned (.bool (p x)) ∧ Below w.heap.size w w') :
    Calls Try.prog 56 #[.slice A0 l0.length c0, .func (.func g) #[] lb] w fun e w' => e = .returned (.int .i64 (idxOf p l0)) ∧ Below w.heap.size w w' := by
  have hu29 := Try.underlying29
  have HR0 := Aside0.mk hr0
  have HC0 := Aside0.mk hc0
  have HP := Aside0.mk hp
  have hn : l0.length ≤ 9223372036854775807 := hr0.2.1
  clear hr0 hc0 hp
  go_enter Try.func56, Try.ntmps56
  go_wp2
  go_loopg [5, 8] l0.length (fun gg _ s8 wr => ∃ x : Int, Aside0 (0 ≤ x ∧ x ≤ (l0.length : Int)) ∧ Aside0 (((l0.length : Int) - x).toNat ≤ gg) ∧ s8 = .int .i64 x ∧ Aside0 (Below w.heap.size w wr) ∧ Aside0 (∀ j : Nat, (j : Int) < x → p (l0.getD j z29) = false))
  case atStart => exact ⟨0, ⟨by omega⟩, ⟨by omega⟩, rfl, ⟨Below.refl _ w⟩, ⟨fun j hj => absurd hj (by omega)⟩⟩
  case round =>
    obtain ⟨x, HX, HG, rfl, HB, HQ⟩ := hrel
    by_cases hlt : x < (l0.length : Int)
    · have c3b0 : decide (x < (l0.length : Int)) = true := decide_eq_true hlt
      have HLT := Aside0.mk hlt
      have p1 : 0 ≤ x := HX.out.1
      obtain ⟨ad, A2_, c2_, ea, hx0, hx1, hx2, hs2_⟩ := at_T29 (Kd.C_below HR0.out HB.out) x p1 hlt
      cases ea
      clear hs2_
      have hcall := HP.out wr (rd_T29 l0 x) A2_ c2_ HB.out
      have HY : Aside0 (rd_T29 l0 x = l0.getD x.toNat z29) := ⟨rfl⟩
      have ew : wrap64 (x + 1) = x + 1 := by unfold wrap64; omega
      have EW := Aside0.mk ew
      clear ew
      replace p1 := eq_true p1
      replace hlt := eq_true hlt
      generalize rd_T29 l0 x = y at hx0 hx1 hx2 hcall HY
      cases hq : p y with
      | true =>
        rw [hq] at hcall
        have HQQ := Aside0.mk hq
        clear hq
        go_wp2_with fail
        refine hcall.mono ?_
        rintro e w' ⟨rfl, hb'⟩
        go_wp2
        go_ret
        refine ⟨?_, hb'⟩
        show Ending.returned (.int .i64 x) = _
        rw [idxOf_hit p l0 z29 x.toNat (by have := HX.out; have := HLT.out; omega) (by rw [← HY.out]; exact HQQ.out) (fun j hj => HQ.out j (by have := HX.out; omega)), Int.toNat_of_nonneg HX.out.1]
      | false =>
        rw [hq] at hcall
        have HQQ := Aside0.mk hq
        clear hq
        go_wp2_with fail
        refine hcall.mono ?_
        rintro e w' ⟨rfl, hb'⟩
        go_wp2
        go_roundg ((l0.length : Int) - (x + 1)).toNat
        case measure => have := HX.out; have := HG.out; have := HLT.out; omega
        case rel =>
          refine ⟨x + 1, ⟨by have := HX.out; have := HLT.out; omega⟩, ⟨Nat.le_refl _⟩, by first | rfl | (rw [EW.out]; done), ⟨hb'⟩, ⟨fun j hj => ?_⟩⟩
          by_cases e : (j : Int) = x
          · obtain rfl : x.toNat = j := by omega
            rw [← HY.out]; exact HQQ.out
          · exact HQ.out j (by omega)
    · have c3b0 : decide (x < (l0.length : Int)) = false := decide_eq_false hlt
      have HLT := Aside0.mk hlt
      clear hlt
      go_wp2
      go_ret
      refine ⟨?_, HB.out⟩
      show Ending.returned (.int .i64 (-1)) = _
      rw [idxOf_miss p l0 z29 (fun j hj => HQ.out j (by have := HX.out; have := HLT.out; omega))]
def impl_DishesFind.f (l0 : List S29) (a1 : Int) : Option Int := some (idxOf (fun x => x.f0 == a1) l0)
set_option maxHeartbeats 4000000 in
set_option maxRecDepth 100000 in
theorem impl_DishesFind.lit (x : S29) (a : Int) (A2_ : Option Addr) (c2_ : Nat) (B : Nat) (W : World) (hc : W.cell? ⟨B, 0, none⟩ = some (.int .i64 a)) :
    Calls Try.prog 57 #[.agg #[.int .i64 x.f0, .int .i64 x.f1, .slice A2_ x.f2.length c2_], .pointer (some ⟨B, 0, none⟩)] W fun e w' => e = .returned (.bool (x.f0 == a)) ∧ Below W.heap.size W w' := by
  have hu29 := Try.underlying29
  have hb : B < W.heap.size := World.block_lt_of_cell? W ⟨B, 0, none⟩ hc
  go_enter Try.func57, Try.ntmps57
  go_wp2
  go_ret
  exact ⟨rfl, below_alloc (Below.refl _ _) _⟩
theorem impl_DishesFind.enters : ∀ args w, (callFunc 57 args).run Try.prog w = .ok (.enter 57 args) w := by
  intro args w
  have h1 : Try.f57.name ≠ "runtime.NumGoroutine" := of_decide_eq_true pL
  have hb : ∃ c, Try.f57.body = some c := ⟨_, rfl⟩
  obtain ⟨c, hb⟩ := hb
  simp [callFunc, Try.func57, h1, hb, mark]
set_option maxHeartbeats 4000000 in
set_option maxRecDepth 100000 in
theorem impl_DishesFind.calls (A0 : Option Addr) (c0 : Nat) (l0 : List (S29)) (a1 : Int) (r : Int) (w : World) (hr0 : Kd.C k29 w A0 l0.length l0) (hc0 : l0.length ≤ c0) (h : impl_DishesFind.f l0 a1 = some r) :
    Calls Try.prog 20 #[.slice A0 l0.length c0, .int .i64 a1] w fun e w' => e = .returned (.int .i64 r) ∧ Below w.heap.size w w' := by
  obtain rfl := Option.some.inj h
  have HR0 := Aside0.mk hr0
  have HC0 := Aside0.mk hc0
  clear hr0 hc0 h
  go_enter Try.func20, Try.ntmps20
  go_wp2_with fail
  refine (indexDish (fun x => x.f0 == a1) 57 #[.pointer (some ⟨w.heap.size, 0, none⟩)] impl_DishesFind.enters A0 c0 l0 _ (Kd.C_below HR0.out (below_alloc (Below.refl _ _) _)) HC0.out ?_).mono ?_
  · intro W x A2_ c2_ hb
    refine (impl_DishesFind.lit x a1 A2_ c2_ w.heap.size W ?_).mono fun e w' ⟨he, hb'⟩ => ⟨he, Below.trans hb (hb'.mono ?_)⟩
    · rw [hb.cell (p := ⟨w.heap.size, 0, none⟩) (by simp)]
      simp
    · exact hb.size
  rintro e w' ⟨rfl, hb'⟩
  go_wp2
  go_ret
  exact ⟨rfl, below_then (below_alloc (Below.refl _ _) _) (by simp) hb'⟩

/-! ### spec_l11Find: function 58 -/
def spec_l11Find.l0 : Nat → List (S29) → Int → Int → Option (Int)
 | 0, _, _, _ => none
 | k + 1, x0, x1, x5 => if x5 < (x0.length : Int) then (if 0 ≤ x5 then (if ((rd_T29 x0 x5).f0) = x1 then (some x5) else (spec_l11Find.l0 k x0 x1 (wrap64 (x5 + 1)))) else (none)) else (some (-1))
def spec_l11Find.f (k : Nat) (l0 : List (S29)) (a1 : Int) : Option (Int) := spec_l11Find.l0 k l0 a1 0
theorem spec_l11Find.mono_l : ∀ k, (∀ y0 y1 y2, LeO (spec_l11Find.l0 k y0 y1 y2) (spec_l11Find.l0 (k + 1) y0 y1 y2))
 | 0 => fun _ _ _ r h => by simp [spec_l11Find.l0] at h
 | k + 1 => by
  have ih0 := spec_l11Find.mono_l k
  ·intro y0 y1 y2
   unfold spec_l11Find.l0
   repeat' first
   | (with_reducible exact ih0 _ _ _)
   | (with_reducible exact LeO.refl _)
   | (with_reducible exact LeO.none _)
   | (with_reducible refine LeO.ite ?_ ?_)
   | (with_reducible refine LeO.bind ?_ (fun _ => ?_))
   | exact ih0 _ _ _
   | exact LeO.none _
   | refine LeO.ite ?_ ?_
   | refine LeO.bind ?_ (fun _ => ?_)
theorem spec_l11Find.mono : ∀ a0 a1 k, LeO (spec_l11Find.f k a0 a1) (spec_l11Find.f (k + 1) a0 a1) := by
 intro a0 a1 k
 have ih0 := spec_l11Find.mono_l k
 unfold spec_l11Find.f
 repeat' first
   | (with_reducible exact ih0 _ _ _)
   | (with_reducible exact LeO.refl _)
   | (with_reducible exact LeO.none _)
   | (with_reducible refine LeO.ite ?_ ?_)
   | (with_reducible refine LeO.bind ?_ (fun _ => ?_))
   | exact ih0 _ _ _
   | exact LeO.none _
   | refine LeO.ite ?_ ?_
   | refine LeO.bind ?_ (fun _ => ?_)
set_option maxHeartbeats 8000000 in
set_option maxRecDepth 100000 in
theorem spec_l11Find.calls (k : Nat) (A0 : Option Addr) (c0 : Nat) (l0 : List (S29)) (a1 : Int) (r : Int) (w : World) (hr0 : Kd.C k29 w A0 l0.length l0) (hc0 : l0.length ≤ c0) (h : spec_l11Find.f k l0 a1 = some r) :
  Calls Try.prog 58 #[.slice A0 l0.length c0, .int .i64 a1] w fun e w' => e = .returned (.int .i64 r) ∧ Drawn0 w w' := by
 have HR0 := Aside0.mk hr0
 have HC0 := Aside0.mk hc0
 clear hr0 hc0
 have H : (spec_l11Find.l0 k l0 a1 0) = some r := h
 clear h
 have H' := Aside0.mk H
 clear H
 go_enter Try.func58, Try.ntmps58
 go_wp2
 go_loopg [5] k (fun kq v5 w' => ∃ (x5_1 : Int), v5 = .int .i64 x5_1 ∧ Aside0 (spec_l11Find.l0 kq l0 a1 x5_1 = some r) ∧ Aside0 (kq ≤ k) ∧ Drawn0 w w')
 case atStart => exact ⟨(0), pF, H', ⟨Nat.le_refl _⟩, by repeat (first | exact Drawn0.refl _ | apply Drawn0.step)⟩
 case round =>
  clear H'
  try clear p2
  obtain ⟨x5_1, rfl, HA, HK1, ⟨m1, rfl⟩⟩ := hrel
  cases gk with
  | zero => exact absurd HA.out (by simp [spec_l11Find.l0])
  | succ k1 =>
   have H := HA.out
   clear HA
   simp only [spec_l11Find.l0] at H
   rcases (Classical.em (x5_1 < (l0.length : Int))).symm with c3 | c3
   ·rw [if_neg c3] at H
    have c3b0 : decide (x5_1 < (l0.length : Int)) = false := decide_eq_false c3
    clear c3
    obtain rfl := Option.some.inj H
    go_wp2
    go_ret
    exact ⟨pF, by repeat (first | exact Drawn0.refl _ | apply Drawn0.step)⟩

   rw [if_pos c3] at H
   have c3b0 : decide (x5_1 < (l0.length : Int)) = true := decide_eq_true c3
   clear c3
   rcases (Classical.em (0 ≤ x5_1)).symm with c4 | c4
   ·rw [if_neg c4] at H
    exact absurd H (by simp)
   rw [if_pos c4] at H
   have c4b0 : decide (0 ≤ x5_1) = true := decide_eq_true c4
   clear c4
   by_cases c5 : ((rd_T29 l0 x5_1).f0) = a1
   ·rw [if_pos c5] at H
    have c5b0 : (((rd_T29 l0 x5_1).f0) == a1) = true := beq_iff_eq.mpr c5
    have c5b1 : (((rd_T29 l0 x5_1).f0) != a1) = false := bne_eq_false_iff_eq.mpr c5
    clear c5
    obtain rfl := Option.some.inj H
    have p233 : 0 ≤ (x5_1 : Int) := of_decide_eq_true pA
    have q233 : x5_1 < (l0.length : Int) := of_decide_eq_true pA
    obtain ⟨ad233, A233_2, c233_2, e233, hx233_0, hx233_1, hx233_2, hl233_2, hi233_2⟩ := at_T29 HR0.out x5_1 p233 q233
    cases e233
    have HR233_2 := Aside0.mk (hi233_2)
    have HC233_2 := Aside0.mk hl233_2
    clear hi233_2 hl233_2
    replace p233 := eq_true p233
    replace q233 := eq_true q233
    go_wp2
    go_ret
    exact ⟨pF, by repeat (first | exact Drawn0.refl _ | apply Drawn0.step)⟩
   rw [if_neg c5] at H
   have c5b0 : (((rd_T29 l0 x5_1).f0) == a1) = false := beq_eq_false_iff_ne.mpr c5
   have c5b1 : (((rd_T29 l0 x5_1).f0) != a1) = true := bne_iff_ne.mpr c5
   have H' := Aside0.mk H
   clear H
   have p233 : 0 ≤ (x5_1 : Int) := of_decide_eq_true pA
   have q233 : x5_1 < (l0.length : Int) := of_decide_eq_true pA
   obtain ⟨ad233, A233_2, c233_2, e233, hx233_0, hx233_1, hx233_2, hl233_2, hi233_2⟩ := at_T29 HR0.out x5_1 p233 q233
   cases e233
   have HR233_2 := Aside0.mk (hi233_2)
   have HC233_2 := Aside0.mk hl233_2
   clear hi233_2 hl233_2
   replace p233 := eq_true p233
   replace q233 := eq_true q233
   go_wp2
   go_roundg k1
   case measure => have := HK1.out; omega
   case rel => exact ⟨(wrap64 (x5_1 + 1)), pF, H', ⟨by have := HK1.out; omega⟩, by repeat (first | exact Drawn0.refl _ | apply Drawn0.step)⟩
end Go.Proofs.Ytclldijjbmnkeaa.Q
