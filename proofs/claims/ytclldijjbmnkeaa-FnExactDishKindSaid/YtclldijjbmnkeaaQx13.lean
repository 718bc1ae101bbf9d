-- Written by the kit's print.py for all laws of the seat at once (one namespace), by a program of this session.
import Derived.Test.YtclldijjbmnkeaaQx0
namespace Go.Proofs.Ytclldijjbmnkeaa.Q
open Go.RowKit Go.Proofs.YtclldijjbmnkeaaW.PrintWords Go.Proofs.YtclldijjbmnkeaaW.PrintLast Go.Proofs.YtclldijjbmnkeaaW.PrintMore
attribute [local go_sem] max2_int min2_int max_two min_two max_three min_three max_four min_four   -- for this text's walks alone
set_option linter.unusedVariables false
set_option linter.unusedSimpArgs false

-- NOT PRINTED: function 95 (impl_Food)

/-! ### impl_foodPlace: function 81 -/
-- by hand
set_option maxHeartbeats 4000000 in
set_option maxRecDepth 100000 in
/-- slices.IndexFunc: the first element of which the predicate holds. -/
theorem indexFood (p : S63 → Bool) (g : Nat) (lb : Array Value) (eg : ∀ args w, (callFunc g args).run Try.prog w = .ok (.enter g args) w) (A0 : Option Addr) (c0 : Nat) (l0 : List (S63)) (w : World) (hr0 : Kd.C k63 w A0 l0.length l0) (hc0 : l0.length ≤ c0)
    (hp : ∀ (W : World) (x : S63), Below w.heap.size w W → Calls Try.prog g (#[.agg #[.int .i64 x.f0, .int .i64 x.f1, .int .i64 x.f2, .int .i64 x.f3, .int .i64 x.f4, .int .i64 x.f5]] ++ lb) W fun e w' => e = .returned (.bool (p x)) ∧ Below w.heap.size w w') :
    Calls Try.prog 95 #[.slice A0 l0.length c0, .func (.func g) #[] lb] w fun e w' => e = .returned (.int .i64 (idxOf p l0)) ∧ Below w.heap.size w w' := by
  have hu63 := Try.underlying63
  have HR0 := Aside0.mk hr0
  have HC0 := Aside0.mk hc0
  have HP := Aside0.mk hp
  have hn : l0.length ≤ 9223372036854775807 := hr0.2.1
  clear hr0 hc0 hp
  go_enter Try.func95, Try.ntmps95
  go_wp2
  go_loopg [5, 8] l0.length (fun gg _ s8 wr => ∃ x : Int, Aside0 (0 ≤ x ∧ x ≤ (l0.length : Int)) ∧ Aside0 (((l0.length : Int) - x).toNat ≤ gg) ∧ s8 = .int .i64 x ∧ Aside0 (Below w.heap.size w wr) ∧ Aside0 (∀ j : Nat, (j : Int) < x → p (l0.getD j z63) = false))
  case atStart => exact ⟨0, ⟨by omega⟩, ⟨by omega⟩, rfl, ⟨Below.refl _ w⟩, ⟨fun j hj => absurd hj (by omega)⟩⟩
  case round =>
    obtain ⟨x, HX, HG, rfl, HB, HQ⟩ := hrel
    by_cases hlt : x < (l0.length : Int)
    · have c3b0 : decide (x < (l0.length : Int)) = true := decide_eq_true hlt
      have HLT := Aside0.mk hlt
      have p1 : 0 ≤ x := HX.out.1
      obtain ⟨ad, ea, hx0, hx1, hx2, hx3, hx4, hx5⟩ := at_T63 (Kd.C_below HR0.out HB.out) x p1 hlt
      cases ea
      have hcall := HP.out wr (rd_T63 l0 x) HB.out
      have HY : Aside0 (rd_T63 l0 x = l0.getD x.toNat z63) := ⟨rfl⟩
      have ew : wrap64 (x + 1) = x + 1 := by unfold wrap64; omega
      have EW := Aside0.mk ew
      clear ew
      replace p1 := eq_true p1
      replace hlt := eq_true hlt
      generalize rd_T63 l0 x = y at hx0 hx1 hx2 hx3 hx4 hx5 hcall HY
      cases hq : p y with
      | true =>
        rw [hq] at hcall
        have HQQ := Aside0.mk hq
        clear hq
        go_wp2_with fail
        refine hcall.mono ?_
        rintro e w' ⟨rfl, hb'⟩
        go_wp2
        go_ret
        refine ⟨?_, hb'⟩
        show Ending.returned (.int .i64 x) = _
        rw [idxOf_hit p l0 z63 x.toNat (by have := HX.out; have := HLT.out; omega) (by rw [← HY.out]; exact HQQ.out) (fun j hj => HQ.out j (by have := HX.out; omega)), Int.toNat_of_nonneg HX.out.1]
      | false =>
        rw [hq] at hcall
        have HQQ := Aside0.mk hq
        clear hq
        go_wp2_with fail
        refine hcall.mono ?_
        rintro e w' ⟨rfl, hb'⟩
        go_wp2
        go_roundg ((l0.length : Int) - (x + 1)).toNat
        case measure => have := HX.out; have := HG.out; have := HLT.out; omega
        case rel =>
          refine ⟨x + 1, ⟨by have := HX.out; have := HLT.out; omega⟩, ⟨Nat.le_refl _⟩, by first | rfl | (rw [EW.out]; done), ⟨hb'⟩, ⟨fun j hj => ?_⟩⟩
          by_cases e : (j : Int) = x
          · obtain rfl : x.toNat = j := by omega
            rw [← HY.out]; exact HQQ.out
          · exact HQ.out j (by omega)
    · have c3b0 : decide (x < (l0.length : Int)) = false := decide_eq_false hlt
      have HLT := Aside0.mk hlt
      clear hlt
      go_wp2
      go_ret
      refine ⟨?_, HB.out⟩
      show Ending.returned (.int .i64 (-1)) = _
      rw [idxOf_miss p l0 z63 (fun j hj => HQ.out j (by have := HX.out; have := HLT.out; omega))]
def impl_foodPlace.f (l0 : List S63) (a1 : Int) : Option Int := some (idxOf (fun x => x.f0 == a1) l0)
set_option maxHeartbeats 4000000 in
set_option maxRecDepth 100000 in
theorem impl_foodPlace.lit (x : S63) (a : Int) (B : Nat) (W : World) (hc : W.cell? ⟨B, 0, none⟩ = some (.int .i64 a)) :
    Calls Try.prog 96 #[.agg #[.int .i64 x.f0, .int .i64 x.f1, .int .i64 x.f2, .int .i64 x.f3, .int .i64 x.f4, .int .i64 x.f5], .pointer (some ⟨B, 0, none⟩)] W fun e w' => e = .returned (.bool (x.f0 == a)) ∧ Below W.heap.size W w' := by
  have hu63 := Try.underlying63
  have hb : B < W.heap.size := World.block_lt_of_cell? W ⟨B, 0, none⟩ hc
  go_enter Try.func96, Try.ntmps96
  go_wp2
  go_ret
  exact ⟨rfl, below_alloc (Below.refl _ _) _⟩
theorem impl_foodPlace.enters : ∀ args w, (callFunc 96 args).run Try.prog w = .ok (.enter 96 args) w := by
  intro args w
  have h1 : Try.f96.name ≠ "runtime.NumGoroutine" := of_decide_eq_true pL
  have hb : ∃ c, Try.f96.body = some c := ⟨_, rfl⟩
  obtain ⟨c, hb⟩ := hb
  simp [callFunc, Try.func96, h1, hb, mark]
set_option maxHeartbeats 4000000 in
set_option maxRecDepth 100000 in
theorem impl_foodPlace.calls (A0 : Option Addr) (c0 : Nat) (l0 : List (S63)) (a1 : Int) (r : Int) (w : World) (hr0 : Kd.C k63 w A0 l0.length l0) (hc0 : l0.length ≤ c0) (h : impl_foodPlace.f l0 a1 = some r) :
    Calls Try.prog 81 #[.slice A0 l0.length c0, .int .i64 a1] w fun e w' => e = .returned (.int .i64 r) ∧ Below w.heap.size w w' := by
  obtain rfl := Option.some.inj h
  have HR0 := Aside0.mk hr0
  have HC0 := Aside0.mk hc0
  clear hr0 hc0 h
  go_enter Try.func81, Try.ntmps81
  go_wp2_with fail
  refine (indexFood (fun x => x.f0 == a1) 96 #[.pointer (some ⟨w.heap.size, 0, none⟩)] impl_foodPlace.enters A0 c0 l0 _ (Kd.C_below HR0.out (below_alloc (Below.refl _ _) _)) HC0.out ?_).mono ?_
  · intro W x hb
    refine (impl_foodPlace.lit x a1 w.heap.size W ?_).mono fun e w' ⟨he, hb'⟩ => ⟨he, Below.trans hb (hb'.mono ?_)⟩
    · rw [hb.cell (p := ⟨w.heap.size, 0, none⟩) (by simp)]
      simp
    · exact hb.size
  rintro e w' ⟨rfl, hb'⟩
  go_wp2
  go_ret
  exact ⟨rfl, below_then (below_alloc (Below.refl _ _) _) (by simp) hb'⟩

end Go.Proofs.Ytclldijjbmnkeaa.Q
