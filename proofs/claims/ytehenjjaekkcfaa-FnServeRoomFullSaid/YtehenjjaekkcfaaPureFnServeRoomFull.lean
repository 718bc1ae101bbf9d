/- With room for all, the first choices are the plan: the law comes to true for every input. No conditions. -/
import Derived.Test.YtehenjjaekkcfaaWMore
import Derived.Test.YtehenjjaekkcfaaQx2
import Derived.Test.YtehenjjaekkcfaaQx9
import Derived.Test.YtehenjjaekkcfaaQx10
import Derived.Test.YtehenjjaekkcfaaQx5
import Derived.Test.YtehenjjaekkcfaaQx11
import Derived.Test.YtehenjjaekkcfaaQx12
import Derived.Test.YtehenjjaekkcfaaQx27
import Derived.Test.YtehenjjaekkcfaaQx22
import Derived.Test.YtehenjjaekkcfaaQx16
import Derived.Test.YtehenjjaekkcfaaQx17
import Derived.Test.YtehenjjaekkcfaaQx4
import Derived.Test.YtehenjjaekkcfaaQx7
import Derived.Test.YtehenjjaekkcfaaQx13
import Derived.Test.YtehenjjaekkcfaaQx23
import Derived.Test.YtehenjjaekkcfaaQx8
/- Plain logic for printed functions: from some number of rounds on a function answers, and its answer fits. No conditions. -/
namespace Go.Proofs.Ytehenjjaekkcfaa.Pure
open Go.RowKit Go.Proofs.YtehenjjaekkcfaaW.PrintWords Go.Proofs.YtehenjjaekkcfaaW.PrintLast

/-- g answers from some number of rounds on, and the answer is as Q says. -/
def Ok {α : Type} (g : Nat → Option α) (Q : α → Prop) : Prop := ∃ r, Ev g r ∧ Q r
theorem Ok.ret {α : Type} {r : α} {Q : α → Prop} (h : Q r) : Ok (fun _ => some r) Q := ⟨r, Ev.now r, h⟩
theorem Ok.of_eq {α : Type} {o : Option α} {r : α} {Q : α → Prop} (e : o = some r) (h : Q r) : Ok (fun _ => o) Q := by subst e; exact Ok.ret h
theorem Ok.bind {α β : Type} {g : Nat → Option α} {f : Nat → α → Option β} {P : α → Prop} {Q : β → Prop} (h : Ok g P) (k : ∀ a, P a → Ok (fun n => f n a) Q) : Ok (fun n => (g n).bind (f n)) Q := by
  obtain ⟨a, ha, hp⟩ := h
  obtain ⟨r, hr, hq⟩ := k a hp
  exact ⟨r, Ev.bind ha hr, hq⟩
theorem Ok.val {α β : Type} {a : α} {f : Nat → α → Option β} {Q : β → Prop} (h : Ok (fun n => f n a) Q) : Ok (fun n => (some a).bind (f n)) Q := h
theorem Ok.pos {α : Type} {c : Prop} [Decidable c] {t e : Nat → Option α} {Q : α → Prop} (hc : c) (h : Ok t Q) : Ok (fun n => if c then t n else e n) Q := by simpa only [if_pos hc] using h
theorem Ok.neg {α : Type} {c : Prop} [Decidable c] {t e : Nat → Option α} {Q : α → Prop} (hc : ¬ c) (h : Ok e Q) : Ok (fun n => if c then t n else e n) Q := by simpa only [if_neg hc] using h
theorem Ok.ite {α : Type} {c : Prop} [Decidable c] {t e : Nat → Option α} {Q : α → Prop} (h : c → Ok t Q) (k : ¬ c → Ok e Q) : Ok (fun n => if c then t n else e n) Q := by
  by_cases hc : c
  · exact Ok.pos hc (h hc)
  · exact Ok.neg hc (k hc)
theorem Ok.step {α : Type} {g f : Nat → Option α} {Q : α → Prop} (h : ∀ k, g (k + 1) = f k) (k : Ok f Q) : Ok g Q := by
  obtain ⟨r, hr, hq⟩ := k
  exact ⟨r, Ev.step h hr, hq⟩
theorem Ok.congr {α : Type} {g f : Nat → Option α} {Q : α → Prop} (h : ∀ k, g k = f k) (k : Ok f Q) : Ok g Q := by
  obtain ⟨r, hr, hq⟩ := k
  exact ⟨r, Ev.congr h hr, hq⟩
theorem Ok.mono {α : Type} {g : Nat → Option α} {P Q : α → Prop} (h : Ok g P) (k : ∀ a, P a → Q a) : Ok g Q := by
  obtain ⟨r, hr, hp⟩ := h
  exact ⟨r, hr, k r hp⟩
theorem Ok.and {α : Type} {g : Nat → Option α} {P Q : α → Prop} (h : Ok g P) (k : Ok g Q) : Ok g (fun a => P a ∧ Q a) := by
  obtain ⟨r, ⟨K, hr⟩, hp⟩ := h
  obtain ⟨r', ⟨K', hr'⟩, hq⟩ := k
  have h1 := hr (max K K') (by omega)
  have h2 := hr' (max K K') (by omega)
  obtain rfl : r = r' := by rw [h1] at h2; injection h2
  exact ⟨r, ⟨K, hr⟩, hp, hq⟩
theorem Ok.rounds {α : Type} {g : Nat → Option α} {r : α} (h : Ok g (· = r)) : ∃ k, g k = some r := by
  obtain ⟨_, hr, rfl⟩ := h
  exact hr.rounds
theorem Ok.eq {α : Type} {g : Nat → Option α} {r : α} {Q : α → Prop} (h : Ok g (· = r)) (q : Q r) : Ok g Q := h.mono fun _ e => by subst e; exact q
theorem wrap_id {n : Int} (h0 : -9223372036854775808 ≤ n) (h1 : n ≤ 9223372036854775807) : wrap64 n = n := by unfold wrap64; omega
theorem wf64 {n : Int} (h : (Lit.int .i64 n).wf = true) : -9223372036854775808 ≤ n ∧ n ≤ 9223372036854775807 := by
  simp [Lit.wf, IntKind.min, IntKind.max, IntKind.signed, IntKind.bits] at h
  omega
theorem wfu8 {n : Int} (h : (Lit.int .u8 n).wf = true) : 0 ≤ n ∧ n ≤ 255 := by
  simp [Lit.wf, IntKind.min, IntKind.max, IntKind.signed, IntKind.bits] at h
  omega
/-- A loop that counts an index up to n, with what else it carries in s. -/
theorem Ok.range {σ ρ : Type} (L : σ → Int → Nat → Option ρ) (n : Nat) (Inv : Nat → σ → Prop) (Q : ρ → Prop)
    (step : ∀ (i : Nat) (s : σ), i < n → Inv i s → (∀ s', Inv (i + 1) s' → Ok (L s' ((i : Int) + 1)) Q) → Ok (L s (i : Int)) Q)
    (last : ∀ s, Inv n s → Ok (L s (n : Int)) Q) : ∀ s, Inv 0 s → Ok (L s 0) Q := by
  have key : ∀ d i, i + d = n → ∀ s, Inv i s → Ok (L s (i : Int)) Q := by
    intro d
    induction d with
    | zero => intro i hi s hs; obtain rfl : i = n := (by omega); exact last s hs
    | succ d ih =>
      intro i hi s hs
      refine step i s (by omega) hs fun s' hs' => ?_
      have := ih (i + 1) (by omega) s' hs'
      rwa [show ((i + 1 : Nat) : Int) = (i : Int) + 1 by omega] at this
  exact fun s hs => key n 0 (by omega) s hs
/-- The same for a loop that counts down from n - 1. -/
theorem Ok.down {σ ρ : Type} (L : σ → Int → Nat → Option ρ) (n : Nat) (Inv : Nat → σ → Prop) (Q : ρ → Prop)
    (step : ∀ (i : Nat) (s : σ), i < n → Inv (i + 1) s → (∀ s', Inv i s' → Ok (L s' ((i : Int) - 1)) Q) → Ok (L s (i : Int)) Q)
    (last : ∀ s, Inv 0 s → Ok (L s (-1)) Q) : ∀ s, Inv n s → Ok (L s ((n : Int) - 1)) Q := by
  have key : ∀ i, i ≤ n → ∀ s, Inv i s → Ok (L s ((i : Int) - 1)) Q := by
    intro i
    induction i with
    | zero => intro _ s hs; exact last s hs
    | succ i ih =>
      intro hi s hs
      have := step i s (by omega) hs fun s' hs' => ih (by omega) s' hs'
      rwa [show ((i + 1 : Nat) : Int) - 1 = (i : Int) by omega]
  exact fun s hs => key n (Nat.le_refl _) s hs
theorem bool_of_iff {a b : Bool} {P : Prop} (h : a = true ↔ P) (k : b = true ↔ P) : a = b := by
  cases a <;> cases b <;> simp_all
theorem take_next {α : Type} {l : List α} {i : Nat} (d : α) (h : i < l.length) : l.take (i + 1) = l.take i ++ [l.getD i d] := by
  rw [List.take_succ_eq_append_getElem h, List.getD_eq_getElem?_getD, List.getElem?_eq_getElem h, Option.getD_some]
theorem getD_at {α : Type} (l : List α) (d : α) (i : Nat) (h : i < l.length) : l.getD i d = l[i] := by
  rw [List.getD_eq_getElem?_getD, List.getElem?_eq_getElem h, Option.getD_some]
theorem len_small {α : Type} {l : List α} (h : l.length ≤ maxLen) : (l.length : Int) ≤ 9223372036854775807 := by unfold maxLen at h; omega
end Go.Proofs.Ytehenjjaekkcfaa.Pure
/- Ranges, and the bits of sets. No conditions. -/
namespace Go.Proofs.Ytehenjjaekkcfaa.Pure
open Go.RowKit Go.Proofs.YtehenjjaekkcfaaW.PrintWords Go.Proofs.YtehenjjaekkcfaaW.PrintLast
set_option linter.unusedVariables false
set_option linter.unusedSimpArgs false

def inr (a lo hi : Int) : Bool := decide (lo ≤ a ∧ a ≤ hi)
theorem inr_iff (a lo hi : Int) : inr a lo hi = true ↔ lo ≤ a ∧ a ≤ hi := by simp [inr]
theorem bits_nat64 (a b : Nat) (ha : a < 256) (hb : b < 256) : Go.bits .and .i64 (a : Int) (b : Int) = ((a &&& b : Nat) : Int) ∧ Go.bits .or .i64 (a : Int) (b : Int) = ((a ||| b : Nat) : Int) :=
  Go.bits_nat .i64 8 (by decide) (fun n h0 h1 => by rw [IntKind.wrap_i64]; omega) a b ha hb
theorem set_nat {a : Int} (h : 0 ≤ a ∧ a ≤ 255) : ∃ n : Nat, a = (n : Int) ∧ n < 256 := ⟨a.toNat, by omega, by omega⟩
end Go.Proofs.Ytehenjjaekkcfaa.Pure
/- The reference's ranges and sets. No conditions. -/
namespace Go.Proofs.Ytehenjjaekkcfaa.Pure
open Go.RowKit Go.Proofs.YtehenjjaekkcfaaW.PrintWords Go.Proofs.YtehenjjaekkcfaaW.PrintLast Go.Proofs.Ytehenjjaekkcfaa.Q
set_option linter.unusedVariables false
set_option linter.unusedSimpArgs false

theorem l6In_eq (a lo hi : Int) : spec_l6In.f a lo hi = some (inr a lo hi) := by
  unfold spec_l6In.f inr
  by_cases h : a ≥ lo
  · rw [if_pos h]; simp [h]
  · rw [if_neg h]; simp; omega
theorem l3Set_eq (a : Int) : spec_l3Set.f a = some (inr a 0 255) := by simp only [spec_l3Set.f, l6In_eq, Option.bind_some]
end Go.Proofs.Ytehenjjaekkcfaa.Pure
/- The program's ranges, sets and kinds. No conditions. -/
namespace Go.Proofs.Ytehenjjaekkcfaa.Pure
open Go.RowKit Go.Proofs.YtehenjjaekkcfaaW.PrintWords Go.Proofs.YtehenjjaekkcfaaW.PrintLast Go.Proofs.Ytehenjjaekkcfaa.Q
set_option linter.unusedVariables false
set_option linter.unusedSimpArgs false

theorem within_eq (a lo hi : Int) : impl_within.f a lo hi = some (inr a lo hi) := by
  unfold impl_within.f inr
  by_cases h : a ≥ lo
  · rw [if_pos h]; simp [h]
  · rw [if_neg h]; simp; omega
theorem isSet_eq (a : Int) : impl_isSet.f a = some (inr a 0 255) := by simp only [impl_isSet.f, within_eq, Option.bind_some]
theorem isKind_eq (a : Int) : impl_isKind.f a = some (inr a 1 5) := by simp only [impl_isKind.f, within_eq, Option.bind_some]
end Go.Proofs.Ytehenjjaekkcfaa.Pure
/- When a guest is valid. No conditions. -/
namespace Go.Proofs.Ytehenjjaekkcfaa.Pure
open Go.RowKit Go.Proofs.YtehenjjaekkcfaaW.PrintWords Go.Proofs.YtehenjjaekkcfaaW.PrintLast Go.Proofs.Ytehenjjaekkcfaa.Q
set_option linter.unusedVariables false
set_option linter.unusedSimpArgs false

def gB (a b c : Int) : Bool := inr a 1 99 && inr b 1 4 && inr c 0 255
theorem gB_iff (a b c : Int) : gB a b c = true ↔ (1 ≤ a ∧ a ≤ 99) ∧ (1 ≤ b ∧ b ≤ 4) ∧ 0 ≤ c ∧ c ≤ 255 := by simp [gB, inr_iff, and_assoc]
theorem sGuest_eq (a b c : Int) : spec_l12Guest.f a b c = some (gB a b c) := by
  unfold spec_l12Guest.f gB
  simp only [l6In_eq, l3Set_eq, Option.bind_some]
  cases inr a 1 99 <;> cases inr b 1 4 <;> rfl
theorem iGuest_eq (a b c : Int) : impl_guestValid.f a b c = some (gB a b c) := by
  unfold impl_guestValid.f gB
  simp only [within_eq, isSet_eq, Option.bind_some]
  cases inr a 1 99 <;> cases inr b 1 4 <;> rfl
end Go.Proofs.Ytehenjjaekkcfaa.Pure
/- When guests are valid, in the program and in the reference. Condition: at most 2,000,000. -/
namespace Go.Proofs.Ytehenjjaekkcfaa.Pure
open Go.RowKit Go.Proofs.YtehenjjaekkcfaaW.PrintWords Go.Proofs.YtehenjjaekkcfaaW.PrintLast Go.Proofs.Ytehenjjaekkcfaa.Q
set_option linter.unusedVariables false
set_option linter.unusedSimpArgs false

abbrev Gst := S43
def gAt (l : List Gst) (i : Nat) : Gst := l.getD i z43
theorem gAt_rd (l : List Gst) (i : Nat) : rd_T43 l (i : Int) = gAt l i := rfl
theorem gAt_prev (l : List Gst) (i : Nat) (h : 0 < i) : rd_T43 l ((i : Int) - 1) = gAt l (i - 1) := by
  unfold rd_T43 gAt
  rw [show ((i : Int) - 1).toNat = i - 1 by omega]
/-- element i is as it must be -/
def gGood (l : List Gst) (i : Nat) : Prop := gB (gAt l i).f0 (gAt l i).f1 (gAt l i).f2 = true ∧ (0 < i → (gAt l (i - 1)).f0 < (gAt l i).f0)
/-- guests are valid -/
def GV (l : List Gst) : Prop := l.length ≤ 10 ∧ ∀ i, i < l.length → gGood l i
theorem sGuests_ok (l : List Gst) (hl : l.length ≤ 2000000) : Ok (fun k => spec_GuestsValid.f k l) (fun r => r = true ↔ GV l) := by
  unfold spec_GuestsValid.f
  refine Ok.range (fun (_ : Unit) i k => spec_GuestsValid.l0 k l i) l.length (fun i _ => ∀ j, j < i → gGood l j) _ ?_ ?_ () (fun j hj => absurd hj (by omega))
  · intro i _ hi hinv ih
    have ew : wrap64 ((i : Int) + 1) = (i : Int) + 1 := wrap_id (by omega) (by omega)
    have ew' : wrap64 ((i : Int) - 1) = (i : Int) - 1 := wrap_id (by omega) (by omega)
    refine Ok.step (fun k => by simp only [spec_GuestsValid.l0]; rfl) (Ok.pos (by omega) (Ok.pos (by omega) ?_))
    simp only [sGuest_eq, Option.bind_some, ew, ew', gAt_rd]
    have bad : ¬ gGood l i → Ok (fun _ => some false) (fun r : Bool => r = true ↔ GV l) := fun h => Ok.ret (by
      constructor
      · intro h'; cases h'
      · intro h'; exact absurd (h'.2 i hi) h)
    have good : gGood l i → Ok (fun k => spec_GuestsValid.l0 k l ((i : Int) + 1)) (fun r : Bool => r = true ↔ GV l) := fun h => ih () (fun j hj => by
      rcases Nat.lt_succ_iff_lt_or_eq.1 hj with h1 | rfl
      · exact hinv j h1
      · exact h)
    refine Ok.ite (fun h1 => Ok.ite (fun h2 => ?_) (fun h2 => good ⟨h1, fun h => absurd h (by omega)⟩)) (fun h1 => bad fun h => h1 h.1)
    refine Ok.pos (by omega) (Ok.pos (by omega) ?_)
    simp only [gAt_prev l i (by omega)]
    refine Ok.ite (fun h3 => bad fun h => ?_) (fun h3 => good ⟨h1, fun _ => by omega⟩)
    have := h.2 (by omega)
    omega
  · intro _ hinv
    refine Ok.step (fun k => by simp only [spec_GuestsValid.l0]; rfl) (Ok.neg (by omega) (Ok.ret ?_))
    rw [decide_eq_true_iff]
    exact ⟨fun h => ⟨by omega, hinv⟩, fun h => by have := h.1; omega⟩
theorem iGuests_ok (l : List Gst) (hl : l.length ≤ 2000000) : Ok (fun k => impl_GuestsValid.f k l) (fun r => r = true ↔ GV l) := by
  unfold impl_GuestsValid.f
  refine Ok.range (fun (_ : Unit) i k => impl_GuestsValid.l0 k l l (l.length : Int) i) l.length (fun i _ => ∀ j, j < i → gGood l j) _ ?_ ?_ () (fun j hj => absurd hj (by omega))
  · intro i _ hi hinv ih
    have ew : wrap64 ((i : Int) + 1) = (i : Int) + 1 := wrap_id (by omega) (by omega)
    have ew' : wrap64 ((i : Int) - 1) = (i : Int) - 1 := wrap_id (by omega) (by omega)
    refine Ok.step (fun k => by simp only [impl_GuestsValid.l0]; rfl) (Ok.pos (by omega) (Ok.pos (by omega) (Ok.pos (by omega) ?_)))
    simp only [iGuest_eq, Option.bind_some, ew, ew', gAt_rd]
    have bad : ¬ gGood l i → Ok (fun _ => some false) (fun r : Bool => r = true ↔ GV l) := fun h => Ok.ret (by
      constructor
      · intro h'; cases h'
      · intro h'; exact absurd (h'.2 i hi) h)
    have good : gGood l i → Ok (fun k => impl_GuestsValid.l0 k l l (l.length : Int) ((i : Int) + 1)) (fun r : Bool => r = true ↔ GV l) := fun h => ih () (fun j hj => by
      rcases Nat.lt_succ_iff_lt_or_eq.1 hj with h1 | rfl
      · exact hinv j h1
      · exact h)
    refine Ok.ite (fun h1 => Ok.ite (fun h2 => ?_) (fun h2 => good ⟨h1, fun h => absurd h (by omega)⟩)) (fun h1 => bad fun h => h1 h.1)
    refine Ok.pos (by omega) (Ok.pos (by omega) ?_)
    simp only [gAt_prev l i (by omega)]
    refine Ok.ite (fun h3 => bad fun h => ?_) (fun h3 => good ⟨h1, fun _ => by omega⟩)
    have := h.2 (by omega)
    omega
  · intro _ hinv
    refine Ok.step (fun k => by simp only [impl_GuestsValid.l0]; rfl) (Ok.neg (by omega) (Ok.ret ?_))
    rw [decide_eq_true_iff]
    exact ⟨fun h => ⟨by omega, hinv⟩, fun h => by have := h.1; omega⟩
end Go.Proofs.Ytehenjjaekkcfaa.Pure
/- Diets: what DietAllows answers, in the program and in the reference. No conditions. -/
namespace Go.Proofs.Ytehenjjaekkcfaa.Pure
open Go.RowKit Go.Proofs.YtehenjjaekkcfaaW.PrintWords Go.Proofs.YtehenjjaekkcfaaW.PrintLast Go.Proofs.Ytehenjjaekkcfaa.Q
set_option linter.unusedVariables false
set_option linter.unusedSimpArgs false

def dietB (d k : Int) : Bool := decide (1 ≤ d ∧ d ≤ 4 ∧ 1 ≤ k ∧ k ≤ 5 ∧ (d = 2 → k ≤ 4) ∧ (d = 3 → k ≤ 3) ∧ (d = 4 → k ≤ 1))
theorem dietB_iff (d k : Int) : dietB d k = true ↔ 1 ≤ d ∧ d ≤ 4 ∧ 1 ≤ k ∧ k ≤ 5 ∧ (d = 2 → k ≤ 4) ∧ (d = 3 → k ≤ 3) ∧ (d = 4 → k ≤ 1) := by unfold dietB; exact decide_eq_true_iff
theorem last_eq (d : Int) (h : 1 ≤ d ∧ d ≤ 4) : ∃ m, spec_l12Last.f d = some m ∧ (d = 1 → m = 5) ∧ (d = 2 → m = 4) ∧ (d = 3 → m = 3) ∧ (d = 4 → m = 1) := by
  have : d = 1 ∨ d = 2 ∨ d = 3 ∨ d = 4 := by omega
  rcases this with rfl | rfl | rfl | rfl <;> exact ⟨_, rfl, by decide, by decide, by decide, by decide⟩
theorem sDiet_eq (d k : Int) : spec_DietAllows.f d k = some (dietB d k) := by
  unfold spec_DietAllows.f
  simp only [l6In_eq, Option.bind_some]
  cases h1 : inr d 1 4 with
  | false =>
    have : dietB d k = false := by
      rw [Bool.eq_false_iff]; intro h
      rw [dietB_iff] at h
      have : inr d 1 4 = true := (inr_iff _ _ _).2 ⟨h.1, h.2.1⟩
      rw [h1] at this; cases this
    rw [this]; rfl
  | true =>
    have hd := (inr_iff _ _ _).1 h1
    cases h2 : inr k 1 5 with
    | false =>
      have : dietB d k = false := by
        rw [Bool.eq_false_iff]; intro h
        rw [dietB_iff] at h
        have : inr k 1 5 = true := (inr_iff _ _ _).2 ⟨h.2.2.1, h.2.2.2.1⟩
        rw [h2] at this; cases this
      rw [this]; rfl
    | true =>
      have hk := (inr_iff _ _ _).1 h2
      obtain ⟨m, hm, m1, m2, m3, m4⟩ := last_eq d hd
      rw [if_pos rfl, if_pos rfl, hm]
      simp only [Option.bind_some, Option.some.injEq]
      have : (k ≤ m) ↔ dietB d k = true := by
        rw [dietB_iff]
        have : d = 1 ∨ d = 2 ∨ d = 3 ∨ d = 4 := by omega
        omega
      rw [Bool.eq_iff_iff, ← this, decide_eq_true_iff]
theorem iDiet_eq (d k : Int) : impl_DietAllows.f d k = some (dietB d k) := by
  unfold impl_DietAllows.f
  simp only [isKind_eq, Option.bind_some]
  cases h2 : inr k 1 5 with
  | false =>
    have : dietB d k = false := by
      rw [Bool.eq_false_iff]; intro h
      rw [dietB_iff] at h
      have : inr k 1 5 = true := (inr_iff _ _ _).2 ⟨h.2.2.1, h.2.2.2.1⟩
      rw [h2] at this; cases this
    rw [this]; rfl
  | true =>
    have hk := (inr_iff _ _ _).1 h2
    rw [if_pos rfl]
    have key : ∀ b : Bool, (b = true ↔ dietB d k = true) → b = dietB d k := fun b h => Bool.eq_iff_iff.2 h
    split
    · rename_i e; subst e
      exact congrArg some (key _ (by rw [dietB_iff]; simp; omega))
    split
    · rename_i e; subst e
      exact congrArg some (key _ (by rw [dietB_iff]; simp; omega))
    split
    · rename_i e; subst e
      split
      · rename_i e; subst e
        exact congrArg some (key _ (by rw [dietB_iff]; simp))
      · exact congrArg some (key _ (by rw [dietB_iff]; simp; omega))
    split
    · rename_i e; subst e
      exact congrArg some (key _ (by rw [dietB_iff]; simp; omega))
    · exact congrArg some (key _ (by rw [dietB_iff]; simp; omega))
end Go.Proofs.Ytehenjjaekkcfaa.Pure
/- The weight of an allergen: two to the power of its number, up to 8. -/
namespace Go.Proofs.Ytehenjjaekkcfaa.Pure
open Go.RowKit Go.Proofs.YtehenjjaekkcfaaW.PrintWords Go.Proofs.YtehenjjaekkcfaaW.PrintLast Go.Proofs.Ytehenjjaekkcfaa.Q
set_option linter.unusedVariables false
set_option linter.unusedSimpArgs false

theorem pow_le (i : Nat) (h : i ≤ 8) : (1 : Int) ≤ 2 ^ i ∧ (2 : Int) ^ i ≤ 256 := by
  have h1 : 2 ^ i ≤ 2 ^ 8 := Nat.pow_le_pow_right (by decide) h
  have h2 : 0 < 2 ^ i := Nat.two_pow_pos i
  constructor
  · have : ((2 ^ i : Nat) : Int) = (2 : Int) ^ i := by simp
    omega
  · have : ((2 ^ i : Nat) : Int) = (2 : Int) ^ i := by simp
    omega
theorem weight_ok (n : Nat) (h : n ≤ 8) : Ok (fun k => spec_l3Weight.f k (n : Int)) (· = (2 : Int) ^ n) := by
  unfold spec_l3Weight.f
  refine Ok.range (fun (s : Int) i k => spec_l3Weight.l0 k (n : Int) s i) n (fun i s => s = 2 ^ i) _ ?_ ?_ 1 rfl
  · rintro i _ hi rfl ih
    have hp := pow_le i (by omega)
    refine Ok.step (fun k => by simp only [spec_l3Weight.l0]; rfl) (Ok.pos (by omega) ?_)
    rw [wrap_id (n := (i : Int) + 1) (by omega) (by omega), wrap_id (n := 2 * 2 ^ i) (by omega) (by omega)]
    exact ih _ (by rw [Int.pow_succ, Int.mul_comm])
  · rintro _ rfl
    exact Ok.step (fun k => by simp only [spec_l3Weight.l0]; rfl) (Ok.neg (by omega) (Ok.ret rfl))
end Go.Proofs.Ytehenjjaekkcfaa.Pure
/- Does a set have an allergen? Conditions: the set is in the range 0 to 255, the allergen at most 8. -/
namespace Go.Proofs.Ytehenjjaekkcfaa.Pure
open Go.RowKit Go.Proofs.YtehenjjaekkcfaaW.PrintWords Go.Proofs.YtehenjjaekkcfaaW.PrintLast Go.Proofs.Ytehenjjaekkcfaa.Q
set_option linter.unusedVariables false
set_option linter.unusedSimpArgs false

theorem has_ok (a : Nat) (ha : a < 256) (i : Nat) (h : i ≤ 8) : Ok (fun k => spec_l3Has.f k (a : Int) (i : Int)) (· = a.testBit i) := by
  unfold spec_l3Has.f
  refine Ok.bind (weight_ok i h) ?_
  rintro _ rfl
  have hp := pow_le i h
  refine Ok.neg (by omega) (Ok.ret ?_)
  have e : ((2 : Int) ^ i) = ((2 ^ i : Nat) : Int) := by simp
  rw [e, Int.tdiv_eq_ediv_of_nonneg (by omega), ← Int.natCast_ediv]
  have hd : a / 2 ^ i ≤ a := Nat.div_le_self _ _
  generalize hq : a / 2 ^ i = q at hd
  rw [wrap_id (n := ((q : Nat) : Int)) (by omega) (by omega), Int.tmod_eq_emod_of_nonneg (by omega), Nat.testBit_eq_decide_div_mod_eq, hq]
  by_cases h1 : q % 2 = 1
  · rw [decide_eq_true h1, beq_iff_eq]; omega
  · rw [decide_eq_false h1, beq_eq_false_iff_ne]; omega
theorem mod_next (x i : Nat) : x % 2 ^ (i + 1) = x % 2 ^ i + (if x.testBit i = true then 2 ^ i else 0) := by
  rw [Nat.mod_pow_succ, Nat.testBit_eq_decide_div_mod_eq]
  have h := Nat.mod_two_eq_zero_or_one (x / 2 ^ i)
  rcases h with h | h <;> simp [h]
theorem cast_mod (x i : Nat) (hi : i ≤ 8) (hx : x < 256) : 0 ≤ ((x % 2 ^ i : Nat) : Int) ∧ ((x % 2 ^ i : Nat) : Int) ≤ 255 := by
  have := Nat.mod_le x (2 ^ i)
  omega
end Go.Proofs.Ytehenjjaekkcfaa.Pure
/- The reference's common part of two sets. Conditions: sets in the range 0 to 255. -/
namespace Go.Proofs.Ytehenjjaekkcfaa.Pure
open Go.RowKit Go.Proofs.YtehenjjaekkcfaaW.PrintWords Go.Proofs.YtehenjjaekkcfaaW.PrintLast Go.Proofs.Ytehenjjaekkcfaa.Q
set_option linter.unusedVariables false
set_option linter.unusedSimpArgs false

theorem meet_ok (a b : Nat) (ha : a < 256) (hb : b < 256) : Ok (fun k => spec_l3Meet.f k (a : Int) (b : Int)) (· = ((a &&& b : Nat) : Int)) := by
  unfold spec_l3Meet.f
  have hab : a &&& b < 256 := Nat.and_lt_two_pow (n := 8) _ hb
  refine Ok.range (fun (s : Int) i k => spec_l3Meet.l0 k (a : Int) (b : Int) s i) 8 (fun i s => s = (((a &&& b) % 2 ^ i : Nat) : Int)) _ ?_ ?_ 0 (by simp [Nat.mod_one])
  · rintro i _ hi rfl ih
    have hr := cast_mod (a &&& b) i (by omega) hab
    have hp := pow_le i (by omega)
    have hn := mod_next (a &&& b) i
    have ew : wrap64 ((i : Int) + 1) = (i : Int) + 1 := wrap_id (by omega) (by omega)
    rw [Nat.testBit_and] at hn
    refine Ok.step (fun k => by simp only [spec_l3Meet.l0]; rfl) (Ok.pos (by omega) (Ok.bind (has_ok a ha i (by omega)) ?_))
    rintro _ rfl
    cases h1 : a.testBit i with
    | false =>
      refine Ok.neg (by simp) ?_
      rw [ew]
      exact ih _ (by rw [hn, h1]; simp)
    | true =>
      refine Ok.pos rfl (Ok.bind (has_ok b hb i (by omega)) ?_)
      rintro _ rfl
      cases h2 : b.testBit i with
      | false =>
        refine Ok.neg (by simp) ?_
        rw [ew]
        exact ih _ (by rw [hn, h2]; simp)
      | true =>
        refine Ok.pos rfl (Ok.bind (weight_ok i (by omega)) ?_)
        rintro _ rfl
        rw [ew, wrap_id (n := _ + 2 ^ i) (by omega) (by omega)]
        exact ih _ (by rw [hn, h1, h2]; simp)
  · rintro _ rfl
    refine Ok.step (fun k => by simp only [spec_l3Meet.l0]; rfl) (Ok.neg (by omega) (Ok.ret ?_))
    rw [Nat.mod_eq_of_lt hab]
end Go.Proofs.Ytehenjjaekkcfaa.Pure
/- Who may eat what: GuestMay, in the program and in the reference. No conditions. -/
namespace Go.Proofs.Ytehenjjaekkcfaa.Pure
open Go.RowKit Go.Proofs.YtehenjjaekkcfaaW.PrintWords Go.Proofs.YtehenjjaekkcfaaW.PrintLast Go.Proofs.Ytehenjjaekkcfaa.Q
set_option linter.unusedVariables false
set_option linter.unusedSimpArgs false

def mayB (a b c s k : Int) : Bool := gB a b c && inr s 0 255 && decide (Go.bits .and .i64 c s = 0) && dietB b k
theorem iMay_eq (a b c s k : Int) : impl_GuestMay.f a b c s k = some (mayB a b c s k) := by
  unfold impl_GuestMay.f mayB
  simp only [iGuest_eq, isSet_eq, iDiet_eq, Option.bind_some]
  cases gB a b c <;> cases inr s 0 255 <;> by_cases h : Go.bits .and .i64 c s = 0 <;> simp [h]
theorem sMay_ok (a b c s k : Int) : Ok (fun n => spec_GuestMay.f n a b c s k) (· = mayB a b c s k) := by
  unfold spec_GuestMay.f mayB
  simp only [sGuest_eq, l3Set_eq, sDiet_eq, Option.bind_some]
  cases h1 : gB a b c with
  | false => exact Ok.neg (by simp) (Ok.ret (by simp))
  | true =>
    refine Ok.pos rfl ?_
    cases h2 : inr s 0 255 with
    | false => exact Ok.neg (by simp) (Ok.ret (by simp))
    | true =>
      refine Ok.pos rfl ?_
      cases h3 : dietB b k with
      | false => exact Ok.neg (by simp) (Ok.ret (by simp))
      | true =>
        refine Ok.pos rfl ?_
        obtain ⟨x, rfl, hx⟩ := set_nat ((gB_iff _ _ _).1 h1).2.2
        obtain ⟨y, rfl, hy⟩ := set_nat ((inr_iff _ _ _).1 h2)
        refine Ok.bind (meet_ok x y hx hy) ?_
        rintro _ rfl
        refine Ok.ret ?_
        rw [(bits_nat64 x y hx hy).1]
        simp only [Bool.true_and, Bool.and_true]
        rw [Bool.eq_iff_iff, decide_eq_true_iff, beq_iff_eq]
end Go.Proofs.Ytehenjjaekkcfaa.Pure
/- Lists, read and written element by element. No conditions. -/
namespace Go.Proofs.Ytehenjjaekkcfaa.Pure
open Go.RowKit Go.Proofs.YtehenjjaekkcfaaW.PrintWords Go.Proofs.YtehenjjaekkcfaaW.PrintLast
set_option linter.unusedVariables false
set_option linter.unusedSimpArgs false

theorem rd_nat (l : List Int) (i : Nat) : rd l (i : Int) = l.getD i 0 := rfl
theorem eq_of_getD {α : Type} {a b : List α} (d : α) (h : a.length = b.length) (k : ∀ i, i < a.length → a.getD i d = b.getD i d) : a = b := by
  refine List.ext_getElem h fun i h1 h2 => ?_
  have := k i h1
  rwa [getD_at _ _ _ h1, getD_at _ _ _ h2] at this
theorem getD_set {α : Type} (l : List α) (d v : α) (i j : Nat) (hi : i < l.length) : (l.set i v).getD j d = if j = i then v else l.getD j d := by
  rw [List.getD_eq_getElem?_getD, List.getElem?_set]
  by_cases h : i = j
  · subst h; simp [hi]
  · rw [if_neg h, if_neg (fun e => h e.symm), ← List.getD_eq_getElem?_getD]
theorem getD_snoc {α : Type} (l : List α) (d v : α) (j : Nat) : (l ++ [v]).getD j d = if j = l.length then v else l.getD j d := by
  rw [List.getD_eq_getElem?_getD, List.getElem?_append]
  by_cases h : j < l.length
  · rw [if_pos h, if_neg (by omega), ← List.getD_eq_getElem?_getD]
  · rw [if_neg h]
    by_cases e : j = l.length
    · subst e; simp
    · rw [if_neg e, List.getElem?_eq_none (by simp; omega), List.getD_eq_getElem?_getD, List.getElem?_eq_none (by omega)]
theorem skip_getD {α : Type} (l : List α) (d : α) (k i : Nat) (hk : k < l.length) : (l.take k ++ l.drop (k + 1)).getD i d = if i < k then l.getD i d else l.getD (i + 1) d := by
  simp only [List.getD_eq_getElem?_getD, List.getElem?_append, List.length_take]
  by_cases h : i < k
  · rw [if_pos h, if_pos (by omega), List.getElem?_take, if_pos h]
  · rw [if_neg h, if_neg (by omega), List.getElem?_drop, show k + 1 + (i - min k l.length) = i + 1 by omega]
theorem skip_len {α : Type} (l : List α) (k : Nat) (hk : k < l.length) : (l.take k ++ l.drop (k + 1)).length = l.length - 1 := by simp; omega
end Go.Proofs.Ytehenjjaekkcfaa.Pure
/- When choices are valid, in the program and in the reference. Condition: at most 2,000,000. -/
namespace Go.Proofs.Ytehenjjaekkcfaa.Pure
open Go.RowKit Go.Proofs.YtehenjjaekkcfaaW.PrintWords Go.Proofs.YtehenjjaekkcfaaW.PrintLast Go.Proofs.Ytehenjjaekkcfaa.Q
set_option linter.unusedVariables false
set_option linter.unusedSimpArgs false
abbrev Chc := S32
def cAt (l : List Chc) (i : Nat) : Chc := l.getD i z32
theorem cAt_rd (l : List Chc) (i : Nat) : rd_T32 l (i : Int) = cAt l i := rfl
def cB (x : Chc) : Bool := inr x.f0 0 255 && inr x.f1 1 5 && inr x.f2 0 10
theorem cB_iff (x : Chc) : cB x = true ↔ (0 ≤ x.f0 ∧ x.f0 ≤ 255) ∧ (1 ≤ x.f1 ∧ x.f1 ≤ 5) ∧ 0 ≤ x.f2 ∧ x.f2 ≤ 10 := by simp [cB, inr_iff, and_assoc]
theorem bad_eq (x : Chc) : impl_ChoicesValid.bad x = !cB x := by
  unfold impl_ChoicesValid.bad
  by_cases h0 : 0 ≤ x.f0 ∧ x.f0 ≤ 255
  · rw [if_pos h0]
    by_cases h1 : 1 ≤ x.f1 ∧ x.f1 ≤ 5
    · rw [if_pos h1]
      simp [cB, inr, h0, h1]
    · rw [if_neg h1]
      simp [cB, inr, h1]
  · rw [if_neg h0]
    simp [cB, inr, h0]
def CV (l : List Chc) : Prop := (1 ≤ l.length ∧ l.length ≤ 4) ∧ ∀ i, i < l.length → cB (cAt l i) = true
theorem CV_iff (l : List Chc) : CV l ↔ (1 ≤ l.length ∧ l.length ≤ 4) ∧ ∀ x ∈ l, cB x = true := by
  unfold CV
  refine and_congr_right fun _ => ⟨fun h x hx => ?_, fun h i hi => ?_⟩
  · obtain ⟨j, hj, rfl⟩ := List.mem_iff_getElem.1 hx
    have := h j hj
    unfold cAt at this
    rwa [getD_at _ _ _ hj] at this
  · unfold cAt
    rw [getD_at _ _ _ hi]
    exact h _ (List.getElem_mem hi)
theorem iChoices_eq (l : List Chc) : ∃ b, impl_ChoicesValid.f l = some b ∧ (b = true ↔ CV l) := by
  unfold impl_ChoicesValid.f
  by_cases h : 1 ≤ (l.length : Int) ∧ (l.length : Int) ≤ 4
  · rw [if_pos h]
    refine ⟨_, rfl, ?_⟩
    rw [CV_iff]
    simp only [Bool.not_eq_true', List.any_eq_false, bad_eq]
    constructor
    · intro h'; exact ⟨by omega, fun x hx => by simpa using h' x hx⟩
    · intro h' x hx; simp [h'.2 x hx]
  · rw [if_neg h]
    exact ⟨_, rfl, fun h' => (by cases h'), fun h' => absurd h'.1 (by omega)⟩
theorem sChoices_ok (l : List Chc) (hl : l.length ≤ 2000000) : Ok (fun k => spec_ChoicesValid.f k l) (fun r => r = true ↔ CV l) := by
  unfold spec_ChoicesValid.f
  refine Ok.range (fun (_ : Unit) i k => spec_ChoicesValid.l0 k l i) l.length (fun i _ => ∀ j, j < i → cB (cAt l j) = true) _ ?_ ?_ () (fun j hj => absurd hj (by omega))
  · intro i _ hi hinv ih
    have ew : wrap64 ((i : Int) + 1) = (i : Int) + 1 := wrap_id (by omega) (by omega)
    refine Ok.step (fun k => by simp only [spec_ChoicesValid.l0]; rfl) (Ok.pos (by omega) (Ok.pos (by omega) ?_))
    simp only [l3Set_eq, l6In_eq, Option.bind_some, ew, cAt_rd]
    have bad : cB (cAt l i) = false → Ok (fun _ => some false) (fun r : Bool => r = true ↔ CV l) := fun h => Ok.ret ⟨fun h' => (by cases h'), fun h' => by rw [h'.2 i hi] at h; cases h⟩
    refine Ok.ite (fun h1 => Ok.ite (fun h2 => Ok.ite (fun h3 => ih () fun j hj => ?_) (fun h => bad ?_)) (fun h => bad ?_)) (fun h => bad ?_)
    · rcases Nat.lt_succ_iff_lt_or_eq.1 hj with h4 | rfl
      · exact hinv j h4
      · simp [cB, h1, h2, h3]
    · simp [cB, Bool.not_eq_true _ ▸ h]
    · simp [cB, Bool.not_eq_true _ ▸ h]
    · simp [cB, Bool.not_eq_true _ ▸ h]
  · intro _ hinv
    refine Ok.step (fun k => by simp only [spec_ChoicesValid.l0]; rfl) (Ok.neg (by omega) ?_)
    simp only [l6In_eq, Option.bind_some]
    refine Ok.ret ?_
    rw [inr_iff]
    exact ⟨fun h => ⟨by omega, hinv⟩, fun h => by have := h.1; omega⟩
end Go.Proofs.Ytehenjjaekkcfaa.Pure
/- The first choice of each guest, in the program and in the reference. Conditions: at most 2,000,000 guests and choices. -/
namespace Go.Proofs.Ytehenjjaekkcfaa.Pure
open Go.RowKit Go.Proofs.YtehenjjaekkcfaaW.PrintWords Go.Proofs.YtehenjjaekkcfaaW.PrintLast Go.Proofs.Ytehenjjaekkcfaa.Q
set_option linter.unusedVariables false
set_option linter.unusedSimpArgs false
def mayC (g : Gst) (c : Chc) : Bool := mayB g.f0 g.f1 g.f2 c.f0 c.f1
theorem may_eq (a b c d e f : Int) : impl_Choice_may.f a b c d e f = some (mayB d e f a b) := by simp only [impl_Choice_may.f, iMay_eq, Option.bind_some]
theorem pick_eq (g : Gst) (c : Chc) : impl_ServeFirst.pick g c = mayC g c := by unfold impl_ServeFirst.pick; rw [may_eq]; rfl
theorem l14May_ok (a b c d e f : Int) : Ok (fun k => spec_l14May.f k a b c d e f) (· = mayB a b c d e) := by
  unfold spec_l14May.f
  refine Ok.bind (sMay_ok a b c d e) ?_
  rintro _ rfl
  exact Ok.ret rfl
theorem l14Ok_ok (g : List Gst) (l : List Chc) (hg : g.length ≤ 2000000) (hl : l.length ≤ 2000000) : Ok (fun k => spec_l14Ok.f k g l) (fun r => r = true ↔ GV g ∧ CV l) := by
  unfold spec_l14Ok.f
  refine Ok.bind (sGuests_ok g hg) fun b hb => Ok.ite (fun h => Ok.bind (sChoices_ok l hl) fun c hc => Ok.ret ?_) (fun h => Ok.ret ?_)
  · rw [hc]; exact ⟨fun h' => ⟨hb.1 h, h'⟩, fun h' => h'.2⟩
  · exact ⟨fun h' => (by cases h'), fun h' => absurd (hb.2 h'.1) h⟩
def firsts (g : List Gst) (l : List Chc) : List Int := g.map fun x => idxOf (mayC x) l
def First (g : List Gst) (l : List Chc) (r : List Int) : Prop := (GV g ∧ CV l → r = firsts g l) ∧ (¬ (GV g ∧ CV l) → r = [])
theorem First.eq {g : List Gst} {l : List Chc} {a b : List Int} (h : First g l a) (k : First g l b) : a = b := by
  by_cases v : GV g ∧ CV l
  · rw [h.1 v, k.1 v]
  · rw [h.2 v, k.2 v]
theorem First.len {g : List Gst} {l : List Chc} {a : List Int} (h : First g l a) : a.length ≤ g.length := by
  by_cases v : GV g ∧ CV l
  · rw [h.1 v]; simp [firsts]
  · rw [h.2 v]; simp
theorem iFirst_ok (g : List Gst) (l : List Chc) (hg : g.length ≤ 2000000) : Ok (fun k => impl_ServeFirst.f k g l) (First g l) := by
  unfold impl_ServeFirst.f
  obtain ⟨b, e, hb⟩ := iChoices_eq l
  rw [e]
  refine Ok.bind (iGuests_ok g hg) fun a ha => Ok.ite (fun h => Ok.val (Ok.ite (fun h' => Ok.pos (by omega) (Ok.ret ?_)) (fun h' => Ok.ret ?_))) (fun h => Ok.ret ?_)
  · refine ⟨fun _ => ?_, fun h'' => absurd ⟨ha.1 h, hb.1 h'⟩ h''⟩
    unfold firsts
    exact List.map_congr_left fun x _ => by rw [show impl_ServeFirst.pick x = mayC x from funext (pick_eq x)]
  · exact ⟨fun h'' => absurd (hb.2 h''.2) h', fun _ => rfl⟩
  · exact ⟨fun h'' => absurd (ha.2 h''.1) h, fun _ => rfl⟩
theorem sFirst_ok (g : List Gst) (l : List Chc) (hg : g.length ≤ 2000000) (hl : l.length ≤ 2000000) : Ok (fun k => spec_ServeFirst.f k g l) (First g l) := by
  unfold spec_ServeFirst.f
  by_cases v : GV g ∧ CV l
  · refine Ok.range (fun (a : List Int) i k => spec_ServeFirst.l0 k g l a i) g.length (fun i a => a = (g.take i).map fun x => idxOf (mayC x) l) _ ?_ ?_ [] rfl
    · rintro i _ hi rfl ih
      have ew : wrap64 ((i : Int) + 1) = (i : Int) + 1 := wrap_id (by omega) (by omega)
      have hlen : ((g.take i).map fun x => idxOf (mayC x) l).length ≤ g.length := by rw [List.length_map, List.length_take]; omega
      have fin : ∀ n : Int, n = idxOf (mayC (gAt g i)) l → Ok (fun k => spec_ServeFirst.l0 k g l (((g.take i).map fun x => idxOf (mayC x) l) ++ [n]) ((i : Int) + 1)) (First g l) := fun n hn => ih _ (by
        rw [take_next z43 hi, List.map_append, hn]; rfl)
      refine Ok.step (fun k => by simp only [spec_ServeFirst.l0]; rfl) (Ok.pos (by omega) (Ok.bind (l14Ok_ok g l hg hl) fun b hb => ?_))
      refine Ok.step (fun k => by simp only [spec_ServeFirst.j1]; rfl) (Ok.pos (hb.2 v) ?_)
      refine Ok.range (fun (_ : Unit) j k => spec_ServeFirst.l1 k g l ((g.take i).map fun x => idxOf (mayC x) l) (i : Int) j) l.length (fun j _ => ∀ q, q < j → mayC (gAt g i) (l.getD q z32) = false) _ ?_ ?_ () (fun q hq => absurd hq (by omega))
      · intro j _ hj hinv ihj
        have ewj : wrap64 ((j : Int) + 1) = (j : Int) + 1 := wrap_id (by omega) (by omega)
        refine Ok.step (fun k => by simp only [spec_ServeFirst.l1]; rfl) (Ok.pos (by omega) (Ok.pos (by omega) (Ok.pos (by omega) (Ok.pos (by omega) ?_))))
        simp only [gAt_rd, cAt_rd]
        refine Ok.bind (l14May_ok _ _ _ _ _ _) ?_
        rintro _ rfl
        rw [ew, ewj]
        refine Ok.ite (fun h1 => Ok.neg (by omega) (Ok.pos (by omega) (fin _ ?_))) (fun h1 => ihj () fun q hq => ?_)
        · exact (idxOf_hit (mayC (gAt g i)) l z32 j hj h1 hinv).symm
        · rcases Nat.lt_succ_iff_lt_or_eq.1 hq with h2 | rfl
          · exact hinv q h2
          · exact Bool.eq_false_iff.2 h1
      · intro _ hinv
        refine Ok.step (fun k => by simp only [spec_ServeFirst.l1]; rfl) (Ok.neg (by omega) (Ok.pos (c := (l.length : Int) = (l.length : Int)) rfl (Ok.pos (by omega) ?_)))
        rw [ew]
        exact fin _ (idxOf_miss (mayC (gAt g i)) l z32 hinv).symm
    · rintro _ rfl
      refine Ok.step (fun k => by simp only [spec_ServeFirst.l0]; rfl) (Ok.neg (by omega) ?_)
      refine Ok.step (fun k => by simp only [spec_ServeFirst.j1]; rfl) (Ok.neg (by simp) (Ok.ret ⟨fun _ => ?_, fun h => absurd v h⟩))
      unfold firsts
      rw [List.take_length]
  · refine Ok.step (fun k => by simp only [spec_ServeFirst.l0]; rfl) (Ok.ite (fun h => Ok.bind (l14Ok_ok g l hg hl) fun b hb => ?_) (fun h => ?_))
    · exact Ok.step (fun k => by simp only [spec_ServeFirst.j1]; rfl) (Ok.neg (fun h => v (hb.1 h)) (Ok.ret ⟨fun h' => absurd h' v, fun _ => rfl⟩))
    · exact Ok.step (fun k => by simp only [spec_ServeFirst.j1]; rfl) (Ok.neg (by simp) (Ok.ret ⟨fun h' => absurd h' v, fun _ => rfl⟩))
end Go.Proofs.Ytehenjjaekkcfaa.Pure
/- Plans: who may have what, with so much room; when there is a plan, and which is the first. No conditions. -/
set_option linter.unusedVariables false
namespace HallX
/-- room of the choices below K that are in S -/
def rm (left : Nat → Int) (S : Nat → Bool) : Nat → Int
  | 0 => 0
  | k + 1 => rm left S k + (if S k = true then left k else 0)
/-- guest i may have nothing outside of S -/
def inside (may : Nat → Nat → Bool) (S : Nat → Bool) (i : Nat) : Nat → Bool
  | 0 => true
  | k + 1 => inside may S i k && (S k || !may i k)
def nd (may : Nat → Nat → Bool) (K : Nat) (S : Nat → Bool) : Nat → Nat → Int
  | 0, _ => 0
  | m + 1, i => (if inside may S i K = true then 1 else 0) + nd may K S m (i + 1)
def dec (left : Nat → Int) (k : Nat) : Nat → Int := fun j => if j = k then left j - 1 else left j
def hall (may : Nat → Nat → Bool) (K m i : Nat) (left : Nat → Int) : Prop := ∀ S, nd may K S m i ≤ rm left S K
def feas (may : Nat → Nat → Bool) (K : Nat) : Nat → Nat → (Nat → Int) → Prop
  | 0, _, _ => True
  | m + 1, i, left => ∃ k, k < K ∧ may i k = true ∧ 0 < left k ∧ feas may K m (i + 1) (dec left k)

theorem inside_iff (may : Nat → Nat → Bool) (S : Nat → Bool) (i K : Nat) : inside may S i K = true ↔ ∀ k, k < K → may i k = true → S k = true := by
  induction K with
  | zero => simp [inside]
  | succ K ih =>
    simp only [inside, Bool.and_eq_true, ih, Bool.or_eq_true, Bool.not_eq_true']
    constructor
    · rintro ⟨h, h'⟩ k hk hm
      rcases Nat.lt_succ_iff_lt_or_eq.1 hk with h1 | rfl
      · exact h k h1 hm
      · rcases h' with h' | h'
        · exact h'
        · rw [h'] at hm; cases hm
    · intro h
      refine ⟨fun k hk hm => h k (by omega) hm, ?_⟩
      cases hm : may i K with
      | false => exact .inr rfl
      | true => exact .inl (h K (by omega) hm)
theorem nd_nonneg (may : Nat → Nat → Bool) (K : Nat) (S : Nat → Bool) : ∀ m i, 0 ≤ nd may K S m i
  | 0, _ => by simp [nd]
  | m + 1, i => by
    have := nd_nonneg may K S m (i + 1)
    simp only [nd]
    split <;> omega
theorem rm_nonneg {left : Nat → Int} (S : Nat → Bool) : ∀ K, (∀ k, k < K → 0 ≤ left k) → 0 ≤ rm left S K
  | 0, _ => by simp [rm]
  | K + 1, h => by
    have := rm_nonneg S K (fun k hk => h k (by omega))
    have := h K (by omega)
    simp only [rm]
    split <;> omega
theorem rm_dec (left : Nat → Int) (S : Nat → Bool) (k : Nat) : ∀ K, rm (dec left k) S K = rm left S K - (if k < K ∧ S k = true then 1 else 0)
  | 0 => by simp [rm]
  | K + 1 => by
    simp only [rm, rm_dec left S k K, dec]
    by_cases hk : K = k
    · subst hk
      by_cases hs : S K = true
      · simp [hs]; omega
      · simp [hs]
    · by_cases h1 : k < K
      · have h2 : k < K + 1 := by omega
        by_cases hs : S k = true <;> simp [hk, h1, h2, hs] <;> split <;> omega
      · have h2 : ¬ k < K + 1 := by omega
        simp [hk, h1, h2]
theorem hall_of_feas (may : Nat → Nat → Bool) (K : Nat) : ∀ m i left, (∀ k, k < K → 0 ≤ left k) → feas may K m i left → hall may K m i left
  | 0, i, left, h0, _ => fun S => by simpa [nd] using rm_nonneg S K h0
  | m + 1, i, left, h0, ⟨k, hk, hm, hl, hf⟩ => fun S => by
    have h := hall_of_feas may K m (i + 1) (dec left k) (fun j hj => by
      unfold dec
      split
      · rename_i e; subst e; omega
      · exact h0 j hj) hf S
    rw [rm_dec] at h
    simp only [nd]
    by_cases hin : inside may S i K = true
    · have hs := (inside_iff may S i K).1 hin k hk hm
      rw [if_pos hin]
      rw [if_pos ⟨hk, hs⟩] at h
      omega
    · rw [if_neg hin]
      split at h <;> omega
def tight (may : Nat → Nat → Bool) (K m i : Nat) (left : Nat → Int) (S : Nat → Bool) : Prop := nd may K S m i = rm left S K
theorem rm_or_and (left : Nat → Int) (S T : Nat → Bool) : ∀ K, rm left (fun k => S k || T k) K + rm left (fun k => S k && T k) K = rm left S K + rm left T K
  | 0 => by simp [rm]
  | K + 1 => by
    have := rm_or_and left S T K
    simp only [rm]
    by_cases a : S K = true <;> by_cases b : T K = true <;> simp [a, b] <;> omega
theorem nd_or_and (may : Nat → Nat → Bool) (K : Nat) (S T : Nat → Bool) : ∀ m i, nd may K S m i + nd may K T m i ≤ nd may K (fun k => S k || T k) m i + nd may K (fun k => S k && T k) m i
  | 0, _ => by simp [nd]
  | m + 1, i => by
    have ih := nd_or_and may K S T m (i + 1)
    simp only [nd]
    have o1 : inside may S i K = true → inside may (fun k => S k || T k) i K = true := fun h => (inside_iff _ _ _ _).2 fun k hk hm => by simp [(inside_iff _ _ _ _).1 h k hk hm]
    have o2 : inside may T i K = true → inside may (fun k => S k || T k) i K = true := fun h => (inside_iff _ _ _ _).2 fun k hk hm => by simp [(inside_iff _ _ _ _).1 h k hk hm]
    have o3 : inside may S i K = true → inside may T i K = true → inside may (fun k => S k && T k) i K = true := fun h h' => (inside_iff _ _ _ _).2 fun k hk hm => by simp [(inside_iff _ _ _ _).1 h k hk hm, (inside_iff _ _ _ _).1 h' k hk hm]
    by_cases a : inside may S i K = true
    · by_cases b : inside may T i K = true
      · rw [if_pos a, if_pos b, if_pos (o1 a), if_pos (o3 a b)]; omega
      · rw [if_pos a, if_neg b, if_pos (o1 a)]; split <;> omega
    · by_cases b : inside may T i K = true
      · rw [if_neg a, if_pos b, if_pos (o2 b)]; split <;> omega
      · rw [if_neg a, if_neg b]; split <;> split <;> omega
theorem tight_or {may : Nat → Nat → Bool} {K m i : Nat} {left : Nat → Int} (h : hall may K m i left) {S T : Nat → Bool} (hs : tight may K m i left S) (ht : tight may K m i left T) : tight may K m i left (fun k => S k || T k) := by
  have h1 := h (fun k => S k || T k)
  have h2 := h (fun k => S k && T k)
  have h3 := rm_or_and left S T K
  have h4 := nd_or_and may K S T m i
  unfold tight at *
  omega
theorem rm_one (left : Nat → Int) (k : Nat) : ∀ K, rm left (fun j => j == k) K = if k < K then left k else 0
  | 0 => by simp [rm]
  | K + 1 => by
    simp only [rm, rm_one left k K]
    by_cases h : K = k
    · subst h; simp
    · by_cases h1 : k < K
      · have : k < K + 1 := by omega
        simp [h, h1, this]
      · have : ¬ k < K + 1 := by omega
        simp [h, h1, this]
theorem rm_none (left : Nat → Int) : ∀ K, rm left (fun _ => false) K = 0
  | 0 => rfl
  | K + 1 => by simp [rm, rm_none left K]
/-- the step of the greedy choice -/
theorem hall_step (may : Nat → Nat → Bool) (K m i : Nat) (left : Nat → Int) (h0 : ∀ k, k < K → 0 ≤ left k) (h : hall may K (m + 1) i left) :
    ∃ k, k < K ∧ may i k = true ∧ 0 < left k ∧ hall may K m (i + 1) (dec left k) := by
  apply Classical.byContradiction
  intro hno
  have h' : hall may K m (i + 1) left := fun S => by
    have := h S
    simp only [nd] at this
    split at this <;> omega
  have key : ∀ k, k < K → may i k = true → ∃ S : Nat → Bool, S k = true ∧ tight may K m (i + 1) left S := by
    intro k hk hm
    by_cases hl : 0 < left k
    · have hn : ¬ hall may K m (i + 1) (dec left k) := fun hh => hno ⟨k, hk, hm, hl, hh⟩
      obtain ⟨S, hS⟩ := Classical.not_forall.1 hn
      rw [rm_dec] at hS
      have h1 := h' S
      by_cases hs : S k = true
      · rw [if_pos ⟨hk, hs⟩] at hS
        exact ⟨S, hs, by unfold tight; omega⟩
      · rw [if_neg (fun e => hs e.2)] at hS
        omega
    · refine ⟨fun j => j == k, by simp, ?_⟩
      have h1 := h' (fun j => j == k)
      have h2 := nd_nonneg may K (fun j => j == k) m (i + 1)
      have h3 := rm_one left k K
      rw [if_pos hk] at h3
      have := h0 k hk
      unfold tight
      omega
  have all : ∀ K', K' ≤ K → ∃ U : Nat → Bool, tight may K m (i + 1) left U ∧ ∀ k, k < K' → may i k = true → U k = true := by
    intro K'
    induction K' with
    | zero =>
      intro _
      refine ⟨fun _ => false, ?_, fun k hk => absurd hk (by omega)⟩
      have h1 := h' (fun _ => false)
      have h2 := nd_nonneg may K (fun _ => false) m (i + 1)
      have h3 := rm_none left K
      unfold tight
      omega
    | succ K' ih =>
      intro hK
      obtain ⟨U, hU, hU'⟩ := ih (by omega)
      by_cases hm : may i K' = true
      · obtain ⟨S, hS, hT⟩ := key K' (by omega) hm
        refine ⟨fun k => U k || S k, tight_or h' hU hT, fun k hk hmk => ?_⟩
        rcases Nat.lt_succ_iff_lt_or_eq.1 hk with h1 | rfl
        · simp [hU' k h1 hmk]
        · simp [hS]
      · refine ⟨U, hU, fun k hk hmk => ?_⟩
        rcases Nat.lt_succ_iff_lt_or_eq.1 hk with h1 | rfl
        · exact hU' k h1 hmk
        · exact absurd hmk hm
  obtain ⟨U, hU, hU'⟩ := all K (Nat.le_refl _)
  have h1 := h U
  simp only [nd] at h1
  rw [if_pos ((inside_iff may U i K).2 hU')] at h1
  unfold tight at hU
  omega
theorem feas_of_hall (may : Nat → Nat → Bool) (K : Nat) : ∀ m i left, (∀ k, k < K → 0 ≤ left k) → hall may K m i left → feas may K m i left
  | 0, _, _, _, _ => trivial
  | m + 1, i, left, h0, h => by
    obtain ⟨k, hk, hm, hl, hh⟩ := hall_step may K m i left h0 h
    refine ⟨k, hk, hm, hl, feas_of_hall may K m (i + 1) (dec left k) (fun j hj => ?_) hh⟩
    unfold dec
    split
    · rename_i e; subst e; omega
    · exact h0 j hj
theorem feas_iff (may : Nat → Nat → Bool) (K m i : Nat) (left : Nat → Int) (h0 : ∀ k, k < K → 0 ≤ left k) : feas may K m i left ↔ hall may K m i left :=
  ⟨hall_of_feas may K m i left h0, feas_of_hall may K m i left h0⟩
end HallX
namespace HallX
def pick (f : Nat → Option (List Nat)) : Nat → Option (List Nat)
  | 0 => none
  | K + 1 => match pick f K with
    | some r => some r
    | none => (f K).map (K :: ·)
theorem pick_none {f : Nat → Option (List Nat)} : ∀ K, (∀ j, j < K → f j = none) → pick f K = none
  | 0, _ => rfl
  | K + 1, h => by
    simp only [pick, pick_none K (fun j hj => h j (by omega)), h K (by omega)]
    rfl
theorem pick_hit {f : Nat → Option (List Nat)} {k : Nat} {t : List Nat} (hf : f k = some t) (hn : ∀ j, j < k → f j = none) : ∀ K, k < K → pick f K = some (k :: t)
  | 0, h => absurd h (by omega)
  | K + 1, h => by
    by_cases e : K = k
    · subst e
      simp only [pick, pick_none K hn, hf]
      rfl
    · simp only [pick, pick_hit hf hn K (by omega)]
theorem pick_some {f : Nat → Option (List Nat)} : ∀ K {r : List Nat}, pick f K = some r → ∃ k t, k < K ∧ r = k :: t ∧ f k = some t ∧ ∀ j, j < k → f j = none
  | 0, r, h => by cases h
  | K + 1, r, h => by
    cases hp : pick f K with
    | some q =>
      simp only [pick, hp] at h
      cases h
      obtain ⟨k, t, h1, h2⟩ := pick_some K hp
      exact ⟨k, t, by omega, h2⟩
    | none =>
      simp only [pick, hp] at h
      cases hf : f K with
      | none => rw [hf] at h; cases h
      | some t =>
        rw [hf] at h
        cases h
        refine ⟨K, t, by omega, rfl, hf, fun j hj => ?_⟩
        cases hj' : f j with
        | none => rfl
        | some t' =>
          exfalso
          have key : ∀ K', j < K' → pick f K' ≠ none := by
            intro K'
            induction K' with
            | zero => intro h; omega
            | succ K' ih =>
              intro h e
              simp only [pick] at e
              by_cases hjk : j = K'
              · subst hjk
                cases hq : pick f j with
                | some q => rw [hq] at e; cases e
                | none => rw [hq, hj'] at e; cases e
              · cases hq : pick f K' with
                | some q => rw [hq] at e; cases e
                | none => exact ih (by omega) hq
          exact key K hj hp
def cand (may : Nat → Nat → Bool) (i : Nat) (left : Nat → Int) (b : Nat → Option (List Nat)) (k : Nat) : Option (List Nat) := if may i k = true ∧ 0 < left k then b k else none
/-- the first plan for m guests from guest i on -/
def best (may : Nat → Nat → Bool) (K : Nat) : Nat → Nat → (Nat → Int) → Option (List Nat)
  | 0, _, _ => some []
  | m + 1, i, left => pick (cand may i left fun k => best may K m (i + 1) (dec left k)) K
theorem best_feas (may : Nat → Nat → Bool) (K : Nat) : ∀ m i left, (best may K m i left).isSome = true ↔ feas may K m i left
  | 0, _, _ => by simp [best, feas]
  | m + 1, i, left => by
    constructor
    · intro h
      obtain ⟨r, hr⟩ := Option.isSome_iff_exists.1 h
      obtain ⟨k, t, hk, _, hf, _⟩ := pick_some K hr
      unfold cand at hf
      split at hf
      · rename_i hc
        exact ⟨k, hk, hc.1, hc.2, (best_feas may K m (i + 1) (dec left k)).1 (by rw [show best may K m (i + 1) (dec left k) = some t from hf]; rfl)⟩
      · cases hf
    · rintro ⟨k, hk, hm, hl, hf⟩
      cases hp : best may K (m + 1) i left with
      | some r => rfl
      | none =>
        exfalso
        have hs := (best_feas may K m (i + 1) (dec left k)).2 hf
        obtain ⟨t, ht⟩ := Option.isSome_iff_exists.1 hs
        have hc : cand may i left (fun k => best may K m (i + 1) (dec left k)) k = some t := by unfold cand; rw [if_pos ⟨hm, hl⟩]; exact ht
        -- the least such
        have : ∀ j, (∃ t, cand may i left (fun k => best may K m (i + 1) (dec left k)) j = some t) → j < K → False := by
          intro j
          induction j using Nat.strongRecOn with
          | ind j ih =>
            rintro ⟨t, ht⟩ hj
            by_cases hn : ∀ j', j' < j → cand may i left (fun k => best may K m (i + 1) (dec left k)) j' = none
            · have := pick_hit ht hn K hj
              rw [best, this] at hp
              cases hp
            · obtain ⟨j', hn'⟩ := Classical.not_forall.1 hn
              obtain ⟨h1, h2⟩ := Classical.not_imp.1 hn'
              cases hc' : cand may i left (fun k => best may K m (i + 1) (dec left k)) j' with
              | none => exact h2 hc'
              | some t' => exact ih j' h1 ⟨t', hc'⟩ (by omega)
        exact this k ⟨t, hc⟩ hk
/-- q is a plan for m guests from guest i on -/
def isPlan (may : Nat → Nat → Bool) (K : Nat) : Nat → Nat → (Nat → Int) → List Nat → Prop
  | 0, _, _, q => q = []
  | m + 1, i, left, q => ∃ k t, q = k :: t ∧ k < K ∧ may i k = true ∧ 0 < left k ∧ isPlan may K m (i + 1) (dec left k) t
theorem best_plan (may : Nat → Nat → Bool) (K : Nat) : ∀ m i left q, best may K m i left = some q → isPlan may K m i left q
  | 0, _, _, q, h => by cases h; rfl
  | m + 1, i, left, q, h => by
    obtain ⟨k, t, hk, e, hf, _⟩ := pick_some K h
    unfold cand at hf
    split at hf
    · rename_i hc
      exact ⟨k, t, e, hk, hc.1, hc.2, best_plan may K m (i + 1) (dec left k) t hf⟩
    · cases hf
theorem plan_feas (may : Nat → Nat → Bool) (K : Nat) : ∀ m i left q, isPlan may K m i left q → feas may K m i left
  | 0, _, _, _, _ => trivial
  | m + 1, i, left, q, ⟨k, t, _, hk, hm, hl, h⟩ => ⟨k, hk, hm, hl, plan_feas may K m (i + 1) (dec left k) t h⟩
def lexLe : List Nat → List Nat → Prop
  | a :: x, b :: y => a < b ∨ (a = b ∧ lexLe x y)
  | [], [] => True
  | _, _ => False
theorem best_least (may : Nat → Nat → Bool) (K : Nat) : ∀ m i left q r, isPlan may K m i left q → best may K m i left = some r → lexLe r q
  | 0, _, _, q, r, hq, hr => by cases hq; cases hr; trivial
  | m + 1, i, left, _, r, ⟨k, t, e, hk, hm, hl, h⟩, hr => by
    obtain ⟨k', t', hk', e', hf, hn⟩ := pick_some K hr
    subst e; subst e'
    by_cases h1 : k < k'
    · exfalso
      have := hn k h1
      unfold cand at this
      rw [if_pos ⟨hm, hl⟩] at this
      have h2 := (best_feas may K m (i + 1) (dec left k)).2 (plan_feas may K m (i + 1) (dec left k) t h)
      rw [show best may K m (i + 1) (dec left k) = none from this] at h2
      cases h2
    · by_cases h2 : k = k'
      · subst h2
        unfold cand at hf
        rw [if_pos ⟨hm, hl⟩] at hf
        exact .inr ⟨rfl, best_least may K m (i + 1) (dec left k) t t' h hf⟩
      · exact .inl (by omega)
theorem plan_len (may : Nat → Nat → Bool) (K : Nat) : ∀ m i left q, isPlan may K m i left q → q.length = m
  | 0, _, _, q, h => by cases h; rfl
  | m + 1, i, left, q, ⟨k, t, e, _, _, _, h⟩ => by rw [e, List.length_cons, plan_len may K m _ _ t h]
theorem feas_mono (may : Nat → Nat → Bool) (K : Nat) : ∀ m i left left', (∀ k, k < K → left k ≤ left' k) → feas may K m i left → feas may K m i left'
  | 0, _, _, _, _, _ => trivial
  | m + 1, i, left, left', hle, ⟨k, hk, hm, hl, h⟩ => ⟨k, hk, hm, by have := hle k hk; omega, feas_mono may K m (i + 1) _ _ (fun j hj => by
      have := hle j hj
      unfold dec
      split <;> omega) h⟩
theorem feas_shift (may may' : Nat → Nat → Bool) (K : Nat) : ∀ m i i' left, (∀ d k, d < m → k < K → may (i + d) k = may' (i' + d) k) → feas may K m i left → feas may' K m i' left
  | 0, _, _, _, _, _ => trivial
  | m + 1, i, i', left, he, ⟨k, hk, hm, hl, h⟩ => ⟨k, hk, by have := he 0 k (by omega) hk; simp only [Nat.add_zero] at this; rw [← this]; exact hm, hl, feas_shift may may' K m (i + 1) (i' + 1) _ (fun d k hd hk => by
      have := he (d + 1) k (by omega) hk
      rwa [show i + (d + 1) = i + 1 + d by omega, show i' + (d + 1) = i' + 1 + d by omega] at this) h⟩
/-- one guest fewer -/
theorem feas_skip (may may' : Nat → Nat → Bool) (K j : Nat) (h1 : ∀ i k, i < j → may' i k = may i k) (h2 : ∀ i k, j ≤ i → may' i k = may (i + 1) k) : ∀ m i left, i ≤ j → j ≤ i + m → feas may K (m + 1) i left → feas may' K m i left
  | 0, _, _, _, _, _ => trivial
  | m + 1, i, left, hi, hj, ⟨k, hk, hm, hl, h⟩ => by
    by_cases e : i = j
    · subst e
      refine feas_shift may may' K (m + 1) (i + 1) i left (fun d k _ _ => ?_) (feas_mono may K (m + 1) (i + 1) _ _ (fun j hj => ?_) h)
      · rw [h2 _ _ (by omega), show i + 1 + d = i + d + 1 by omega]
      · unfold dec
        split <;> omega
    · exact ⟨k, hk, by rw [h1 _ _ (by omega)]; exact hm, hl, feas_skip may may' K j h1 h2 m (i + 1) _ (by omega) (by omega) h⟩
/-- with room for all, the first choices are the first plan -/
theorem best_first (may : Nat → Nat → Bool) (K : Nat) (fst : Nat → Nat) : ∀ (m i : Nat) (left : Nat → Int), (∀ k, k < K → (m : Int) ≤ left k) → (∀ d, d < m → fst (i + d) < K ∧ may (i + d) (fst (i + d)) = true ∧ ∀ k, k < fst (i + d) → may (i + d) k = false) → best may K m i left = some ((List.range m).map fun d => fst (i + d))
  | 0, _, _, _, _ => rfl
  | m + 1, i, left, hl, hf => by
    have h0 := hf 0 (by omega)
    simp only [Nat.add_zero] at h0
    have ih := best_first may K fst m (i + 1) (dec left (fst i)) (fun k hk => by
      have := hl k hk
      unfold dec
      split <;> omega) (fun d hd => by
      have := hf (d + 1) (by omega)
      rwa [show i + (d + 1) = i + 1 + d by omega] at this)
    have := pick_hit (f := cand may i left fun k => best may K m (i + 1) (dec left k)) (k := fst i) (t := (List.range m).map fun d => fst (i + 1 + d)) (by
      unfold cand
      rw [if_pos ⟨h0.2.1, by have := hl _ h0.1; omega⟩]
      exact ih) (fun j hj => by
      unfold cand
      rw [if_neg (fun h => by rw [h0.2.2 j hj] at h; cases h.1)]) K h0.1
    rw [best, this, List.range_succ_eq_map, List.map_cons, List.map_map]
    congr 2
    refine List.map_congr_left fun d _ => ?_
    simp only [Function.comp]
    congr 1
    omega
end HallX
/- Who may have which choice, by place. No conditions. -/
namespace Go.Proofs.Ytehenjjaekkcfaa.Pure
open Go.RowKit Go.Proofs.YtehenjjaekkcfaaW.PrintWords Go.Proofs.YtehenjjaekkcfaaW.PrintLast Go.Proofs.Ytehenjjaekkcfaa.Q
def mayN (g : List Gst) (l : List Chc) (i k : Nat) : Bool := mayC (gAt g i) (cAt l k)
end Go.Proofs.Ytehenjjaekkcfaa.Pure
/- The reference's test for a plan: for every set of choices the guests that may have nothing else find room in it. Conditions: at most 4 choices, 2,000,000 guests, room 0 to 100 each. -/
namespace Go.Proofs.Ytehenjjaekkcfaa.Pure
open Go.RowKit Go.Proofs.YtehenjjaekkcfaaW.PrintWords Go.Proofs.YtehenjjaekkcfaaW.PrintLast Go.Proofs.Ytehenjjaekkcfaa.Q HallX
set_option linter.unusedVariables false
set_option linter.unusedSimpArgs false
def lf (u : List Int) (k : Nat) : Int := u.getD k 0
theorem lf_set (u : List Int) (k : Nat) (hk : k < u.length) : lf (u.set k (u.getD k 0 - 1)) = dec (lf u) k := by
  funext j
  unfold lf dec
  rw [getD_set _ _ _ _ _ hk]
  split
  · rename_i h; rw [h]
  · rfl
theorem rm_congr (left : Nat → Int) {S T : Nat → Bool} : ∀ K, (∀ k, k < K → S k = T k) → rm left S K = rm left T K
  | 0, _ => rfl
  | K + 1, h => by simp only [rm, rm_congr left K (fun k hk => h k (by omega)), h K (by omega)]
theorem inside_congr (may : Nat → Nat → Bool) {S T : Nat → Bool} (i : Nat) : ∀ K, (∀ k, k < K → S k = T k) → inside may S i K = inside may T i K
  | 0, _ => rfl
  | K + 1, h => by simp only [inside, inside_congr may i K (fun k hk => h k (by omega)), h K (by omega)]
theorem nd_congr (may : Nat → Nat → Bool) (K : Nat) {S T : Nat → Bool} (h : ∀ k, k < K → S k = T k) : ∀ m i, nd may K S m i = nd may K T m i
  | 0, _ => rfl
  | m + 1, i => by simp only [nd, nd_congr may K h m, inside_congr may i K h]
theorem nd_le (may : Nat → Nat → Bool) (K : Nat) (S : Nat → Bool) : ∀ (m i : Nat), nd may K S m i ≤ m
  | 0, _ => by simp [nd]
  | m + 1, i => by
    have := nd_le may K S m (i + 1)
    simp only [nd]
    split <;> omega
theorem rm_le (left : Nat → Int) (S : Nat → Bool) (h : ∀ k, 0 ≤ left k ∧ left k ≤ 100) : ∀ (K : Nat), 0 ≤ rm left S K ∧ rm left S K ≤ 100 * K
  | 0 => by simp [rm]
  | K + 1 => by
    have := rm_le left S h K
    have := h K
    simp only [rm]
    split <;> omega
/-- every set of the choices below K is a number's bits -/
theorem set_num (S : Nat → Bool) : ∀ K, ∃ n, n < 2 ^ K ∧ ∀ k, k < K → n.testBit k = S k
  | 0 => ⟨0, by decide, fun k hk => absurd hk (by omega)⟩
  | K + 1 => by
    obtain ⟨n, hn, hb⟩ := set_num S K
    cases hS : S K with
    | false =>
      refine ⟨n, by rw [Nat.pow_succ]; omega, fun k hk => ?_⟩
      rcases Nat.lt_succ_iff_lt_or_eq.1 hk with h | rfl
      · exact hb k h
      · rw [hS]; exact Nat.testBit_lt_two_pow hn
    | true =>
      refine ⟨2 ^ K + n, by rw [Nat.pow_succ]; omega, fun k hk => ?_⟩
      rcases Nat.lt_succ_iff_lt_or_eq.1 hk with h | rfl
      · rw [Nat.testBit_two_pow_add_gt h, hb k h]
      · rw [Nat.testBit_two_pow_add_eq, Nat.testBit_lt_two_pow hn, hS]; rfl
theorem hall_num (may : Nat → Nat → Bool) (K m i : Nat) (left : Nat → Int) : hall may K m i left ↔ ∀ n, n < 2 ^ K → nd may K n.testBit m i ≤ rm left n.testBit K := by
  constructor
  · intro h n _; exact h _
  · intro h S
    obtain ⟨n, hn, hb⟩ := set_num S K
    rw [← nd_congr may K hb m i, ← rm_congr left K hb]
    exact h n hn
theorem nd_zero (may : Nat → Nat → Bool) (K : Nat) (S : Nat → Bool) (i : Nat) : nd may K S 0 i = 0 := rfl
theorem nd_succ (may : Nat → Nat → Bool) (K : Nat) (S : Nat → Bool) (m i : Nat) : nd may K S (m + 1) i = (if inside may S i K = true then 1 else 0) + nd may K S m (i + 1) := rfl
theorem inside_zero (may : Nat → Nat → Bool) (S : Nat → Bool) (i : Nat) : inside may S i 0 = true := rfl
theorem inside_succ (may : Nat → Nat → Bool) (S : Nat → Bool) (i k : Nat) : inside may S i (k + 1) = (inside may S i k && (S k || !may i k)) := rfl
theorem rm_zero (left : Nat → Int) (S : Nat → Bool) : rm left S 0 = 0 := rfl
theorem rm_succ (left : Nat → Int) (S : Nat → Bool) (k : Nat) : rm left S (k + 1) = rm left S k + (if S k = true then left k else 0) := rfl
attribute [local irreducible] nd inside rm
theorem l14Some_ok (g : List Gst) (l : List Chc) (i : Nat) (u : List Int) (hi : i ≤ g.length) (hg : g.length ≤ 2000000) (hl : l.length ≤ 4) (hu : u.length = l.length) (h0 : ∀ k, 0 ≤ lf u k ∧ lf u k ≤ 100) :
    Ok (fun k => spec_l14Some.f k g l (i : Int) u) (fun r => r = true ↔ hall (mayN g l) l.length (g.length - i) i (lf u)) := by
  unfold spec_l14Some.f
  refine Ok.bind (weight_ok l.length (by omega)) ?_
  rintro _ rfl
  have hp4 : 2 ^ l.length ≤ 16 := Nat.pow_le_pow_right (n := 2) (by decide) hl
  rw [show (2 : Int) ^ l.length = ((2 ^ l.length : Nat) : Int) by simp]
  obtain ⟨P, hP⟩ : ∃ P, 2 ^ l.length = P := ⟨_, rfl⟩
  rw [hP] at hp4
  rw [hP]
  refine Ok.range (fun (_ : Unit) n k => spec_l14Some.l0 k g l (i : Int) u (P : Int) n) P (fun n _ => ∀ q, q < n → nd (mayN g l) l.length q.testBit (g.length - i) i ≤ rm (lf u) q.testBit l.length) _ ?_ ?_ () (fun q hq => absurd hq (by omega))
  · intro n _ hn hinv ih
    have ewn : wrap64 ((n : Int) + 1) = (n : Int) + 1 := wrap_id (by omega) (by omega)
    refine Ok.step (fun k => by simp only [spec_l14Some.l0]; rfl) (Ok.pos (by omega) ?_)
    refine Ok.range (fun (s : Int) c k => spec_l14Some.l1 k g l (i : Int) u (P : Int) (n : Int) s 0 c) l.length (fun c s => s = rm (lf u) n.testBit c) _ ?_ ?_ 0 (rm_zero _ _).symm
    · rintro c _ hc rfl ihc
      have ewc : wrap64 ((c : Int) + 1) = (c : Int) + 1 := wrap_id (by omega) (by omega)
      have hr := rm_le (lf u) n.testBit h0 (c + 1)
      refine Ok.step (fun k => by simp only [spec_l14Some.l1]; rfl) (Ok.pos (by omega) (Ok.bind (has_ok n (by omega) c (by omega)) ?_))
      rintro _ rfl
      refine Ok.ite (fun h => Ok.pos (by omega) (Ok.pos (by omega) ?_)) (fun h => ?_)
      · rw [rm_succ, if_pos h] at hr
        rw [show rd u (c : Int) = lf u c from rfl, ewc, wrap_id (by omega) (by omega)]
        exact ihc _ (by rw [rm_succ, if_pos h])
      · rw [ewc]
        exact ihc _ (by rw [rm_succ, if_neg h, Int.add_zero])
    · rintro _ rfl
      refine Ok.step (fun k => by simp only [spec_l14Some.l1]; rfl) (Ok.neg (by omega) ?_)
      obtain ⟨N, hN⟩ : ∃ N, nd (mayN g l) l.length n.testBit (g.length - i) i = N := ⟨_, rfl⟩
      -- the guests from i on
      have guests : ∀ d j : Nat, j + d = g.length → i ≤ j → ∀ s : Int, s + nd (mayN g l) l.length n.testBit d j = N → 0 ≤ s → s ≤ j → Ok (fun k => spec_l14Some.l2 k g l (i : Int) u (P : Int) (n : Int) (rm (lf u) n.testBit l.length) s (j : Int)) (fun r => r = true ↔ hall (mayN g l) l.length (g.length - i) i (lf u)) := by
        intro d
        induction d with
        | zero =>
          intro j hj hij s hs hs0 hs1
          rw [nd_zero, Int.add_zero] at hs
          refine Ok.step (fun k => by simp only [spec_l14Some.l2]; rfl) (Ok.neg (by omega) (Ok.ite (fun h => Ok.ret ?_) (fun h => ?_)))
          · refine ⟨fun h' => (by cases h'), fun h' => ?_⟩
            have := (hall_num _ _ _ _ _).1 h' n (by rw [hP]; exact hn)
            rw [hN] at this
            omega
          · rw [ewn]
            refine ih () fun q hq => ?_
            rcases Nat.lt_succ_iff_lt_or_eq.1 hq with h1 | rfl
            · exact hinv q h1
            · rw [hN]; omega
        | succ d ihd =>
          intro j hj hij s hs hs0 hs1
          refine Ok.step (fun k => by simp only [spec_l14Some.l2]; rfl) (Ok.pos (by omega) ?_)
          refine Ok.range (fun (b : Bool) c k => spec_l14Some.l3 k g l (i : Int) u (P : Int) (n : Int) (rm (lf u) n.testBit l.length) s (j : Int) b c) l.length (fun c b => b = inside (mayN g l) n.testBit j c) _ ?_ ?_ true (inside_zero _ _ _).symm
          · rintro c _ hc rfl ihc
            refine Ok.step (fun k => by simp only [spec_l14Some.l3]; rfl) (Ok.pos (by omega) ?_)
            rw [wrap_id (n := (c : Int) + 1) (by omega) (by omega)]
            refine Ok.ite (fun h => Ok.bind (has_ok n (by omega) c (by omega)) ?_) (fun h => ihc _ ?_)
            · rintro _ rfl
              refine Ok.ite (fun h1 => ihc _ ?_) (fun h1 => Ok.pos (by omega) (Ok.pos (by omega) (Ok.pos (by omega) ?_)))
              · rw [inside_succ, h, h1]; rfl
              · simp only [gAt_rd, cAt_rd]
                refine Ok.bind (l14May_ok _ _ _ _ _ _) ?_
                rintro _ rfl
                refine ihc _ ?_
                rw [inside_succ, h, Bool.eq_false_iff.2 h1]
                rfl
            · rw [inside_succ, Bool.eq_false_iff.2 h]; rfl
          · rintro _ rfl
            refine Ok.step (fun k => by simp only [spec_l14Some.l3]; rfl) (Ok.neg (by omega) ?_)
            rw [wrap_id (n := (j : Int) + 1) (by omega) (by omega), wrap_id (n := s + 1) (by omega) (by omega)]
            have e1 : ((j : Int) + 1) = ((j + 1 : Nat) : Int) := by omega
            rw [e1]
            refine Ok.ite (fun h => ihd (j + 1) (by omega) (by omega) _ ?_ (by omega) (by omega)) (fun h => ihd (j + 1) (by omega) (by omega) _ ?_ hs0 (by omega))
            · rw [← hs]
              rw [nd_succ, if_pos h]
              omega
            · rw [← hs]
              rw [nd_succ, if_neg h]
              omega
      exact guests (g.length - i) i (by omega) (Nat.le_refl _) 0 (by rw [hN]; omega) (by omega) (by omega)
  · intro _ hinv
    refine Ok.step (fun k => by simp only [spec_l14Some.l0]; rfl) (Ok.neg (by omega) (Ok.ret ?_))
    exact ⟨fun _ => (hall_num _ _ _ _ _).2 fun q hq => hinv q (by rw [hP] at hq; exact hq), fun _ => rfl⟩
end Go.Proofs.Ytehenjjaekkcfaa.Pure
/- The first plan that fits, in the program and in the reference. Conditions: at most 2,000,000 guests and choices. -/
namespace Go.Proofs.Ytehenjjaekkcfaa.Pure
open Go.RowKit Go.Proofs.YtehenjjaekkcfaaW.PrintWords Go.Proofs.YtehenjjaekkcfaaW.PrintLast Go.Proofs.Ytehenjjaekkcfaa.Q HallX
set_option linter.unusedVariables false
set_option linter.unusedSimpArgs false
def toI (t : List Nat) : List Int := t.map Int.ofNat
def outOf (pre : List Int) : Option (List Nat) → List Int × Bool
  | some t => (pre ++ toI t, true)
  | none => ([], false)
theorem clone_eq {u : List Int} (h : u.length ≤ 2000000) : slices_Clone_int_int.f u = some u := by
  unfold slices_Clone_int_int.f
  exact if_pos (by omega)
theorem put_eq (u : List Int) (c : Nat) (h : 0 < lf u c ∧ lf u c ≤ 100) : u.set (c : Int).toNat (wrap64 (rd u (c : Int) - 1)) = u.set c (u.getD c 0 - 1) := by
  have e : rd u (c : Int) = u.getD c 0 := rfl
  have e' : lf u c = u.getD c 0 := rfl
  rw [e, wrap_id (by omega) (by omega), Int.toNat_natCast]
theorem lf_put {u : List Int} {c : Nat} (hc : c < u.length) (h0 : ∀ k, 0 ≤ lf u k ∧ lf u k ≤ 100) (hp : 0 < lf u c) : ∀ k, 0 ≤ lf (u.set c (u.getD c 0 - 1)) k ∧ lf (u.set c (u.getD c 0 - 1)) k ≤ 100 := by
  intro k
  rw [lf_set u c hc]
  unfold dec
  have := h0 k
  split
  · rename_i h; subst h; omega
  · exact this
theorem firstPlan_ok (g : List Gst) (l : List Chc) (hg : g.length ≤ 2000000) (hl : l.length ≤ 2000000) : ∀ (m : Nat) (p u : List Int), p.length + m = g.length → u.length = l.length → (∀ k, 0 ≤ lf u k ∧ lf u k ≤ 100) →
    Ok (fun k => impl_firstPlan.f k g l p u) (· = outOf p (best (mayN g l) l.length m p.length (lf u)))
  | 0, p, u, hp, hu, h0 => by
    refine Ok.step (fun k => by simp only [impl_firstPlan.f]; rfl) (Ok.pos (by omega) (Ok.ret ?_))
    simp [best, outOf, toI]
  | m + 1, p, u, hp, hu, h0 => by
    refine Ok.step (fun k => by simp only [impl_firstPlan.f]; rfl) (Ok.neg (by omega) ?_)
    refine Ok.range (fun (_ : Unit) c k => impl_firstPlan.l0 k g l p u (p.length : Int) l (l.length : Int) c) l.length (fun c _ => ∀ j, j < c → cand (mayN g l) p.length (lf u) (fun k => best (mayN g l) l.length m (p.length + 1) (dec (lf u) k)) j = none) _ ?_ ?_ () (fun j hj => absurd hj (by omega))
    · intro c _ hc hinv ih
      have next : cand (mayN g l) p.length (lf u) (fun k => best (mayN g l) l.length m (p.length + 1) (dec (lf u) k)) c = none → Ok (fun k => impl_firstPlan.l0 k g l p u (p.length : Int) l (l.length : Int) ((c : Int) + 1)) (· = outOf p (best (mayN g l) l.length (m + 1) p.length (lf u))) := fun h => ih () fun j hj => by
        rcases Nat.lt_succ_iff_lt_or_eq.1 hj with h1 | rfl
        · exact hinv j h1
        · exact h
      have hb := h0 c
      refine Ok.step (fun k => by simp only [impl_firstPlan.l0]; rfl) (Ok.pos (by omega) (Ok.pos (by omega) (Ok.pos (by omega) (Ok.pos (by omega) (Ok.ite (fun h => ?_) (fun h => Ok.pos (by omega) (Ok.pos (by omega) ?_)))))))
      · refine Ok.step (fun k => by simp only [impl_firstPlan.j1]; rfl) (Ok.pos (show true = true from rfl) ?_)
        rw [wrap_id (n := (c : Int) + 1) (by omega) (by omega)]
        refine next ?_
        unfold cand
        rw [if_neg]
        rintro ⟨_, h2⟩
        have : lf u c = rd u (c : Int) := rfl
        omega
      · have hpos : 0 < lf u c := by
          have : lf u c = rd u (c : Int) := rfl
          omega
        simp only [may_eq, Option.bind_some, gAt_rd, cAt_rd]
        refine Ok.step (fun k => by simp only [impl_firstPlan.j1]; rfl) (Ok.ite (fun hm => ?_) (fun hm => ?_))
        · rw [wrap_id (n := (c : Int) + 1) (by omega) (by omega)]
          refine next ?_
          unfold cand
          rw [if_neg]
          rintro ⟨h2, _⟩
          have h3 : mayB (gAt g p.length).f0 (gAt g p.length).f1 (gAt g p.length).f2 (cAt l c).f0 (cAt l c).f1 = true := h2
          rw [h3] at hm
          cases hm
        · have hm' : mayN g l p.length c = true := by
            show mayB (gAt g p.length).f0 (gAt g p.length).f1 (gAt g p.length).f2 (cAt l c).f0 (cAt l c).f1 = true
            simpa using hm
          rw [clone_eq (u := u) (by omega), clone_eq (u := p) (by omega)]
          refine Ok.val (Ok.pos (by omega) (Ok.pos (by omega) (Ok.val (Ok.pos (by omega) ?_))))
          rw [put_eq u c ⟨hpos, hb.2⟩]
          refine Ok.bind (firstPlan_ok g l hg hl m (p ++ [(c : Int)]) (u.set c (u.getD c 0 - 1)) (by simp; omega) (by simpa using hu) (lf_put (by omega) h0 hpos)) ?_
          rintro _ rfl
          have el : (p ++ [(c : Int)]).length = p.length + 1 := by simp
          rw [el, lf_set u c (by omega)]
          have ec : cand (mayN g l) p.length (lf u) (fun k => best (mayN g l) l.length m (p.length + 1) (dec (lf u) k)) c = best (mayN g l) l.length m (p.length + 1) (dec (lf u) c) := by
            unfold cand
            rw [if_pos ⟨hm', hpos⟩]
          cases hb' : best (mayN g l) l.length m (p.length + 1) (dec (lf u) c) with
          | some t =>
            refine Ok.pos (show (outOf (p ++ [(c : Int)]) (some t)).2 = true from rfl) (Ok.ret ?_)
            have := pick_hit (ec.trans hb') hinv l.length hc
            rw [best, this]
            simp [outOf, toI]
          | none =>
            refine Ok.neg (show ¬ (outOf (p ++ [(c : Int)]) none).2 = true from fun h => (by cases h)) ?_
            rw [wrap_id (n := (c : Int) + 1) (by omega) (by omega)]
            exact next (ec.trans hb')
    · intro _ hinv
      refine Ok.step (fun k => by simp only [impl_firstPlan.l0]; rfl) (Ok.neg (by omega) (Ok.ret ?_))
      rw [best, pick_none l.length hinv]
      rfl
def rooms (l : List Chc) : List Int := l.map (·.f2)
def planOf (g : List Gst) (l : List Chc) : Option (List Nat) := best (mayN g l) l.length g.length 0 (lf (rooms l))
def Room (g : List Gst) (l : List Chc) (r : List Int × Bool) : Prop := (GV g ∧ CV l → r = outOf [] (planOf g l)) ∧ (¬ (GV g ∧ CV l) → r = ([], false))
theorem Room.eq {g : List Gst} {l : List Chc} {a b : List Int × Bool} (h : Room g l a) (k : Room g l b) : a = b := by
  by_cases v : GV g ∧ CV l
  · rw [h.1 v, k.1 v]
  · rw [h.2 v, k.2 v]
theorem Room.len {g : List Gst} {l : List Chc} {a : List Int × Bool} (h : Room g l a) : a.1.length ≤ g.length := by
  by_cases v : GV g ∧ CV l
  · rw [h.1 v]
    cases hp : planOf g l with
    | none => simp [outOf]
    | some t =>
      have := plan_len _ _ _ _ _ _ (best_plan _ _ _ _ _ _ hp)
      simp [outOf, toI, this]
  · rw [h.2 v]; simp
theorem rooms_len (l : List Chc) : (rooms l).length = l.length := by simp [rooms]
theorem rooms_at {l : List Chc} (h : CV l) (k : Nat) : 0 ≤ lf (rooms l) k ∧ lf (rooms l) k ≤ 100 := by
  unfold lf
  by_cases hk : k < l.length
  · have := (cB_iff _).1 (h.2 k hk)
    have e : (rooms l).getD k 0 = (cAt l k).f2 := by
      unfold rooms cAt
      rw [getD_at _ _ _ (by simpa using hk), getD_at _ _ _ hk, List.getElem_map]
    rw [e]; omega
  · rw [List.getD_eq_getElem?_getD, List.getElem?_eq_none (by rw [rooms_len]; omega)]
    simp
theorem iRoom_ok (g : List Gst) (l : List Chc) (hg : g.length ≤ 2000000) (hl : l.length ≤ 2000000) : Ok (fun k => impl_ServeRoom.f k g l) (Room g l) := by
  unfold impl_ServeRoom.f
  obtain ⟨b, e, hb⟩ := iChoices_eq l
  rw [e]
  have no : ¬ (GV g ∧ CV l) → Ok (fun k => impl_ServeRoom.j0 k g l true) (Room g l) := fun v => Ok.step (fun k => by simp only [impl_ServeRoom.j0]; rfl) (Ok.pos (show true = true from rfl) (Ok.ret ⟨fun h => absurd h v, fun _ => rfl⟩))
  refine Ok.bind (iGuests_ok g hg) fun a ha => Ok.ite (fun h => Ok.val ?_) (fun h => no fun h' => h (ha.2 h'.1))
  cases b with
  | false => exact no fun h' => by have := hb.2 h'.2; cases this
  | true =>
    have v : GV g ∧ CV l := ⟨ha.1 h, hb.1 rfl⟩
    refine Ok.step (fun k => by simp only [impl_ServeRoom.j0]; rfl) (Ok.neg (by simp) ?_)
    refine Ok.range (fun (a : List Int) i k => impl_ServeRoom.l0 k g l a l (l.length : Int) i) l.length (fun i a => a = (l.take i).map (·.f2)) _ ?_ ?_ [] rfl
    · rintro i _ hi rfl ih
      have ew : wrap64 ((i : Int) + 1) = (i : Int) + 1 := wrap_id (by omega) (by omega)
      have hlen : ((l.take i).map (·.f2)).length ≤ l.length := by rw [List.length_map, List.length_take]; omega
      refine Ok.step (fun k => by simp only [impl_ServeRoom.l0]; rfl) (Ok.pos (by omega) (Ok.pos (by omega) (Ok.pos (by omega) (Ok.pos (by omega) ?_))))
      rw [ew, cAt_rd]
      exact ih _ (by rw [take_next z32 hi, List.map_append]; rfl)
    · rintro _ rfl
      rw [List.take_length]
      refine Ok.step (fun k => by simp only [impl_ServeRoom.l0]; rfl) (Ok.neg (by omega) (Ok.bind (firstPlan_ok g l hg hl g.length [] (rooms l) (by simp) (rooms_len l) (rooms_at v.2)) ?_))
      rintro _ rfl
      exact Ok.ret ⟨fun _ => rfl, fun h => absurd v h⟩
theorem sRoom_ok (g : List Gst) (l : List Chc) (hg : g.length ≤ 2000000) (hl : l.length ≤ 2000000) : Ok (fun k => spec_ServeRoom.f k g l) (Room g l) := by
  unfold spec_ServeRoom.f
  refine Ok.val (Ok.bind (l14Ok_ok g l hg hl) fun b hb => Ok.ite (fun h => ?_) (fun h => Ok.ret ⟨fun h' => absurd (hb.2 h') h, fun _ => rfl⟩))
  have v := hb.1 h
  have hl4 : l.length ≤ 4 := v.2.1.2
  refine Ok.range (fun (a : List Int) i k => spec_ServeRoom.l0 k g l [] a i) l.length (fun i a => a = (l.take i).map (·.f2)) _ ?_ ?_ [] rfl
  · rintro i _ hi rfl ih
    have ew : wrap64 ((i : Int) + 1) = (i : Int) + 1 := wrap_id (by omega) (by omega)
    have hlen : ((l.take i).map (·.f2)).length ≤ l.length := by rw [List.length_map, List.length_take]; omega
    refine Ok.step (fun k => by simp only [spec_ServeRoom.l0]; rfl) (Ok.pos (by omega) (Ok.pos (by omega) (Ok.pos (by omega) ?_)))
    rw [ew, cAt_rd]
    exact ih _ (by rw [take_next z32 hi, List.map_append]; rfl)
  · rintro _ rfl
    rw [List.take_length]
    refine Ok.step (fun k => by simp only [spec_ServeRoom.l0]; rfl) (Ok.neg (by omega) ?_)
    have fin : ∀ r, r = outOf [] (planOf g l) → Room g l r := fun r e => ⟨fun _ => e, fun h => absurd v h⟩
    refine Ok.range (fun (s : List Int × List Int) i k => spec_ServeRoom.l1 k g l s.1 s.2 i) g.length (fun i s => s.1.length = i ∧ s.2.length = l.length ∧ (∀ k, 0 ≤ lf s.2 k ∧ lf s.2 k ≤ 100) ∧ outOf [] (planOf g l) = outOf s.1 (best (mayN g l) l.length (g.length - i) i (lf s.2))) _ ?_ ?_ ([], rooms l) ⟨rfl, rooms_len l, rooms_at v.2, rfl⟩
    · rintro i ⟨acc, u⟩ hi ⟨ha, hu, h0, hR⟩ ih
      simp only at ha hu h0 hR ⊢
      refine Ok.step (fun k => by simp only [spec_ServeRoom.l1]; rfl) (Ok.pos (by omega) ?_)
      obtain ⟨m, hm⟩ : ∃ m, g.length - i = m + 1 := ⟨g.length - i - 1, by omega⟩
      have hm' : g.length - (i + 1) = m := by omega
      rw [hm] at hR
      have scan : ∀ d c : Nat, c + d = l.length → (∀ j, j < c → cand (mayN g l) i (lf u) (fun k => best (mayN g l) l.length m (i + 1) (dec (lf u) k)) j = none) → Ok (fun k => spec_ServeRoom.l2 k g l acc u (i : Int) false (c : Int)) (Room g l) := by
        intro d
        induction d with
        | zero =>
          intro c hc hinv
          refine Ok.step (fun k => by simp only [spec_ServeRoom.l2]; rfl) (Ok.neg (by omega) ?_)
          refine Ok.step (fun k => by simp only [spec_ServeRoom.j3]; rfl) (Ok.neg (by simp) (Ok.neg (by simp) (Ok.ret (fin _ ?_))))
          obtain rfl : c = l.length := by omega
          rw [hR, best, pick_none l.length hinv]
          rfl
        | succ d ihd =>
          intro c hc hinv
          have e1 : ((c : Int) + 1) = ((c + 1 : Nat) : Int) := by omega
          have hbc := h0 c
          have elf : lf u c = rd u (c : Int) := rfl
          have next : cand (mayN g l) i (lf u) (fun k => best (mayN g l) l.length m (i + 1) (dec (lf u) k)) c = none → Ok (fun k => spec_ServeRoom.l2 k g l acc u (i : Int) false ((c : Int) + 1)) (Room g l) := fun h => by
            rw [e1]
            refine ihd (c + 1) (by omega) fun j hj => ?_
            rcases Nat.lt_succ_iff_lt_or_eq.1 hj with h1 | rfl
            · exact hinv j h1
            · exact h
          refine Ok.step (fun k => by simp only [spec_ServeRoom.l2]; rfl) (Ok.pos (by omega) ?_)
          refine Ok.step (fun k => by simp only [spec_ServeRoom.j3]; rfl) (Ok.pos (by simp) (Ok.pos (by omega) (Ok.pos (by omega) (Ok.ite (fun h1 => Ok.pos (by omega) (Ok.pos (by omega) (Ok.pos (by omega) ?_))) (fun h1 => ?_)))))
          · simp only [gAt_rd, cAt_rd]
            refine Ok.bind (l14May_ok _ _ _ _ _ _) ?_
            rintro _ rfl
            refine Ok.step (fun k => by simp only [spec_ServeRoom.j4]; rfl) (Ok.ite (fun h2 => Ok.pos (by omega) (Ok.pos (by omega) ?_)) (fun h2 => ?_))
            · have hmay : mayN g l i c = true := h2
              have hpos : 0 < lf u c := by omega
              rw [put_eq u c ⟨hpos, hbc.2⟩, wrap_id (n := (i : Int) + 1) (by omega) (by omega)]
              have ei : ((i : Int) + 1) = ((i + 1 : Nat) : Int) := by omega
              rw [ei]
              refine Ok.val (Ok.bind (l14Some_ok g l (i + 1) (u.set c (u.getD c 0 - 1)) (by omega) hg hl4 (by simpa using hu) (lf_put (by omega) h0 hpos)) fun f hf => ?_)
              rw [lf_set u c (by omega), hm', ← feas_iff _ _ _ _ _ (fun k _ => by
                have := lf_put (by omega : c < u.length) h0 hpos k
                rw [lf_set u c (by omega)] at this
                exact this.1), ← best_feas] at hf
              have ec : cand (mayN g l) i (lf u) (fun k => best (mayN g l) l.length m (i + 1) (dec (lf u) k)) c = best (mayN g l) l.length m (i + 1) (dec (lf u) c) := by
                unfold cand
                rw [if_pos ⟨hmay, hpos⟩]
              cases f with
              | true =>
                obtain ⟨t, ht⟩ := Option.isSome_iff_exists.1 (hf.1 rfl)
                refine Ok.pos (show true = true from rfl) (Ok.pos (by omega) ?_)
                have go : Ok (fun k => spec_ServeRoom.j3 k g l (acc ++ [(c : Int)]) (u.set c (u.getD c 0 - 1)) (i : Int) true ((c : Int) + 1) false) (Room g l) := by
                  refine Ok.step (fun k => by simp only [spec_ServeRoom.j3]; rfl) (Ok.neg (by simp) (Ok.pos (show true = true from rfl) ?_))
                  rw [wrap_id (n := (i : Int) + 1) (by omega) (by omega)]
                  refine ih (acc ++ [(c : Int)], u.set c (u.getD c 0 - 1)) ⟨by simp [ha], by simpa using hu, lf_put (by omega) h0 hpos, ?_⟩
                  have := pick_hit (ec.trans ht) hinv l.length (by omega)
                  simp only
                  rw [hR, best, this, hm', lf_set u c (by omega), ht]
                  simp [outOf, toI]
                rw [wrap_id (n := (c : Int) + 1) (by omega) (by omega)]
                exact Ok.step (fun k => by simp only [spec_ServeRoom.l2]; rfl) (Ok.ite (fun _ => go) (fun _ => go))
              | false =>
                refine Ok.neg (by simp) ?_
                have hn : best (mayN g l) l.length m (i + 1) (dec (lf u) c) = none := by
                  cases hb' : best (mayN g l) l.length m (i + 1) (dec (lf u) c) with
                  | none => rfl
                  | some t => have := hf.2 (by rw [hb']; rfl); cases this
                have back : (u.set c (u.getD c 0 - 1)).set (c : Int).toNat (wrap64 (rd (u.set c (u.getD c 0 - 1)) (c : Int) + 1)) = u := by
                  have hcu : c < u.length := by omega
                  have e2 : rd (u.set c (u.getD c 0 - 1)) (c : Int) = u.getD c 0 - 1 := by
                    rw [rd_nat, getD_set _ _ _ _ _ hcu, if_pos rfl]
                  have e3 : lf u c = u.getD c 0 := rfl
                  rw [e2, wrap_id (by omega) (by omega), Int.toNat_natCast, List.set_set, show u.getD c 0 - 1 + 1 = u[c] by rw [getD_at u 0 c hcu]; omega, List.set_getElem_self]
                rw [back, wrap_id (n := (c : Int) + 1) (by omega) (by omega)]
                exact next (ec.trans hn)
            · rw [wrap_id (n := (c : Int) + 1) (by omega) (by omega)]
              refine next ?_
              unfold cand
              rw [if_neg]
              rintro ⟨h3, _⟩
              exact h2 h3
          · refine Ok.step (fun k => by simp only [spec_ServeRoom.j4]; rfl) (Ok.neg (by simp) ?_)
            rw [wrap_id (n := (c : Int) + 1) (by omega) (by omega)]
            refine next ?_
            unfold cand
            rw [if_neg]
            rintro ⟨_, h3⟩
            omega
      exact scan l.length 0 (by omega) (fun j hj => absurd hj (by omega))
    · rintro ⟨acc, u⟩ ⟨ha, hu, h0, hR⟩
      simp only at ha hu h0 hR ⊢
      refine Ok.step (fun k => by simp only [spec_ServeRoom.l1]; rfl) (Ok.neg (by omega) (Ok.ret (fin _ ?_)))
      rw [hR, Nat.sub_self]
      simp [best, outOf, toI]
end Go.Proofs.Ytehenjjaekkcfaa.Pure
/- The guests without a choice, in the program and in the reference. Conditions: at most 2,000,000 guests and choices. -/
namespace Go.Proofs.Ytehenjjaekkcfaa.Pure
open Go.RowKit Go.Proofs.YtehenjjaekkcfaaW.PrintWords Go.Proofs.YtehenjjaekkcfaaW.PrintLast Go.Proofs.Ytehenjjaekkcfaa.Q
set_option linter.unusedVariables false
set_option linter.unusedSimpArgs false
def gapsN (g : List Gst) (f : List Int) : Nat → List Int
  | 0 => []
  | n + 1 => gapsN g f n ++ (if f.getD n 0 < 0 then [(gAt g n).f0] else [])
theorem gapsN_len (g : List Gst) (f : List Int) : ∀ n, (gapsN g f n).length ≤ n
  | 0 => Nat.le_refl _
  | n + 1 => by
    have := gapsN_len g f n
    unfold gapsN
    rw [List.length_append]
    split <;> simp <;> omega
theorem gapsN_pre (g : List Gst) (f : List Int) (n : Nat) : ∀ d, ∃ t, gapsN g f (n + d) = gapsN g f n ++ t
  | 0 => ⟨[], by simp⟩
  | d + 1 => by
    obtain ⟨t, e⟩ := gapsN_pre g f n d
    exact ⟨t ++ (if f.getD (n + d) 0 < 0 then [(gAt g (n + d)).f0] else []), by rw [show n + (d + 1) = (n + d) + 1 from rfl, gapsN, e, List.append_assoc]⟩
def Gaps (g : List Gst) (l : List Chc) (r : List Int) : Prop := ∃ f, First g l f ∧ r = gapsN g f f.length
theorem Gaps.eq {g : List Gst} {l : List Chc} {a b : List Int} (h : Gaps g l a) (k : Gaps g l b) : a = b := by
  obtain ⟨f, h1, rfl⟩ := h
  obtain ⟨f', h2, rfl⟩ := k
  rw [h1.eq h2]
theorem Gaps.len {g : List Gst} {l : List Chc} {a : List Int} (h : Gaps g l a) : a.length ≤ g.length := by
  obtain ⟨f, h1, rfl⟩ := h
  exact Nat.le_trans (gapsN_len g f _) h1.len
theorem iGaps_ok (g : List Gst) (l : List Chc) (hg : g.length ≤ 2000000) : Ok (fun k => impl_ServeGaps.f k g l) (Gaps g l) := by
  unfold impl_ServeGaps.f
  refine Ok.bind (iFirst_ok g l hg) fun f hf => ?_
  have hlen := hf.len
  refine Ok.range (fun (a : List Int) i k => impl_ServeGaps.l0 k g a f (f.length : Int) i) f.length (fun i a => a = gapsN g f i) _ ?_ ?_ [] rfl
  · rintro i _ hi rfl ih
    have ew : wrap64 ((i : Int) + 1) = (i : Int) + 1 := wrap_id (by omega) (by omega)
    have hl := gapsN_len g f i
    refine Ok.step (fun k => by simp only [impl_ServeGaps.l0]; rfl) (Ok.pos (by omega) (Ok.pos (by omega) (Ok.pos (by omega) ?_)))
    rw [rd_nat, gAt_rd, ew]
    refine Ok.ite (fun h => Ok.pos (by omega) (Ok.pos (by omega) (ih _ ?_))) (fun h => ih _ ?_)
    · rw [gapsN, if_pos h]
    · rw [gapsN, if_neg h, List.append_nil]
  · rintro _ rfl
    exact Ok.step (fun k => by simp only [impl_ServeGaps.l0]; rfl) (Ok.neg (by omega) (Ok.ret ⟨f, hf, rfl⟩))
theorem sGaps_ok (g : List Gst) (l : List Chc) (hg : g.length ≤ 2000000) (hl : l.length ≤ 2000000) : Ok (fun k => spec_ServeGaps.f k g l) (Gaps g l) := by
  unfold spec_ServeGaps.f
  refine Ok.bind (sFirst_ok g l hg hl) fun f hf => ?_
  have hlen := hf.len
  refine Ok.range (fun (a : List Int) i k => spec_ServeGaps.l0 k g a f i) f.length (fun i a => a = gapsN g f i) _ ?_ ?_ [] rfl
  · rintro i _ hi rfl ih
    have ew : wrap64 ((i : Int) + 1) = (i : Int) + 1 := wrap_id (by omega) (by omega)
    have hl := gapsN_len g f i
    refine Ok.step (fun k => by simp only [spec_ServeGaps.l0]; rfl) (Ok.pos (by omega) (Ok.pos (by omega) ?_))
    rw [rd_nat, gAt_rd, ew]
    refine Ok.ite (fun h => Ok.pos (by omega) (Ok.pos (by omega) (ih _ ?_))) (fun h => ih _ ?_)
    · rw [gapsN, if_pos h]
    · rw [gapsN, if_neg h, List.append_nil]
  · rintro _ rfl
    exact Ok.step (fun k => by simp only [spec_ServeGaps.l0]; rfl) (Ok.neg (by omega) (Ok.ret ⟨f, hf, rfl⟩))
end Go.Proofs.Ytehenjjaekkcfaa.Pure
/- The reader of draws: each pick answers a number in its range and goes one place on. Condition: the bytes are bytes. -/
namespace Go.Proofs.Ytehenjjaekkcfaa.Pure
open Go.RowKit Go.Proofs.YtehenjjaekkcfaaW.PrintWords Go.Proofs.YtehenjjaekkcfaaW.PrintLast Go.Proofs.Ytehenjjaekkcfaa.Q
set_option linter.unusedVariables false
set_option linter.unusedSimpArgs false

def Bytes (b : List Int) : Prop := ∀ x ∈ b, 0 ≤ x ∧ x ≤ 255
theorem rd_byte {b : List Int} (h : Bytes b) (i : Int) : 0 ≤ rd b i ∧ rd b i ≤ 255 := by
  unfold rd
  rw [List.getD_eq_getElem?_getD]
  by_cases hi : i.toNat < b.length
  · rw [List.getElem?_eq_getElem hi]
    exact h _ (List.getElem_mem hi)
  · rw [List.getElem?_eq_none (by omega)]
    simp
theorem xor_nonneg (x y : Int) (hx : 0 ≤ x) (hx' : x < 4611686018427387904) (hy : 0 ≤ y) (hy' : y < 4611686018427387904) : 0 ≤ Go.bits .xor .i64 x y := by
  obtain ⟨a, rfl⟩ := Int.eq_ofNat_of_zero_le hx
  obtain ⟨b, rfl⟩ := Int.eq_ofNat_of_zero_le hy
  have ha : a < 2 ^ 62 := by omega
  have hb : b < 2 ^ 62 := by omega
  have hx := Nat.xor_lt_two_pow ha hb
  have ha' : a % 2 ^ 64 = a := Nat.mod_eq_of_lt (by omega)
  have hb' : b % 2 ^ 64 = b := Nat.mod_eq_of_lt (by omega)
  show 0 ≤ IntKind.i64.wrap ((BitVec.ofInt 64 (a : Int) ^^^ BitVec.ofInt 64 (b : Int)).toNat : Int)
  rw [IntKind.wrap_i64]
  simp only [BitVec.ofInt_natCast, BitVec.toNat_xor, BitVec.toNat_ofNat, ha', hb']
  omega
theorem mix_range (r1 r2 p t : Int) (h1 : 0 ≤ r1 ∧ r1 ≤ 255) (h2 : 0 ≤ r2 ∧ r2 ≤ 255) (hp : 0 ≤ p ∧ p ≤ 1099511627776) (ht : 0 ≤ t ∧ t ≤ 1099511627776) :
    wrap64 ((wrap64 ((wrap64 ((wrap64 ((wrap64 r1) * 131)) + (wrap64 ((wrap64 r2) * 1117)))) + (wrap64 (p * 29)))) + (wrap64 ((wrap64 t) * 53))) = r1 * 131 + r2 * 1117 + p * 29 + t * 53 := by
  rw [wrap_id (n := r1) (by omega) (by omega), wrap_id (n := r2) (by omega) (by omega), wrap_id (n := t) (by omega) (by omega)]
  rw [wrap_id (n := r1 * 131) (by omega) (by omega), wrap_id (n := r2 * 1117) (by omega) (by omega), wrap_id (n := p * 29) (by omega) (by omega), wrap_id (n := t * 53) (by omega) (by omega)]
  rw [wrap_id (n := r1 * 131 + r2 * 1117) (by omega) (by omega), wrap_id (n := r1 * 131 + r2 * 1117 + p * 29) (by omega) (by omega), wrap_id (by omega) (by omega)]
theorem tmod_range (x n : Int) (hx : 0 ≤ x) (hn : 1 ≤ n) : 0 ≤ Int.tmod x n ∧ Int.tmod x n < n :=
  ⟨Int.tmod_nonneg _ hx, Int.tmod_lt_of_pos _ (by omega)⟩
theorem tdiv_range (x n : Int) (hx : 0 ≤ x) (hn : 1 ≤ n) : 0 ≤ Int.tdiv x n ∧ Int.tdiv x n ≤ x := by
  refine ⟨Int.tdiv_nonneg hx (by omega), ?_⟩
  rw [Int.tdiv_eq_ediv_of_nonneg hx]
  exact Int.ediv_le_self _ hx

/-- What a pick says. -/
def Picked (p n : Int) (r : Int × Int) : Prop := r.2 = p + 1 ∧ 0 ≤ r.1 ∧ (1 ≤ n → r.1 < n) ∧ (n < 1 → r.1 = 0)
theorem pick_ok (b : List Int) (p n : Int) (hb : Bytes b) (hp : 0 ≤ p) (hp' : p ≤ 1099511627776) (hn : n ≤ 1000000000) : Ok (fun k => spec_l6Rd_pick.f k b p n) (Picked p n) := by
  unfold spec_l6Rd_pick.f
  rw [wrap_id (n := p + 1) (by omega) (by omega)]
  by_cases h1 : n < 1
  · refine Ok.pos h1 (Ok.step (fun k => by simp only [spec_l6Rd_pick.j0, if_true]; rfl) (Ok.ret ⟨rfl, by simp, fun h => absurd h (by omega), fun _ => rfl⟩))
  refine Ok.neg h1 ?_
  by_cases hl : (b.length : Int) = 0
  · rw [show ((b.length : Int) == 0) = true by simpa using hl]
    refine Ok.step (fun k => by simp only [spec_l6Rd_pick.j0, if_true]; rfl) (Ok.ret ⟨rfl, by simp, fun h => by omega, fun _ => rfl⟩)
  rw [show ((b.length : Int) == 0) = false by simpa using hl]
  have hlp : 1 ≤ (b.length : Int) := by omega
  refine Ok.step (f := _) (fun k => by simp only [spec_l6Rd_pick.j0]; rfl) ?_
  refine Ok.neg (by simp) ?_
  rw [show p + 1 - 1 = p by omega, wrap_id (n := p) (by omega) (by omega)]
  by_cases hlt : p < (b.length : Int)
  · refine Ok.pos hlt (Ok.pos hp (Ok.neg (by omega) (Ok.ret ?_)))
    have hr := rd_byte hb p
    rw [wrap_id (n := rd b p) (by omega) (by omega)]
    have := tmod_range (rd b p) n hr.1 (by omega)
    exact ⟨rfl, this.1, fun _ => this.2, fun h => absurd h h1⟩
  · have hm := tmod_range p b.length hp hlp
    have hq : wrap64 ((wrap64 (p * 7)) + 3) = p * 7 + 3 := by
      rw [wrap_id (n := p * 7) (by omega) (by omega), wrap_id (by omega) (by omega)]
    have hm2 := tmod_range (p * 7 + 3) b.length (by omega) hlp
    have ht := tdiv_range p b.length hp hlp
    rw [hq]
    refine Ok.neg hlt (Ok.neg hl (Ok.pos hm.1 (Ok.pos hm.2 (Ok.pos hm2.1 (Ok.pos hm2.2 (Ok.neg (by omega) (Ok.ret ?_)))))))
    rw [mix_range _ _ p _ (rd_byte hb _) (rd_byte hb _) ⟨hp, hp'⟩ ⟨ht.1, by omega⟩]
    have a1 := rd_byte hb (Int.tmod p b.length)
    have a2 := rd_byte hb (Int.tmod (p * 7 + 3) b.length)
    generalize rd b (Int.tmod p b.length) = r1 at *
    generalize rd b (Int.tmod (p * 7 + 3) b.length) = r2 at *
    generalize Int.tdiv p b.length = t at *
    have hx : 0 ≤ r1 * 131 + r2 * 1117 + p * 29 + t * 53 := by omega
    have hx' : r1 * 131 + r2 * 1117 + p * 29 + t * 53 < 4611686018427387904 := by omega
    generalize r1 * 131 + r2 * 1117 + p * 29 + t * 53 = x at *
    have h64 := tdiv_range x 64 hx (by omega)
    rw [wrap_id (n := Int.tdiv x 64) (by omega) (by omega)]
    have := tmod_range (Go.bits .xor .i64 x (Int.tdiv x 64)) n (xor_nonneg _ _ hx hx' h64.1 (by omega)) (by omega)
    exact ⟨rfl, this.1, fun _ => this.2, fun h => absurd h h1⟩
/-- The same, the number of answers at least one. -/
def Pk (p n : Int) (r : Int × Int) : Prop := r.2 = p + 1 ∧ 0 ≤ r.1 ∧ r.1 < n
theorem pick_in (b : List Int) (p n : Int) (hb : Bytes b) (hp : 0 ≤ p) (hp' : p ≤ 1099511627776) (hn : 1 ≤ n) (hn' : n ≤ 1000000000) : Ok (fun k => spec_l6Rd_pick.f k b p n) (Pk p n) :=
  (pick_ok b p n hb hp hp' hn').mono fun _ h => ⟨h.1, h.2.1, h.2.2.1 hn⟩
/-- a place that went on by some, not far -/
def On (p : Int) (m : Int) (q : Int) : Prop := p ≤ q ∧ q ≤ p + m
theorem open_ok (l : List Int) (hl : ∀ x ∈ l, (Lit.int .u8 x).wf = true) : ∃ b, spec_l6Open.f l = some (b, 0) ∧ Bytes b := by
  have hb : Bytes l := fun x hx => wfu8 (hl x hx)
  unfold spec_l6Open.f
  by_cases h : (l.length : Int) > 2000
  · rw [if_pos h, if_pos (by omega)]
    exact ⟨_, rfl, fun x hx => hb x (List.mem_of_mem_take hx)⟩
  · rw [if_neg h]
    exact ⟨_, rfl, hb⟩
end Go.Proofs.Ytehenjjaekkcfaa.Pure
/- A drawn guest. Condition: the bytes are bytes. -/
namespace Go.Proofs.Ytehenjjaekkcfaa.Pure
open Go.RowKit Go.Proofs.YtehenjjaekkcfaaW.PrintWords Go.Proofs.YtehenjjaekkcfaaW.PrintLast Go.Proofs.Ytehenjjaekkcfaa.Q
set_option linter.unusedVariables false
set_option linter.unusedSimpArgs false

theorem l91Guest_ok (b : List Int) (p a : Int) (hB : Bytes b) (hp : 0 ≤ p) (hp' : p ≤ 1000000) (ha : 0 ≤ a ∧ a ≤ 1000) : Ok (fun k => spec_l91Guest.f k b p a) (fun r => On p 12 r.2.2.2) := by
  unfold spec_l91Guest.f
  refine Ok.bind (pick_in b p 4 hB hp (by omega) (by omega) (by omega)) ?_
  rintro ⟨v, p1⟩ ⟨rfl, h0, h1⟩
  simp only at h0 h1 ⊢
  have key := Ok.range (fun (s : Int × Int × Int × Int) i k => spec_l91Guest.l0 k i b s.1 s.2.1 s.2.2.1 s.2.2.2) 8 (fun i s => p + 1 ≤ s.1 ∧ s.1 ≤ p + 1 + i) (fun r => On p 12 r.2.2.2) ?_ ?_ (p + 1, a, wrap64 (1 + v), 0) (by simp)
  · exact key
  · rintro i ⟨q, x, y, z⟩ hi hs ih
    simp only at hs ih ⊢
    have ew : wrap64 ((i : Int) + 1) = (i : Int) + 1 := wrap_id (by omega) (by omega)
    refine Ok.step (fun k => by simp only [spec_l91Guest.l0]; rfl) (Ok.pos (by omega) (Ok.bind (pick_in b q 6 hB (by omega) (by omega) (by omega) (by omega)) ?_))
    rintro ⟨v2, q2⟩ ⟨rfl, h2, h3⟩
    simp only at h2 h3 ⊢
    rw [ew]
    refine Ok.ite (fun _ => Ok.bind (weight_ok i (by omega)) fun w _ => ih (q + 1, x, y, _) (by simp only; omega)) (fun _ => ih (q + 1, x, y, z) (by simp only; omega))
  · rintro ⟨q, x, y, z⟩ hs
    simp only at hs ⊢
    refine Ok.step (fun k => by simp only [spec_l91Guest.l0]; rfl) (Ok.neg (by omega) (Ok.bind (pick_in b q 60 hB (by omega) (by omega) (by omega) (by omega)) ?_))
    rintro ⟨v2, q2⟩ ⟨rfl, h2, h3⟩
    simp only at h2 h3 ⊢
    refine Ok.ite (fun _ => Ok.bind (pick_in b _ 2 hB (by omega) (by omega) (by omega) (by omega)) ?_) (fun _ => Ok.ite (fun _ => ?_) (fun _ => Ok.ret ⟨by simp only; omega, by simp only; omega⟩))
    · rintro ⟨v3, q3⟩ ⟨rfl, h4, h5⟩
      exact Ok.ret ⟨by simp only; omega, by simp only; omega⟩
    · simp only [Option.bind_some]
      refine Ok.bind (pick_in b _ 3 hB (by omega) (by omega) (by omega) (by omega)) ?_
      rintro ⟨v3, q3⟩ ⟨rfl, h4, h5⟩
      simp only at h4 h5 ⊢
      exact Ok.pos h4 (Ok.pos (by simpa using h5) (Ok.ret ⟨by simp only; omega, by simp only; omega⟩))
end Go.Proofs.Ytehenjjaekkcfaa.Pure
/- Drawn guests: at most 11. Condition: the bytes are bytes. -/
namespace Go.Proofs.Ytehenjjaekkcfaa.Pure
open Go.RowKit Go.Proofs.YtehenjjaekkcfaaW.PrintWords Go.Proofs.YtehenjjaekkcfaaW.PrintLast Go.Proofs.Ytehenjjaekkcfaa.Q
set_option linter.unusedVariables false
set_option linter.unusedSimpArgs false

theorem l91Guests_ok (b : List Int) (p : Int) (hB : Bytes b) (hp : 0 ≤ p) (hp' : p ≤ 100000) : Ok (fun k => spec_l91Guests.f k b p) (fun r => r.1.length ≤ 11 ∧ On p 400 r.2) := by
  unfold spec_l91Guests.f
  simp only [Option.bind_some]
  have loop : ∀ (n : Nat) (q : Int), n ≤ 11 → p ≤ q → q ≤ p + 3 → Ok (fun k => spec_l91Guests.j0 k [] (n : Int) b q) (fun r => r.1.length ≤ 11 ∧ On p 400 r.2) := by
    intro n q hn hq hq'
    refine Ok.step (fun k => by simp only [spec_l91Guests.j0]; rfl) ?_
    refine Ok.range (fun (s : List S43 × Int) i k => spec_l91Guests.l0 k s.1 (n : Int) i b s.2) n (fun i s => s.1.length = i ∧ q ≤ s.2 ∧ s.2 ≤ q + 13 * i) _ ?_ ?_ ([], q) (by simp)
    · rintro i ⟨xs, q1⟩ hi ⟨h1, h2, h3⟩ ih
      simp only at h1 h2 h3 ih ⊢
      refine Ok.step (fun k => by simp only [spec_l91Guests.l0]; rfl) (Ok.pos (by omega) (Ok.bind (pick_in b q1 2 hB (by omega) (by omega) (by omega) (by omega)) ?_))
      rintro ⟨v, q2⟩ ⟨rfl, h4, h5⟩
      simp only at h4 h5 ⊢
      have ew : wrap64 ((i : Int) + 1) = (i : Int) + 1 := wrap_id (by omega) (by omega)
      have ew2 : wrap64 (wrap64 (wrap64 (2 * (i : Int)) + 1) + v) = 2 * (i : Int) + 1 + v := by
        rw [wrap_id (n := 2 * (i : Int)) (by omega) (by omega), wrap_id (n := 2 * (i : Int) + 1) (by omega) (by omega), wrap_id (by omega) (by omega)]
      rw [ew, ew2]
      refine Ok.bind (l91Guest_ok b _ _ hB (by omega) (by omega) (by omega)) ?_
      rintro ⟨x, y, z, q3⟩ ⟨h6, h7⟩
      simp only at h6 h7 ⊢
      exact Ok.pos (by omega) (ih (_, _) ⟨by simp [h1], by simp only; omega, by simp only; omega⟩)
    · rintro ⟨xs, q1⟩ ⟨h1, h2, h3⟩
      simp only at h1 h2 h3 ⊢
      exact Ok.step (fun k => by simp only [spec_l91Guests.l0]; rfl) (Ok.neg (by omega) (Ok.ret ⟨by simp only; omega, by constructor <;> simp only <;> omega⟩))
  refine Ok.bind (pick_in b p 8 hB (by omega) (by omega) (by omega) (by omega)) ?_
  rintro ⟨v, q⟩ ⟨rfl, h0, h1⟩
  simp only at h0 h1 ⊢
  refine Ok.bind (pick_in b _ 20 hB (by omega) (by omega) (by omega) (by omega)) ?_
  rintro ⟨v2, q⟩ ⟨rfl, h2, h3⟩
  simp only at h2 h3 ⊢
  refine Ok.ite (fun _ => Ok.bind (pick_in b _ 2 hB (by omega) (by omega) (by omega) (by omega)) ?_) (fun _ => ?_)
  · rintro ⟨v3, q⟩ ⟨rfl, h4, h5⟩
    simp only at h4 h5 ⊢
    have := loop (10 + v3.toNat) (p + 1 + 1 + 1) (by omega) (by omega) (by omega)
    rw [wrap_id (n := 10 + v3) (by omega) (by omega)]
    rwa [show ((10 + v3.toNat : Nat) : Int) = 10 + v3 by omega] at this
  · have := loop v.toNat (p + 1 + 1) (by omega) (by omega) (by omega)
    rwa [show ((v.toNat : Nat) : Int) = v by omega] at this
end Go.Proofs.Ytehenjjaekkcfaa.Pure
/- Drawn choices: at most 5. Condition: the bytes are bytes. -/
namespace Go.Proofs.Ytehenjjaekkcfaa.Pure
open Go.RowKit Go.Proofs.YtehenjjaekkcfaaW.PrintWords Go.Proofs.YtehenjjaekkcfaaW.PrintLast Go.Proofs.Ytehenjjaekkcfaa.Q
set_option linter.unusedVariables false
set_option linter.unusedSimpArgs false
theorem l91Choices_ok (b : List Int) (p : Int) (hB : Bytes b) (hp : 0 ≤ p) (hp' : p ≤ 100000) : Ok (fun k => spec_l91Choices.f k b p) (fun r => r.1.length ≤ 5 ∧ On p 40 r.2) := by
  unfold spec_l91Choices.f
  simp only [Option.bind_some]
  have fin : ∀ (xs : List S32) (n : Nat) (c : Bool) (q : Int), xs.length = n → n ≤ 5 → (c = true → 0 < n) → p ≤ q → q ≤ p + 30 → Ok (fun k => spec_l91Choices.j2 k xs (n : Int) c b q) (fun r => r.1.length ≤ 5 ∧ On p 40 r.2) := by
    intro xs n c q hx hn hc hq hq'
    refine Ok.step (fun k => by simp only [spec_l91Choices.j2]; rfl) (Ok.ite (fun h => ?_) (fun _ => Ok.ret ⟨by simp only; omega, by constructor <;> simp only <;> omega⟩))
    have := hc h
    refine Ok.bind (pick_in b q n hB (by omega) (by omega) (by omega) (by omega)) ?_
    rintro ⟨v, q2⟩ ⟨rfl, h0, h1⟩
    simp only [Option.bind_some] at h0 h1 ⊢
    refine Ok.bind (pick_in b _ 3 hB (by omega) (by omega) (by omega) (by omega)) ?_
    rintro ⟨v3, q3⟩ ⟨rfl, h4, h5⟩
    simp only at h4 h5 ⊢
    exact Ok.pos h4 (Ok.pos (by simpa using h5) (Ok.pos h0 (Ok.pos (by omega) (Ok.ret ⟨by simp only [List.length_set]; omega, by constructor <;> simp only <;> omega⟩))))
  have loop : ∀ (n : Nat) (q : Int), n ≤ 5 → p ≤ q → q ≤ p + 3 → Ok (fun k => spec_l91Choices.j0 k [] (n : Int) b q) (fun r => r.1.length ≤ 5 ∧ On p 40 r.2) := by
    intro n q hn hq hq'
    refine Ok.step (fun k => by simp only [spec_l91Choices.j0]; rfl) ?_
    refine Ok.range (fun (s : List S32 × Int) i k => spec_l91Choices.l0 k s.1 (n : Int) i b s.2) n (fun i s => s.1.length = i ∧ q ≤ s.2 ∧ s.2 ≤ q + 4 * i) _ ?_ ?_ ([], q) (by simp)
    · rintro i ⟨xs, q1⟩ hi ⟨h1, h2, h3⟩ ih
      simp only at h1 h2 h3 ih ⊢
      have ew : wrap64 ((i : Int) + 1) = (i : Int) + 1 := wrap_id (by omega) (by omega)
      refine Ok.step (fun k => by simp only [spec_l91Choices.l0]; rfl) (Ok.pos (by omega) (Ok.bind (pick_in b q1 5 hB (by omega) (by omega) (by omega) (by omega)) ?_))
      rintro ⟨v, q2⟩ ⟨rfl, h4, h5⟩
      simp only at h4 h5 ⊢
      refine Ok.bind (pick_in b _ 5 hB (by omega) (by omega) (by omega) (by omega)) ?_
      rintro ⟨v2, q2⟩ ⟨rfl, h6, h7⟩
      simp only at h6 h7 ⊢
      refine Ok.bind (pick_in b _ 2 hB (by omega) (by omega) (by omega) (by omega)) ?_
      rintro ⟨v3, q2⟩ ⟨rfl, h8, h9⟩
      simp only at h8 h9 ⊢
      rw [ew]
      refine Ok.ite (fun _ => Ok.bind (pick_in b _ 8 hB (by omega) (by omega) (by omega) (by omega)) ?_) (fun _ => Ok.pos (by omega) (ih (_, _) ⟨by simp [h1], by simp only; omega, by simp only; omega⟩))
      rintro ⟨v4, q2⟩ ⟨rfl, h10, h11⟩
      simp only at h10 h11 ⊢
      obtain ⟨m, rfl⟩ : ∃ m : Nat, v4 = (m : Int) := ⟨v4.toNat, by omega⟩
      refine Ok.bind (weight_ok m (by omega)) fun w _ => Ok.pos (by omega) (ih (_, _) ⟨by simp [h1], by simp only; omega, by simp only; omega⟩)
    · rintro ⟨xs, q1⟩ ⟨h1, h2, h3⟩
      simp only at h1 h2 h3 ⊢
      refine Ok.step (fun k => by simp only [spec_l91Choices.l0]; rfl) (Ok.neg (by omega) (Ok.ite (fun hn0 => Ok.bind (pick_in b q1 24 hB (by omega) (by omega) (by omega) (by omega)) ?_) (fun _ => fin xs n false q1 h1 hn (fun h => (by cases h)) (by omega) (by omega))))
      rintro ⟨v4, q2⟩ ⟨rfl, h10, h11⟩
      simp only at h10 h11 ⊢
      exact fin xs n _ _ h1 hn (fun _ => by omega) (by omega) (by omega)
  refine Ok.bind (pick_in b p 4 hB (by omega) (by omega) (by omega) (by omega)) ?_
  rintro ⟨v, q⟩ ⟨rfl, h0, h1⟩
  simp only at h0 h1 ⊢
  refine Ok.bind (pick_in b _ 24 hB (by omega) (by omega) (by omega) (by omega)) ?_
  rintro ⟨v2, q⟩ ⟨rfl, h2, h3⟩
  simp only at h2 h3 ⊢
  refine Ok.ite (fun _ => Ok.bind (pick_in b _ 2 hB (by omega) (by omega) (by omega) (by omega)) ?_) (fun _ => ?_)
  · rintro ⟨v3, q⟩ ⟨rfl, h4, h5⟩
    simp only at h4 h5 ⊢
    have := loop (v3 * 5).toNat (p + 1 + 1 + 1) (by omega) (by omega) (by omega)
    rw [wrap_id (n := v3 * 5) (by omega) (by omega)]
    rwa [show (((v3 * 5).toNat : Nat) : Int) = v3 * 5 by omega] at this
  · have := loop (1 + v).toNat (p + 1 + 1) (by omega) (by omega) (by omega)
    rw [wrap_id (n := 1 + v) (by omega) (by omega)]
    rwa [show (((1 + v).toNat : Nat) : Int) = 1 + v by omega] at this
end Go.Proofs.Ytehenjjaekkcfaa.Pure
/- Drawn guests and choices: at most 11 and 5. Condition: the bytes are bytes. -/
namespace Go.Proofs.Ytehenjjaekkcfaa.Pure
open Go.RowKit Go.Proofs.YtehenjjaekkcfaaW.PrintWords Go.Proofs.YtehenjjaekkcfaaW.PrintLast Go.Proofs.Ytehenjjaekkcfaa.Q
set_option linter.unusedVariables false
set_option linter.unusedSimpArgs false
theorem l91Course_ok (b : List Int) (p : Int) (hB : Bytes b) (hp : 0 ≤ p) (hp' : p ≤ 1000) : Ok (fun k => spec_l91Course.f k b p) (fun r => r.1.length ≤ 11 ∧ r.2.1.length ≤ 5 ∧ On p 500 r.2.2) := by
  unfold spec_l91Course.f
  refine Ok.bind (l91Guests_ok b p hB hp (by omega)) ?_
  rintro ⟨g, q⟩ ⟨h1, h2, h3⟩
  simp only at h1 h2 h3 ⊢
  refine Ok.bind (l91Choices_ok b q hB (by omega) (by omega)) ?_
  rintro ⟨l, q2⟩ ⟨h4, h5, h6⟩
  simp only at h4 h5 h6 ⊢
  exact Ok.ret ⟨h1, h4, by simp only; omega, by simp only; omega⟩
end Go.Proofs.Ytehenjjaekkcfaa.Pure
/- Lists of whole numbers. Condition: at most 2,000,000 elements. -/
namespace Go.Proofs.Ytehenjjaekkcfaa.Pure
open Go.RowKit Go.Proofs.YtehenjjaekkcfaaW.PrintWords Go.Proofs.YtehenjjaekkcfaaW.PrintLast Go.Proofs.Ytehenjjaekkcfaa.Q
set_option linter.unusedVariables false
set_option linter.unusedSimpArgs false

theorem sameInts_ok (a b : List Int) (hl : a.length ≤ 2000000) : Ok (fun k => laws_sameInts.f k a b) (fun r => r = true ↔ a = b) := by
  unfold laws_sameInts.f
  by_cases h : a.length = b.length
  · refine Ok.pos (by omega) ?_
    refine Ok.range (fun (_ : Unit) i k => laws_sameInts.l0 k a b i) a.length (fun i _ => ∀ j, j < i → a.getD j 0 = b.getD j 0) _ ?_ ?_ () (fun j hj => absurd hj (by omega))
    · intro i _ hi hinv ih
      have ew : wrap64 ((i : Int) + 1) = (i : Int) + 1 := wrap_id (by omega) (by omega)
      refine Ok.step (fun k => by simp only [laws_sameInts.l0]; rfl) (Ok.pos (by omega) (Ok.pos (by omega) (Ok.pos (by omega) ?_)))
      rw [ew, rd_nat, rd_nat]
      refine Ok.ite (fun h1 => ih () fun j hj => ?_) (fun h1 => Ok.ret ⟨fun h' => (by cases h'), fun h' => absurd (by rw [h']) h1⟩)
      rcases Nat.lt_succ_iff_lt_or_eq.1 hj with h2 | rfl
      · exact hinv j h2
      · exact h1
    · intro _ hinv
      exact Ok.step (fun k => by simp only [laws_sameInts.l0]; rfl) (Ok.neg (by omega) (Ok.ret ⟨fun _ => eq_of_getD 0 h hinv, fun _ => rfl⟩))
  · exact Ok.neg (by omega) (Ok.ret ⟨fun h' => (by cases h'), fun h' => absurd (by rw [h']) h⟩)
end Go.Proofs.Ytehenjjaekkcfaa.Pure
/- With room for all, the first choices are the plan: the law comes to true for every input. No conditions. -/
namespace Go.Proofs.Ytehenjjaekkcfaa.Pure
open Go.RowKit Go.Proofs.YtehenjjaekkcfaaW.PrintWords Go.Proofs.YtehenjjaekkcfaaW.PrintLast Go.Proofs.Ytehenjjaekkcfaa.Q
set_option linter.unusedVariables false
set_option linter.unusedSimpArgs false
open HallX
theorem drawServeFirst_ok (l : List Int) (hl : ∀ x ∈ l, (Lit.int .u8 x).wf = true) : Ok (fun k => spec_DrawServeFirst.f k l) (fun r => r.1.length ≤ 11 ∧ r.2.length ≤ 5) := by
  unfold spec_DrawServeFirst.f
  obtain ⟨b, hb, hB⟩ := open_ok l hl
  simp only [hb, Option.bind_some]
  exact Ok.bind (l91Course_ok b 0 hB (by omega) (by omega)) fun r hr => Ok.ret ⟨hr.1, hr.2.1⟩
theorem gaps_nil {g : List Gst} {f : List Int} : ∀ n, gapsN g f n = [] → ∀ i, i < n → ¬ f.getD i 0 < 0
  | 0, _, i, hi => absurd hi (by omega)
  | n + 1, h, i, hi => by
    rw [gapsN, List.append_eq_nil_iff] at h
    rcases Nat.lt_succ_iff_lt_or_eq.1 hi with h1 | rfl
    · exact gaps_nil n h.1 i h1
    · intro hn
      have := h.2
      rw [if_pos hn] at this
      cases this
theorem idxOf_is {α : Type} (p : α → Bool) (l : List α) (d : α) (h : 0 ≤ idxOf p l) : ∃ k : Nat, idxOf p l = k ∧ k < l.length ∧ p (l.getD k d) = true ∧ ∀ j, j < k → p (l.getD j d) = false := by
  unfold idxOf at h ⊢
  by_cases hk : l.findIdx p < l.length
  · rw [if_pos hk]
    refine ⟨_, rfl, hk, ?_, fun j hj => ?_⟩
    · rw [getD_at _ _ _ hk]; exact List.findIdx_getElem (w := hk)
    · rw [getD_at _ _ _ (by omega)]
      exact Bool.eq_false_iff.2 (by simpa using List.not_of_lt_findIdx hj)
  · rw [if_neg hk] at h
    omega
theorem full_plan {g : List Gst} {c x : List Chc} (v : GV g ∧ CV c) (hx : x.length = c.length) (he : ∀ j, j < c.length → cAt x j = ⟨(cAt c j).f0, (cAt c j).f1, 10⟩) (hg : ∀ i, i < g.length → ¬ (firsts g c).getD i 0 < 0) {r : List Int × Bool} (hr : Room g x r) : r = (firsts g c, true) := by
  have vx : CV x := by
    refine ⟨by rw [hx]; exact v.2.1, fun j hj => ?_⟩
    have hb := (cB_iff _).1 (v.2.2 j (by omega))
    rw [he j (by omega), cB_iff]
    simp only
    omega
  have hf : ∀ i, i < g.length → (firsts g c).getD i 0 = idxOf (mayC (gAt g i)) c := by
    intro i hi
    rw [getD_at _ _ _ (by simpa [firsts] using hi)]
    unfold firsts gAt
    rw [List.getElem_map, getD_at _ _ _ hi]
  have hm : ∀ i k, k < c.length → mayN g x i k = mayN g c i k := by
    intro i k hk
    unfold mayN mayC
    rw [he k hk]
  have hb := best_first (mayN g x) x.length (fun i => ((firsts g c).getD i 0).toNat) g.length 0 (lf (rooms x)) (fun k hk => by
    have : lf (rooms x) k = (cAt x k).f2 := by
      unfold lf rooms cAt
      rw [getD_at _ _ _ (by simpa using hk), getD_at _ _ _ hk, List.getElem_map]
    rw [this, he k (by omega)]
    have := v.1.1
    simp only
    omega) (fun d hd => by
    simp only [Nat.zero_add]
    have h0 := hg d hd
    rw [hf d hd] at h0 ⊢
    obtain ⟨k, ek, hk, hp, hn⟩ := idxOf_is (mayC (gAt g d)) c z32 (by omega)
    rw [ek, Int.toNat_natCast]
    refine ⟨by omega, by rw [hm _ _ hk]; exact hp, fun j hj => ?_⟩
    rw [hm _ _ (by omega)]
    exact hn j hj)
  rw [hr.1 ⟨v.1, vx⟩, planOf, hb]
  have e : toI ((List.range g.length).map fun d => ((firsts g c).getD (0 + d) 0).toNat) = firsts g c := by
    refine eq_of_getD 0 (by simp [toI, firsts]) fun i hi => ?_
    have hi' : i < g.length := by simpa [toI] using hi
    have e2 : ∀ t : List Nat, (toI t).getD i 0 = ((t.getD i 0 : Nat) : Int) := fun t => by
      unfold toI
      rw [List.getD_eq_getElem?_getD, List.getD_eq_getElem?_getD, List.getElem?_map]
      cases t[i]? <;> rfl
    rw [e2, getD_at _ _ _ (by simpa using hi'), List.getElem_map, List.getElem_range, Nat.zero_add]
    have := hg i hi'
    omega
  simp only [outOf, List.nil_append]
  rw [e]
theorem FnServeRoomFull : laws_FnServeRoomFull.Pure := by
  intro l _ _ hl
  apply Ok.rounds
  unfold laws_FnServeRoomFull.f
  refine Ok.ite (fun _ => Ok.ret rfl) fun _ => Ok.bind (drawServeFirst_ok l hl) ?_
  rintro ⟨g, c⟩ ⟨hg, hc⟩
  simp only at hg hc ⊢
  refine Ok.bind (iFirst_ok g c (by omega)) fun r1 h1 => Ok.bind (sFirst_ok g c (by omega) (by omega)) fun r2 h2 => ?_
  obtain rfl := h1.eq h2
  have hlen : r1.length ≤ 2000000 := by have := h1.len; omega
  have stop : Ok (fun k => laws_FnServeRoomFull.j0 k g c r1 r1 true) (· = true) := Ok.step (fun k => by simp only [laws_FnServeRoomFull.j0]; rfl) (Ok.pos (by trivial) (Ok.bind (sameInts_ok r1 r1 hlen) fun b hb => Ok.ret (hb.2 rfl)))
  refine Ok.bind (sameInts_ok r1 r1 hlen) fun b hb => Ok.pos (hb.2 rfl) (Ok.bind (sGuests_ok g (by omega)) fun b2 hb2 => Ok.ite (fun h => Ok.bind (sChoices_ok c (by omega)) fun b3 hb3 => Ok.ite (fun h' => Ok.bind (sGaps_ok g c (by omega) (by omega)) fun t ht => ?_) (fun _ => stop)) (fun _ => stop))
  have v : GV g ∧ CV c := ⟨hb2.1 h, hb3.1 h'⟩
  have e1 := h1.1 v
  have el : r1.length = g.length := by rw [e1]; simp [firsts]
  by_cases h0 : (t.length : Int) > 0
  · rw [decide_eq_true h0]; exact stop
  rw [decide_eq_false h0]
  have hgap : ∀ i, i < g.length → ¬ (firsts g c).getD i 0 < 0 := by
    obtain ⟨f, hf, rfl⟩ := ht
    have ef := hf.1 v
    have hz : gapsN g f f.length = [] := List.eq_nil_of_length_eq_zero (by omega)
    intro i hi
    rw [← ef]
    exact gaps_nil _ hz i (by rw [ef]; simpa [firsts] using hi)
  refine Ok.step (fun k => by simp only [laws_FnServeRoomFull.j0]; rfl) (Ok.neg (by simp) (Ok.val (Ok.pos (Nat.lt_of_le_of_lt (m := 20) (by simp; omega) (by decide)) ?_)))
  rw [List.nil_append]
  refine Ok.range (fun (x : List Chc) i k => laws_FnServeRoomFull.l0 k g r1 x i) c.length (fun i x => x.length = c.length ∧ (∀ j, j < i → cAt x j = ⟨(cAt c j).f0, (cAt c j).f1, 10⟩) ∧ ∀ j, i ≤ j → cAt x j = cAt c j) _ ?_ ?_ c ⟨rfl, fun j hj => absurd hj (by omega), fun _ _ => rfl⟩
  · rintro i x hi ⟨hx, ha, hb⟩ ih
    refine Ok.step (fun k => by simp only [laws_FnServeRoomFull.l0]; rfl) (Ok.pos (by omega) (Ok.pos (by omega) ?_))
    rw [cAt_rd, wrap_id (n := (i : Int) + 1) (by omega) (by omega), Int.toNat_natCast, hb i (Nat.le_refl _)]
    have key : ∀ j, cAt (x.set i ⟨(cAt c i).f0, (cAt c i).f1, 10⟩) j = if j = i then ⟨(cAt c i).f0, (cAt c i).f1, 10⟩ else cAt x j := fun j => getD_set _ _ _ _ _ (by omega)
    refine ih _ ⟨by simpa using hx, fun j hj => ?_, fun j hj => ?_⟩
    · rw [key]
      by_cases e : j = i
      · subst e; rw [if_pos rfl]
      · rw [if_neg e]; exact ha j (by omega)
    · rw [key, if_neg (by omega)]; exact hb j (by omega)
  · rintro x ⟨hx, ha, _⟩
    refine Ok.step (fun k => by simp only [laws_FnServeRoomFull.l0]; rfl) (Ok.neg (by omega) (Ok.bind (iRoom_ok g x (by omega) (by omega)) fun r hr => ?_))
    rw [full_plan v hx (fun j hj => ha j hj) hgap hr, ← e1]
    exact Ok.pos (by trivial) (Ok.bind (sameInts_ok r1 r1 hlen) fun b hb => Ok.ret (hb.2 rfl))
end Go.Proofs.Ytehenjjaekkcfaa.Pure
