/- More allergens are for fewer guests: the law comes to true for every input. No conditions. -/
import Derived.Test.YtgfclechgalpmaaWMore
import Derived.Test.YtgfclechgalpmaaQx1
import Derived.Test.YtgfclechgalpmaaQx8
import Derived.Test.YtgfclechgalpmaaQx2
import Derived.Test.YtgfclechgalpmaaQx14
import Derived.Test.YtgfclechgalpmaaQx15
import Derived.Test.YtgfclechgalpmaaQx9
import Derived.Test.YtgfclechgalpmaaQx10
import Derived.Test.YtgfclechgalpmaaQx25
import Derived.Test.YtgfclechgalpmaaQx4
import Derived.Test.YtgfclechgalpmaaQx17
import Derived.Test.YtgfclechgalpmaaQx18
import Derived.Test.YtgfclechgalpmaaQx20
import Derived.Test.YtgfclechgalpmaaQx24
import Derived.Test.YtgfclechgalpmaaQx28
/- Plain logic for printed functions: from some number of rounds on a function answers, and its answer fits. No conditions. -/
namespace Go.Proofs.Ytgfclechgalpmaa.Pure
open Go.RowKit Go.Proofs.YtgfclechgalpmaaW.PrintWords Go.Proofs.YtgfclechgalpmaaW.PrintLast

/-- g answers from some number of rounds on, and the answer is as Q says. -/
def Ok {α : Type} (g : Nat → Option α) (Q : α → Prop) : Prop := ∃ r, Ev g r ∧ Q r
theorem Ok.ret {α : Type} {r : α} {Q : α → Prop} (h : Q r) : Ok (fun _ => some r) Q := ⟨r, Ev.now r, h⟩
theorem Ok.of_eq {α : Type} {o : Option α} {r : α} {Q : α → Prop} (e : o = some r) (h : Q r) : Ok (fun _ => o) Q := by subst e; exact Ok.ret h
theorem Ok.bind {α β : Type} {g : Nat → Option α} {f : Nat → α → Option β} {P : α → Prop} {Q : β → Prop} (h : Ok g P) (k : ∀ a, P a → Ok (fun n => f n a) Q) : Ok (fun n => (g n).bind (f n)) Q := by
  obtain ⟨a, ha, hp⟩ := h
  obtain ⟨r, hr, hq⟩ := k a hp
  exact ⟨r, Ev.bind ha hr, hq⟩
theorem Ok.val {α β : Type} {a : α} {f : Nat → α → Option β} {Q : β → Prop} (h : Ok (fun n => f n a) Q) : Ok (fun n => (some a).bind (f n)) Q := h
theorem Ok.pos {α : Type} {c : Prop} [Decidable c] {t e : Nat → Option α} {Q : α → Prop} (hc : c) (h : Ok t Q) : Ok (fun n => if c then t n else e n) Q := by simpa only [if_pos hc] using h
theorem Ok.neg {α : Type} {c : Prop} [Decidable c] {t e : Nat → Option α} {Q : α → Prop} (hc : ¬ c) (h : Ok e Q) : Ok (fun n => if c then t n else e n) Q := by simpa only [if_neg hc] using h
theorem Ok.ite {α : Type} {c : Prop} [Decidable c] {t e : Nat → Option α} {Q : α → Prop} (h : c → Ok t Q) (k : ¬ c → Ok e Q) : Ok (fun n => if c then t n else e n) Q := by
  by_cases hc : c
  · exact Ok.pos hc (h hc)
  · exact Ok.neg hc (k hc)
theorem Ok.step {α : Type} {g f : Nat → Option α} {Q : α → Prop} (h : ∀ k, g (k + 1) = f k) (k : Ok f Q) : Ok g Q := by
  obtain ⟨r, hr, hq⟩ := k
  exact ⟨r, Ev.step h hr, hq⟩
theorem Ok.congr {α : Type} {g f : Nat → Option α} {Q : α → Prop} (h : ∀ k, g k = f k) (k : Ok f Q) : Ok g Q := by
  obtain ⟨r, hr, hq⟩ := k
  exact ⟨r, Ev.congr h hr, hq⟩
theorem Ok.mono {α : Type} {g : Nat → Option α} {P Q : α → Prop} (h : Ok g P) (k : ∀ a, P a → Q a) : Ok g Q := by
  obtain ⟨r, hr, hp⟩ := h
  exact ⟨r, hr, k r hp⟩
theorem Ok.and {α : Type} {g : Nat → Option α} {P Q : α → Prop} (h : Ok g P) (k : Ok g Q) : Ok g (fun a => P a ∧ Q a) := by
  obtain ⟨r, ⟨K, hr⟩, hp⟩ := h
  obtain ⟨r', ⟨K', hr'⟩, hq⟩ := k
  have h1 := hr (max K K') (by omega)
  have h2 := hr' (max K K') (by omega)
  obtain rfl : r = r' := by rw [h1] at h2; injection h2
  exact ⟨r, ⟨K, hr⟩, hp, hq⟩
theorem Ok.rounds {α : Type} {g : Nat → Option α} {r : α} (h : Ok g (· = r)) : ∃ k, g k = some r := by
  obtain ⟨_, hr, rfl⟩ := h
  exact hr.rounds
theorem Ok.eq {α : Type} {g : Nat → Option α} {r : α} {Q : α → Prop} (h : Ok g (· = r)) (q : Q r) : Ok g Q := h.mono fun _ e => by subst e; exact q
theorem wrap_id {n : Int} (h0 : -9223372036854775808 ≤ n) (h1 : n ≤ 9223372036854775807) : wrap64 n = n := by unfold wrap64; omega
theorem wf64 {n : Int} (h : (Lit.int .i64 n).wf = true) : -9223372036854775808 ≤ n ∧ n ≤ 9223372036854775807 := by
  simp [Lit.wf, IntKind.min, IntKind.max, IntKind.signed, IntKind.bits] at h
  omega
theorem wfu8 {n : Int} (h : (Lit.int .u8 n).wf = true) : 0 ≤ n ∧ n ≤ 255 := by
  simp [Lit.wf, IntKind.min, IntKind.max, IntKind.signed, IntKind.bits] at h
  omega
/-- A loop that counts an index up to n, with what else it carries in s. -/
theorem Ok.range {σ ρ : Type} (L : σ → Int → Nat → Option ρ) (n : Nat) (Inv : Nat → σ → Prop) (Q : ρ → Prop)
    (step : ∀ (i : Nat) (s : σ), i < n → Inv i s → (∀ s', Inv (i + 1) s' → Ok (L s' ((i : Int) + 1)) Q) → Ok (L s (i : Int)) Q)
    (last : ∀ s, Inv n s → Ok (L s (n : Int)) Q) : ∀ s, Inv 0 s → Ok (L s 0) Q := by
  have key : ∀ d i, i + d = n → ∀ s, Inv i s → Ok (L s (i : Int)) Q := by
    intro d
    induction d with
    | zero => intro i hi s hs; obtain rfl : i = n := (by omega); exact last s hs
    | succ d ih =>
      intro i hi s hs
      refine step i s (by omega) hs fun s' hs' => ?_
      have := ih (i + 1) (by omega) s' hs'
      rwa [show ((i + 1 : Nat) : Int) = (i : Int) + 1 by omega] at this
  exact fun s hs => key n 0 (by omega) s hs
/-- The same for a loop that counts down from n - 1. -/
theorem Ok.down {σ ρ : Type} (L : σ → Int → Nat → Option ρ) (n : Nat) (Inv : Nat → σ → Prop) (Q : ρ → Prop)
    (step : ∀ (i : Nat) (s : σ), i < n → Inv (i + 1) s → (∀ s', Inv i s' → Ok (L s' ((i : Int) - 1)) Q) → Ok (L s (i : Int)) Q)
    (last : ∀ s, Inv 0 s → Ok (L s (-1)) Q) : ∀ s, Inv n s → Ok (L s ((n : Int) - 1)) Q := by
  have key : ∀ i, i ≤ n → ∀ s, Inv i s → Ok (L s ((i : Int) - 1)) Q := by
    intro i
    induction i with
    | zero => intro _ s hs; exact last s hs
    | succ i ih =>
      intro hi s hs
      have := step i s (by omega) hs fun s' hs' => ih (by omega) s' hs'
      rwa [show ((i + 1 : Nat) : Int) - 1 = (i : Int) by omega]
  exact fun s hs => key n (Nat.le_refl _) s hs
theorem bool_of_iff {a b : Bool} {P : Prop} (h : a = true ↔ P) (k : b = true ↔ P) : a = b := by
  cases a <;> cases b <;> simp_all
theorem take_next {α : Type} {l : List α} {i : Nat} (d : α) (h : i < l.length) : l.take (i + 1) = l.take i ++ [l.getD i d] := by
  rw [List.take_succ_eq_append_getElem h, List.getD_eq_getElem?_getD, List.getElem?_eq_getElem h, Option.getD_some]
theorem getD_at {α : Type} (l : List α) (d : α) (i : Nat) (h : i < l.length) : l.getD i d = l[i] := by
  rw [List.getD_eq_getElem?_getD, List.getElem?_eq_getElem h, Option.getD_some]
theorem len_small {α : Type} {l : List α} (h : l.length ≤ maxLen) : (l.length : Int) ≤ 9223372036854775807 := by unfold maxLen at h; omega
end Go.Proofs.Ytgfclechgalpmaa.Pure
/- Ranges, and the bits of sets. No conditions. -/
namespace Go.Proofs.Ytgfclechgalpmaa.Pure
open Go.RowKit Go.Proofs.YtgfclechgalpmaaW.PrintWords Go.Proofs.YtgfclechgalpmaaW.PrintLast
set_option linter.unusedVariables false
set_option linter.unusedSimpArgs false

def inr (a lo hi : Int) : Bool := decide (lo ≤ a ∧ a ≤ hi)
theorem inr_iff (a lo hi : Int) : inr a lo hi = true ↔ lo ≤ a ∧ a ≤ hi := by simp [inr]
theorem bits_nat64 (a b : Nat) (ha : a < 256) (hb : b < 256) : Go.bits .and .i64 (a : Int) (b : Int) = ((a &&& b : Nat) : Int) ∧ Go.bits .or .i64 (a : Int) (b : Int) = ((a ||| b : Nat) : Int) :=
  Go.bits_nat .i64 8 (by decide) (fun n h0 h1 => by rw [IntKind.wrap_i64]; omega) a b ha hb
theorem set_nat {a : Int} (h : 0 ≤ a ∧ a ≤ 255) : ∃ n : Nat, a = (n : Int) ∧ n < 256 := ⟨a.toNat, by omega, by omega⟩
end Go.Proofs.Ytgfclechgalpmaa.Pure
/- The reference's ranges and sets. No conditions. -/
namespace Go.Proofs.Ytgfclechgalpmaa.Pure
open Go.RowKit Go.Proofs.YtgfclechgalpmaaW.PrintWords Go.Proofs.YtgfclechgalpmaaW.PrintLast Go.Proofs.Ytgfclechgalpmaa.Q
set_option linter.unusedVariables false
set_option linter.unusedSimpArgs false

theorem l6In_eq (a lo hi : Int) : spec_l6In.f a lo hi = some (inr a lo hi) := by
  unfold spec_l6In.f inr
  by_cases h : a ≥ lo
  · rw [if_pos h]; simp [h]
  · rw [if_neg h]; simp; omega
theorem l3Set_eq (a : Int) : spec_l3Set.f a = some (inr a 0 255) := by simp only [spec_l3Set.f, l6In_eq, Option.bind_some]
end Go.Proofs.Ytgfclechgalpmaa.Pure
/- The program's ranges, sets and kinds. No conditions. -/
namespace Go.Proofs.Ytgfclechgalpmaa.Pure
open Go.RowKit Go.Proofs.YtgfclechgalpmaaW.PrintWords Go.Proofs.YtgfclechgalpmaaW.PrintLast Go.Proofs.Ytgfclechgalpmaa.Q
set_option linter.unusedVariables false
set_option linter.unusedSimpArgs false

theorem within_eq (a lo hi : Int) : impl_within.f a lo hi = some (inr a lo hi) := by
  unfold impl_within.f inr
  by_cases h : a ≥ lo
  · rw [if_pos h]; simp [h]
  · rw [if_neg h]; simp; omega
theorem isSet_eq (a : Int) : impl_isSet.f a = some (inr a 0 255) := by simp only [impl_isSet.f, within_eq, Option.bind_some]
theorem isKind_eq (a : Int) : impl_isKind.f a = some (inr a 1 5) := by simp only [impl_isKind.f, within_eq, Option.bind_some]
end Go.Proofs.Ytgfclechgalpmaa.Pure
/- When a guest is valid. No conditions. -/
namespace Go.Proofs.Ytgfclechgalpmaa.Pure
open Go.RowKit Go.Proofs.YtgfclechgalpmaaW.PrintWords Go.Proofs.YtgfclechgalpmaaW.PrintLast Go.Proofs.Ytgfclechgalpmaa.Q
set_option linter.unusedVariables false
set_option linter.unusedSimpArgs false

def gB (a b c : Int) : Bool := inr a 1 99 && inr b 1 4 && inr c 0 255
theorem gB_iff (a b c : Int) : gB a b c = true ↔ (1 ≤ a ∧ a ≤ 99) ∧ (1 ≤ b ∧ b ≤ 4) ∧ 0 ≤ c ∧ c ≤ 255 := by simp [gB, inr_iff, and_assoc]
theorem sGuest_eq (a b c : Int) : spec_l12Guest.f a b c = some (gB a b c) := by
  unfold spec_l12Guest.f gB
  simp only [l6In_eq, l3Set_eq, Option.bind_some]
  cases inr a 1 99 <;> cases inr b 1 4 <;> rfl
theorem iGuest_eq (a b c : Int) : impl_guestValid.f a b c = some (gB a b c) := by
  unfold impl_guestValid.f gB
  simp only [within_eq, isSet_eq, Option.bind_some]
  cases inr a 1 99 <;> cases inr b 1 4 <;> rfl
end Go.Proofs.Ytgfclechgalpmaa.Pure
/- When guests are valid, in the program and in the reference. Condition: at most 2,000,000. -/
namespace Go.Proofs.Ytgfclechgalpmaa.Pure
open Go.RowKit Go.Proofs.YtgfclechgalpmaaW.PrintWords Go.Proofs.YtgfclechgalpmaaW.PrintLast Go.Proofs.Ytgfclechgalpmaa.Q
set_option linter.unusedVariables false
set_option linter.unusedSimpArgs false

abbrev Gst := S30
def gAt (l : List Gst) (i : Nat) : Gst := l.getD i z30
theorem gAt_rd (l : List Gst) (i : Nat) : rd_T30 l (i : Int) = gAt l i := rfl
theorem gAt_prev (l : List Gst) (i : Nat) (h : 0 < i) : rd_T30 l ((i : Int) - 1) = gAt l (i - 1) := by
  unfold rd_T30 gAt
  rw [show ((i : Int) - 1).toNat = i - 1 by omega]
/-- element i is as it must be -/
def gGood (l : List Gst) (i : Nat) : Prop := gB (gAt l i).f0 (gAt l i).f1 (gAt l i).f2 = true ∧ (0 < i → (gAt l (i - 1)).f0 < (gAt l i).f0)
/-- guests are valid -/
def GV (l : List Gst) : Prop := l.length ≤ 10 ∧ ∀ i, i < l.length → gGood l i
theorem sGuests_ok (l : List Gst) (hl : l.length ≤ 2000000) : Ok (fun k => spec_GuestsValid.f k l) (fun r => r = true ↔ GV l) := by
  unfold spec_GuestsValid.f
  refine Ok.range (fun (_ : Unit) i k => spec_GuestsValid.l0 k l i) l.length (fun i _ => ∀ j, j < i → gGood l j) _ ?_ ?_ () (fun j hj => absurd hj (by omega))
  · intro i _ hi hinv ih
    have ew : wrap64 ((i : Int) + 1) = (i : Int) + 1 := wrap_id (by omega) (by omega)
    have ew' : wrap64 ((i : Int) - 1) = (i : Int) - 1 := wrap_id (by omega) (by omega)
    refine Ok.step (fun k => by simp only [spec_GuestsValid.l0]; rfl) (Ok.pos (by omega) (Ok.pos (by omega) ?_))
    simp only [sGuest_eq, Option.bind_some, ew, ew', gAt_rd]
    have bad : ¬ gGood l i → Ok (fun _ => some false) (fun r : Bool => r = true ↔ GV l) := fun h => Ok.ret (by
      constructor
      · intro h'; cases h'
      · intro h'; exact absurd (h'.2 i hi) h)
    have good : gGood l i → Ok (fun k => spec_GuestsValid.l0 k l ((i : Int) + 1)) (fun r : Bool => r = true ↔ GV l) := fun h => ih () (fun j hj => by
      rcases Nat.lt_succ_iff_lt_or_eq.1 hj with h1 | rfl
      · exact hinv j h1
      · exact h)
    refine Ok.ite (fun h1 => Ok.ite (fun h2 => ?_) (fun h2 => good ⟨h1, fun h => absurd h (by omega)⟩)) (fun h1 => bad fun h => h1 h.1)
    refine Ok.pos (by omega) (Ok.pos (by omega) ?_)
    simp only [gAt_prev l i (by omega)]
    refine Ok.ite (fun h3 => bad fun h => ?_) (fun h3 => good ⟨h1, fun _ => by omega⟩)
    have := h.2 (by omega)
    omega
  · intro _ hinv
    refine Ok.step (fun k => by simp only [spec_GuestsValid.l0]; rfl) (Ok.neg (by omega) (Ok.ret ?_))
    rw [decide_eq_true_iff]
    exact ⟨fun h => ⟨by omega, hinv⟩, fun h => by have := h.1; omega⟩
theorem iGuests_ok (l : List Gst) (hl : l.length ≤ 2000000) : Ok (fun k => impl_GuestsValid.f k l) (fun r => r = true ↔ GV l) := by
  unfold impl_GuestsValid.f
  refine Ok.range (fun (_ : Unit) i k => impl_GuestsValid.l0 k l l (l.length : Int) i) l.length (fun i _ => ∀ j, j < i → gGood l j) _ ?_ ?_ () (fun j hj => absurd hj (by omega))
  · intro i _ hi hinv ih
    have ew : wrap64 ((i : Int) + 1) = (i : Int) + 1 := wrap_id (by omega) (by omega)
    have ew' : wrap64 ((i : Int) - 1) = (i : Int) - 1 := wrap_id (by omega) (by omega)
    refine Ok.step (fun k => by simp only [impl_GuestsValid.l0]; rfl) (Ok.pos (by omega) (Ok.pos (by omega) (Ok.pos (by omega) ?_)))
    simp only [iGuest_eq, Option.bind_some, ew, ew', gAt_rd]
    have bad : ¬ gGood l i → Ok (fun _ => some false) (fun r : Bool => r = true ↔ GV l) := fun h => Ok.ret (by
      constructor
      · intro h'; cases h'
      · intro h'; exact absurd (h'.2 i hi) h)
    have good : gGood l i → Ok (fun k => impl_GuestsValid.l0 k l l (l.length : Int) ((i : Int) + 1)) (fun r : Bool => r = true ↔ GV l) := fun h => ih () (fun j hj => by
      rcases Nat.lt_succ_iff_lt_or_eq.1 hj with h1 | rfl
      · exact hinv j h1
      · exact h)
    refine Ok.ite (fun h1 => Ok.ite (fun h2 => ?_) (fun h2 => good ⟨h1, fun h => absurd h (by omega)⟩)) (fun h1 => bad fun h => h1 h.1)
    refine Ok.pos (by omega) (Ok.pos (by omega) ?_)
    simp only [gAt_prev l i (by omega)]
    refine Ok.ite (fun h3 => bad fun h => ?_) (fun h3 => good ⟨h1, fun _ => by omega⟩)
    have := h.2 (by omega)
    omega
  · intro _ hinv
    refine Ok.step (fun k => by simp only [impl_GuestsValid.l0]; rfl) (Ok.neg (by omega) (Ok.ret ?_))
    rw [decide_eq_true_iff]
    exact ⟨fun h => ⟨by omega, hinv⟩, fun h => by have := h.1; omega⟩
end Go.Proofs.Ytgfclechgalpmaa.Pure
/- Diets: what DietAllows answers, in the program and in the reference. No conditions. -/
namespace Go.Proofs.Ytgfclechgalpmaa.Pure
open Go.RowKit Go.Proofs.YtgfclechgalpmaaW.PrintWords Go.Proofs.YtgfclechgalpmaaW.PrintLast Go.Proofs.Ytgfclechgalpmaa.Q
set_option linter.unusedVariables false
set_option linter.unusedSimpArgs false

def dietB (d k : Int) : Bool := decide (1 ≤ d ∧ d ≤ 4 ∧ 1 ≤ k ∧ k ≤ 5 ∧ (d = 2 → k ≤ 4) ∧ (d = 3 → k ≤ 3) ∧ (d = 4 → k ≤ 1))
theorem dietB_iff (d k : Int) : dietB d k = true ↔ 1 ≤ d ∧ d ≤ 4 ∧ 1 ≤ k ∧ k ≤ 5 ∧ (d = 2 → k ≤ 4) ∧ (d = 3 → k ≤ 3) ∧ (d = 4 → k ≤ 1) := by unfold dietB; exact decide_eq_true_iff
theorem last_eq (d : Int) (h : 1 ≤ d ∧ d ≤ 4) : ∃ m, spec_l12Last.f d = some m ∧ (d = 1 → m = 5) ∧ (d = 2 → m = 4) ∧ (d = 3 → m = 3) ∧ (d = 4 → m = 1) := by
  have : d = 1 ∨ d = 2 ∨ d = 3 ∨ d = 4 := by omega
  rcases this with rfl | rfl | rfl | rfl <;> exact ⟨_, rfl, by decide, by decide, by decide, by decide⟩
theorem sDiet_eq (d k : Int) : spec_DietAllows.f d k = some (dietB d k) := by
  unfold spec_DietAllows.f
  simp only [l6In_eq, Option.bind_some]
  cases h1 : inr d 1 4 with
  | false =>
    have : dietB d k = false := by
      rw [Bool.eq_false_iff]; intro h
      rw [dietB_iff] at h
      have : inr d 1 4 = true := (inr_iff _ _ _).2 ⟨h.1, h.2.1⟩
      rw [h1] at this; cases this
    rw [this]; rfl
  | true =>
    have hd := (inr_iff _ _ _).1 h1
    cases h2 : inr k 1 5 with
    | false =>
      have : dietB d k = false := by
        rw [Bool.eq_false_iff]; intro h
        rw [dietB_iff] at h
        have : inr k 1 5 = true := (inr_iff _ _ _).2 ⟨h.2.2.1, h.2.2.2.1⟩
        rw [h2] at this; cases this
      rw [this]; rfl
    | true =>
      have hk := (inr_iff _ _ _).1 h2
      obtain ⟨m, hm, m1, m2, m3, m4⟩ := last_eq d hd
      rw [if_pos rfl, if_pos rfl, hm]
      simp only [Option.bind_some, Option.some.injEq]
      have : (k ≤ m) ↔ dietB d k = true := by
        rw [dietB_iff]
        have : d = 1 ∨ d = 2 ∨ d = 3 ∨ d = 4 := by omega
        omega
      rw [Bool.eq_iff_iff, ← this, decide_eq_true_iff]
theorem iDiet_eq (d k : Int) : impl_DietAllows.f d k = some (dietB d k) := by
  unfold impl_DietAllows.f
  simp only [isKind_eq, Option.bind_some]
  cases h2 : inr k 1 5 with
  | false =>
    have : dietB d k = false := by
      rw [Bool.eq_false_iff]; intro h
      rw [dietB_iff] at h
      have : inr k 1 5 = true := (inr_iff _ _ _).2 ⟨h.2.2.1, h.2.2.2.1⟩
      rw [h2] at this; cases this
    rw [this]; rfl
  | true =>
    have hk := (inr_iff _ _ _).1 h2
    rw [if_pos rfl]
    have key : ∀ b : Bool, (b = true ↔ dietB d k = true) → b = dietB d k := fun b h => Bool.eq_iff_iff.2 h
    split
    · rename_i e; subst e
      exact congrArg some (key _ (by rw [dietB_iff]; simp; omega))
    split
    · rename_i e; subst e
      exact congrArg some (key _ (by rw [dietB_iff]; simp; omega))
    split
    · rename_i e; subst e
      split
      · rename_i e; subst e
        exact congrArg some (key _ (by rw [dietB_iff]; simp))
      · exact congrArg some (key _ (by rw [dietB_iff]; simp; omega))
    split
    · rename_i e; subst e
      exact congrArg some (key _ (by rw [dietB_iff]; simp; omega))
    · exact congrArg some (key _ (by rw [dietB_iff]; simp; omega))
end Go.Proofs.Ytgfclechgalpmaa.Pure
/- The weight of an allergen: two to the power of its number, up to 8. -/
namespace Go.Proofs.Ytgfclechgalpmaa.Pure
open Go.RowKit Go.Proofs.YtgfclechgalpmaaW.PrintWords Go.Proofs.YtgfclechgalpmaaW.PrintLast Go.Proofs.Ytgfclechgalpmaa.Q
set_option linter.unusedVariables false
set_option linter.unusedSimpArgs false

theorem pow_le (i : Nat) (h : i ≤ 8) : (1 : Int) ≤ 2 ^ i ∧ (2 : Int) ^ i ≤ 256 := by
  have h1 : 2 ^ i ≤ 2 ^ 8 := Nat.pow_le_pow_right (by decide) h
  have h2 : 0 < 2 ^ i := Nat.two_pow_pos i
  constructor
  · have : ((2 ^ i : Nat) : Int) = (2 : Int) ^ i := by simp
    omega
  · have : ((2 ^ i : Nat) : Int) = (2 : Int) ^ i := by simp
    omega
theorem weight_ok (n : Nat) (h : n ≤ 8) : Ok (fun k => spec_l3Weight.f k (n : Int)) (· = (2 : Int) ^ n) := by
  unfold spec_l3Weight.f
  refine Ok.range (fun (s : Int) i k => spec_l3Weight.l0 k (n : Int) s i) n (fun i s => s = 2 ^ i) _ ?_ ?_ 1 rfl
  · rintro i _ hi rfl ih
    have hp := pow_le i (by omega)
    refine Ok.step (fun k => by simp only [spec_l3Weight.l0]; rfl) (Ok.pos (by omega) ?_)
    rw [wrap_id (n := (i : Int) + 1) (by omega) (by omega), wrap_id (n := 2 * 2 ^ i) (by omega) (by omega)]
    exact ih _ (by rw [Int.pow_succ, Int.mul_comm])
  · rintro _ rfl
    exact Ok.step (fun k => by simp only [spec_l3Weight.l0]; rfl) (Ok.neg (by omega) (Ok.ret rfl))
end Go.Proofs.Ytgfclechgalpmaa.Pure
/- Does a set have an allergen? Conditions: the set is in the range 0 to 255, the allergen at most 8. -/
namespace Go.Proofs.Ytgfclechgalpmaa.Pure
open Go.RowKit Go.Proofs.YtgfclechgalpmaaW.PrintWords Go.Proofs.YtgfclechgalpmaaW.PrintLast Go.Proofs.Ytgfclechgalpmaa.Q
set_option linter.unusedVariables false
set_option linter.unusedSimpArgs false

theorem has_ok (a : Nat) (ha : a < 256) (i : Nat) (h : i ≤ 8) : Ok (fun k => spec_l3Has.f k (a : Int) (i : Int)) (· = a.testBit i) := by
  unfold spec_l3Has.f
  refine Ok.bind (weight_ok i h) ?_
  rintro _ rfl
  have hp := pow_le i h
  refine Ok.neg (by omega) (Ok.ret ?_)
  have e : ((2 : Int) ^ i) = ((2 ^ i : Nat) : Int) := by simp
  rw [e, Int.tdiv_eq_ediv_of_nonneg (by omega), ← Int.natCast_ediv]
  have hd : a / 2 ^ i ≤ a := Nat.div_le_self _ _
  generalize hq : a / 2 ^ i = q at hd
  rw [wrap_id (n := ((q : Nat) : Int)) (by omega) (by omega), Int.tmod_eq_emod_of_nonneg (by omega), Nat.testBit_eq_decide_div_mod_eq, hq]
  by_cases h1 : q % 2 = 1
  · rw [decide_eq_true h1, beq_iff_eq]; omega
  · rw [decide_eq_false h1, beq_eq_false_iff_ne]; omega
theorem mod_next (x i : Nat) : x % 2 ^ (i + 1) = x % 2 ^ i + (if x.testBit i = true then 2 ^ i else 0) := by
  rw [Nat.mod_pow_succ, Nat.testBit_eq_decide_div_mod_eq]
  have h := Nat.mod_two_eq_zero_or_one (x / 2 ^ i)
  rcases h with h | h <;> simp [h]
theorem cast_mod (x i : Nat) (hi : i ≤ 8) (hx : x < 256) : 0 ≤ ((x % 2 ^ i : Nat) : Int) ∧ ((x % 2 ^ i : Nat) : Int) ≤ 255 := by
  have := Nat.mod_le x (2 ^ i)
  omega
end Go.Proofs.Ytgfclechgalpmaa.Pure
/- The reference's common part of two sets. Conditions: sets in the range 0 to 255. -/
namespace Go.Proofs.Ytgfclechgalpmaa.Pure
open Go.RowKit Go.Proofs.YtgfclechgalpmaaW.PrintWords Go.Proofs.YtgfclechgalpmaaW.PrintLast Go.Proofs.Ytgfclechgalpmaa.Q
set_option linter.unusedVariables false
set_option linter.unusedSimpArgs false

theorem meet_ok (a b : Nat) (ha : a < 256) (hb : b < 256) : Ok (fun k => spec_l3Meet.f k (a : Int) (b : Int)) (· = ((a &&& b : Nat) : Int)) := by
  unfold spec_l3Meet.f
  have hab : a &&& b < 256 := Nat.and_lt_two_pow (n := 8) _ hb
  refine Ok.range (fun (s : Int) i k => spec_l3Meet.l0 k (a : Int) (b : Int) s i) 8 (fun i s => s = (((a &&& b) % 2 ^ i : Nat) : Int)) _ ?_ ?_ 0 (by simp [Nat.mod_one])
  · rintro i _ hi rfl ih
    have hr := cast_mod (a &&& b) i (by omega) hab
    have hp := pow_le i (by omega)
    have hn := mod_next (a &&& b) i
    have ew : wrap64 ((i : Int) + 1) = (i : Int) + 1 := wrap_id (by omega) (by omega)
    rw [Nat.testBit_and] at hn
    refine Ok.step (fun k => by simp only [spec_l3Meet.l0]; rfl) (Ok.pos (by omega) (Ok.bind (has_ok a ha i (by omega)) ?_))
    rintro _ rfl
    cases h1 : a.testBit i with
    | false =>
      refine Ok.neg (by simp) ?_
      rw [ew]
      exact ih _ (by rw [hn, h1]; simp)
    | true =>
      refine Ok.pos rfl (Ok.bind (has_ok b hb i (by omega)) ?_)
      rintro _ rfl
      cases h2 : b.testBit i with
      | false =>
        refine Ok.neg (by simp) ?_
        rw [ew]
        exact ih _ (by rw [hn, h2]; simp)
      | true =>
        refine Ok.pos rfl (Ok.bind (weight_ok i (by omega)) ?_)
        rintro _ rfl
        rw [ew, wrap_id (n := _ + 2 ^ i) (by omega) (by omega)]
        exact ih _ (by rw [hn, h1, h2]; simp)
  · rintro _ rfl
    refine Ok.step (fun k => by simp only [spec_l3Meet.l0]; rfl) (Ok.neg (by omega) (Ok.ret ?_))
    rw [Nat.mod_eq_of_lt hab]
end Go.Proofs.Ytgfclechgalpmaa.Pure
/- Who may eat what: GuestMay, in the program and in the reference. No conditions. -/
namespace Go.Proofs.Ytgfclechgalpmaa.Pure
open Go.RowKit Go.Proofs.YtgfclechgalpmaaW.PrintWords Go.Proofs.YtgfclechgalpmaaW.PrintLast Go.Proofs.Ytgfclechgalpmaa.Q
set_option linter.unusedVariables false
set_option linter.unusedSimpArgs false

def mayB (a b c s k : Int) : Bool := gB a b c && inr s 0 255 && decide (Go.bits .and .i64 c s = 0) && dietB b k
theorem iMay_eq (a b c s k : Int) : impl_GuestMay.f a b c s k = some (mayB a b c s k) := by
  unfold impl_GuestMay.f mayB
  simp only [iGuest_eq, isSet_eq, iDiet_eq, Option.bind_some]
  cases gB a b c <;> cases inr s 0 255 <;> by_cases h : Go.bits .and .i64 c s = 0 <;> simp [h]
theorem sMay_ok (a b c s k : Int) : Ok (fun n => spec_GuestMay.f n a b c s k) (· = mayB a b c s k) := by
  unfold spec_GuestMay.f mayB
  simp only [sGuest_eq, l3Set_eq, sDiet_eq, Option.bind_some]
  cases h1 : gB a b c with
  | false => exact Ok.neg (by simp) (Ok.ret (by simp))
  | true =>
    refine Ok.pos rfl ?_
    cases h2 : inr s 0 255 with
    | false => exact Ok.neg (by simp) (Ok.ret (by simp))
    | true =>
      refine Ok.pos rfl ?_
      cases h3 : dietB b k with
      | false => exact Ok.neg (by simp) (Ok.ret (by simp))
      | true =>
        refine Ok.pos rfl ?_
        obtain ⟨x, rfl, hx⟩ := set_nat ((gB_iff _ _ _).1 h1).2.2
        obtain ⟨y, rfl, hy⟩ := set_nat ((inr_iff _ _ _).1 h2)
        refine Ok.bind (meet_ok x y hx hy) ?_
        rintro _ rfl
        refine Ok.ret ?_
        rw [(bits_nat64 x y hx hy).1]
        simp only [Bool.true_and, Bool.and_true]
        rw [Bool.eq_iff_iff, decide_eq_true_iff, beq_iff_eq]
end Go.Proofs.Ytgfclechgalpmaa.Pure
/- Whom GuestsWho lists, in the program and in the reference. Condition: at most 2,000,000 guests. -/
namespace Go.Proofs.Ytgfclechgalpmaa.Pure
open Go.RowKit Go.Proofs.YtgfclechgalpmaaW.PrintWords Go.Proofs.YtgfclechgalpmaaW.PrintLast Go.Proofs.Ytgfclechgalpmaa.Q
set_option linter.unusedVariables false
set_option linter.unusedSimpArgs false

def gMay (s k : Int) (x : Gst) : Bool := mayB x.f0 x.f1 x.f2 s k
/-- whom GuestsWho lists, of the first i -/
def who (l : List Gst) (s k : Int) (i : Nat) : List Int := ((l.take i).filter (gMay s k)).map (·.f0)
theorem who_next (l : List Gst) (s k : Int) (i : Nat) (h : i < l.length) : who l s k (i + 1) = if gMay s k (gAt l i) = true then who l s k i ++ [(gAt l i).f0] else who l s k i := by
  unfold who
  rw [take_next z30 h, List.filter_append, List.map_append]
  by_cases hm : gMay s k (gAt l i) = true
  · have e : gMay s k (l.getD i z30) = true := hm
    rw [if_pos hm, List.filter_cons, if_pos e]; rfl
  · have e : ¬ gMay s k (l.getD i z30) = true := hm
    rw [if_neg hm, List.filter_cons, if_neg e]; simp
theorem who_len (l : List Gst) (s k : Int) (i : Nat) : (who l s k i).length ≤ l.length := by
  unfold who
  rw [List.length_map]
  refine Nat.le_trans (List.length_filter_le _ _) ?_
  rw [List.length_take]; omega
theorem iWho_ok (l : List Gst) (s k : Int) (hl : l.length ≤ 2000000) : Ok (fun n => impl_GuestsWho.f n l s k) (fun r => (GV l → r = who l s k l.length) ∧ (¬ GV l → r = [])) := by
  unfold impl_GuestsWho.f
  simp only [Option.bind_some]
  refine Ok.bind (iGuests_ok l hl) fun b hb => ?_
  refine Ok.ite (fun h => ?_) (fun h => Ok.ret ⟨fun h' => absurd (hb.2 h') h, fun _ => rfl⟩)
  refine Ok.range (fun (a : List Int) i n => impl_GuestsWho.l0 n s k a l (l.length : Int) i) l.length (fun i a => a = who l s k i) _ ?_ ?_ [] rfl
  · rintro i _ hi rfl ih
    have ew : wrap64 ((i : Int) + 1) = (i : Int) + 1 := wrap_id (by omega) (by omega)
    have hw := who_len l s k i
    refine Ok.step (fun k => by simp only [impl_GuestsWho.l0]; rfl) (Ok.pos (by omega) (Ok.pos (by omega) (Ok.pos (by omega) ?_)))
    simp only [iMay_eq, Option.bind_some, ew, gAt_rd]
    refine Ok.ite (fun h1 => Ok.pos (by omega) (ih _ ?_)) (fun h1 => ih _ ?_)
    · rw [who_next l s k i hi]; exact (if_pos h1).symm
    · rw [who_next l s k i hi]; exact (if_neg h1).symm
  · rintro _ rfl
    exact Ok.step (fun k => by simp only [impl_GuestsWho.l0]; rfl) (Ok.neg (by omega) (Ok.ret ⟨fun _ => rfl, fun h' => absurd (hb.1 h) h'⟩))
theorem sWho_ok (l : List Gst) (s k : Int) (hl : l.length ≤ 2000000) : Ok (fun n => spec_GuestsWho.f n l s k) (fun r => (GV l → r = who l s k l.length) ∧ (¬ GV l → r = [])) := by
  unfold spec_GuestsWho.f
  by_cases hv : GV l
  · refine Ok.range (fun (a : List Int) i n => spec_GuestsWho.l0 n l s k a i) l.length (fun i a => a = who l s k i) _ ?_ ?_ [] rfl
    · rintro i _ hi rfl ih
      have ew : wrap64 ((i : Int) + 1) = (i : Int) + 1 := wrap_id (by omega) (by omega)
      have hw := who_len l s k i
      refine Ok.step (fun k => by simp only [spec_GuestsWho.l0]; rfl) (Ok.pos (by omega) (Ok.bind (sGuests_ok l hl) fun b hb => ?_))
      refine Ok.step (fun k => by simp only [spec_GuestsWho.j1]; rfl) (Ok.pos (hb.2 hv) (Ok.pos (by omega) (Ok.pos (by omega) ?_)))
      simp only [gAt_rd]
      refine Ok.bind (sMay_ok _ _ _ _ _) ?_
      rintro _ rfl
      rw [ew]
      refine Ok.ite (fun h1 => Ok.pos (by omega) (ih _ ?_)) (fun h1 => ih _ ?_)
      · rw [who_next l s k i hi]; exact (if_pos h1).symm
      · rw [who_next l s k i hi]; exact (if_neg h1).symm
    · rintro _ rfl
      refine Ok.step (fun k => by simp only [spec_GuestsWho.l0]; rfl) (Ok.neg (by omega) ?_)
      exact Ok.step (fun k => by simp only [spec_GuestsWho.j1]; rfl) (Ok.neg (by simp) (Ok.ret ⟨fun _ => rfl, fun h' => absurd hv h'⟩))
  · refine Ok.step (fun k => by simp only [spec_GuestsWho.l0]; rfl) (Ok.ite (fun h => Ok.bind (sGuests_ok l hl) fun b hb => ?_) (fun h => ?_))
    · refine Ok.step (fun k => by simp only [spec_GuestsWho.j1]; rfl) (Ok.neg (fun h => hv (hb.1 h)) (Ok.ret ⟨fun h' => absurd h' hv, fun _ => rfl⟩))
    · exact Ok.step (fun k => by simp only [spec_GuestsWho.j1]; rfl) (Ok.neg (by simp) (Ok.ret ⟨fun h' => absurd h' hv, fun _ => rfl⟩))
end Go.Proofs.Ytgfclechgalpmaa.Pure
/- The reader of draws: each pick answers a number in its range and goes one place on. Condition: the bytes are bytes. -/
namespace Go.Proofs.Ytgfclechgalpmaa.Pure
open Go.RowKit Go.Proofs.YtgfclechgalpmaaW.PrintWords Go.Proofs.YtgfclechgalpmaaW.PrintLast Go.Proofs.Ytgfclechgalpmaa.Q
set_option linter.unusedVariables false
set_option linter.unusedSimpArgs false

def Bytes (b : List Int) : Prop := ∀ x ∈ b, 0 ≤ x ∧ x ≤ 255
theorem rd_byte {b : List Int} (h : Bytes b) (i : Int) : 0 ≤ rd b i ∧ rd b i ≤ 255 := by
  unfold rd
  rw [List.getD_eq_getElem?_getD]
  by_cases hi : i.toNat < b.length
  · rw [List.getElem?_eq_getElem hi]
    exact h _ (List.getElem_mem hi)
  · rw [List.getElem?_eq_none (by omega)]
    simp
theorem xor_nonneg (x y : Int) (hx : 0 ≤ x) (hx' : x < 4611686018427387904) (hy : 0 ≤ y) (hy' : y < 4611686018427387904) : 0 ≤ Go.bits .xor .i64 x y := by
  obtain ⟨a, rfl⟩ := Int.eq_ofNat_of_zero_le hx
  obtain ⟨b, rfl⟩ := Int.eq_ofNat_of_zero_le hy
  have ha : a < 2 ^ 62 := by omega
  have hb : b < 2 ^ 62 := by omega
  have hx := Nat.xor_lt_two_pow ha hb
  have ha' : a % 2 ^ 64 = a := Nat.mod_eq_of_lt (by omega)
  have hb' : b % 2 ^ 64 = b := Nat.mod_eq_of_lt (by omega)
  show 0 ≤ IntKind.i64.wrap ((BitVec.ofInt 64 (a : Int) ^^^ BitVec.ofInt 64 (b : Int)).toNat : Int)
  rw [IntKind.wrap_i64]
  simp only [BitVec.ofInt_natCast, BitVec.toNat_xor, BitVec.toNat_ofNat, ha', hb']
  omega
theorem mix_range (r1 r2 p t : Int) (h1 : 0 ≤ r1 ∧ r1 ≤ 255) (h2 : 0 ≤ r2 ∧ r2 ≤ 255) (hp : 0 ≤ p ∧ p ≤ 1099511627776) (ht : 0 ≤ t ∧ t ≤ 1099511627776) :
    wrap64 ((wrap64 ((wrap64 ((wrap64 ((wrap64 r1) * 131)) + (wrap64 ((wrap64 r2) * 1117)))) + (wrap64 (p * 29)))) + (wrap64 ((wrap64 t) * 53))) = r1 * 131 + r2 * 1117 + p * 29 + t * 53 := by
  rw [wrap_id (n := r1) (by omega) (by omega), wrap_id (n := r2) (by omega) (by omega), wrap_id (n := t) (by omega) (by omega)]
  rw [wrap_id (n := r1 * 131) (by omega) (by omega), wrap_id (n := r2 * 1117) (by omega) (by omega), wrap_id (n := p * 29) (by omega) (by omega), wrap_id (n := t * 53) (by omega) (by omega)]
  rw [wrap_id (n := r1 * 131 + r2 * 1117) (by omega) (by omega), wrap_id (n := r1 * 131 + r2 * 1117 + p * 29) (by omega) (by omega), wrap_id (by omega) (by omega)]
theorem tmod_range (x n : Int) (hx : 0 ≤ x) (hn : 1 ≤ n) : 0 ≤ Int.tmod x n ∧ Int.tmod x n < n :=
  ⟨Int.tmod_nonneg _ hx, Int.tmod_lt_of_pos _ (by omega)⟩
theorem tdiv_range (x n : Int) (hx : 0 ≤ x) (hn : 1 ≤ n) : 0 ≤ Int.tdiv x n ∧ Int.tdiv x n ≤ x := by
  refine ⟨Int.tdiv_nonneg hx (by omega), ?_⟩
  rw [Int.tdiv_eq_ediv_of_nonneg hx]
  exact Int.ediv_le_self _ hx

/-- What a pick says. -/
def Picked (p n : Int) (r : Int × Int) : Prop := r.2 = p + 1 ∧ 0 ≤ r.1 ∧ (1 ≤ n → r.1 < n) ∧ (n < 1 → r.1 = 0)
theorem pick_ok (b : List Int) (p n : Int) (hb : Bytes b) (hp : 0 ≤ p) (hp' : p ≤ 1099511627776) (hn : n ≤ 1000000000) : Ok (fun k => spec_l6Rd_pick.f k b p n) (Picked p n) := by
  unfold spec_l6Rd_pick.f
  rw [wrap_id (n := p + 1) (by omega) (by omega)]
  by_cases h1 : n < 1
  · refine Ok.pos h1 (Ok.step (fun k => by simp only [spec_l6Rd_pick.j0, if_true]; rfl) (Ok.ret ⟨rfl, by simp, fun h => absurd h (by omega), fun _ => rfl⟩))
  refine Ok.neg h1 ?_
  by_cases hl : (b.length : Int) = 0
  · rw [show ((b.length : Int) == 0) = true by simpa using hl]
    refine Ok.step (fun k => by simp only [spec_l6Rd_pick.j0, if_true]; rfl) (Ok.ret ⟨rfl, by simp, fun h => by omega, fun _ => rfl⟩)
  rw [show ((b.length : Int) == 0) = false by simpa using hl]
  have hlp : 1 ≤ (b.length : Int) := by omega
  refine Ok.step (f := _) (fun k => by simp only [spec_l6Rd_pick.j0]; rfl) ?_
  refine Ok.neg (by simp) ?_
  rw [show p + 1 - 1 = p by omega, wrap_id (n := p) (by omega) (by omega)]
  by_cases hlt : p < (b.length : Int)
  · refine Ok.pos hlt (Ok.pos hp (Ok.neg (by omega) (Ok.ret ?_)))
    have hr := rd_byte hb p
    rw [wrap_id (n := rd b p) (by omega) (by omega)]
    have := tmod_range (rd b p) n hr.1 (by omega)
    exact ⟨rfl, this.1, fun _ => this.2, fun h => absurd h h1⟩
  · have hm := tmod_range p b.length hp hlp
    have hq : wrap64 ((wrap64 (p * 7)) + 3) = p * 7 + 3 := by
      rw [wrap_id (n := p * 7) (by omega) (by omega), wrap_id (by omega) (by omega)]
    have hm2 := tmod_range (p * 7 + 3) b.length (by omega) hlp
    have ht := tdiv_range p b.length hp hlp
    rw [hq]
    refine Ok.neg hlt (Ok.neg hl (Ok.pos hm.1 (Ok.pos hm.2 (Ok.pos hm2.1 (Ok.pos hm2.2 (Ok.neg (by omega) (Ok.ret ?_)))))))
    rw [mix_range _ _ p _ (rd_byte hb _) (rd_byte hb _) ⟨hp, hp'⟩ ⟨ht.1, by omega⟩]
    have a1 := rd_byte hb (Int.tmod p b.length)
    have a2 := rd_byte hb (Int.tmod (p * 7 + 3) b.length)
    generalize rd b (Int.tmod p b.length) = r1 at *
    generalize rd b (Int.tmod (p * 7 + 3) b.length) = r2 at *
    generalize Int.tdiv p b.length = t at *
    have hx : 0 ≤ r1 * 131 + r2 * 1117 + p * 29 + t * 53 := by omega
    have hx' : r1 * 131 + r2 * 1117 + p * 29 + t * 53 < 4611686018427387904 := by omega
    generalize r1 * 131 + r2 * 1117 + p * 29 + t * 53 = x at *
    have h64 := tdiv_range x 64 hx (by omega)
    rw [wrap_id (n := Int.tdiv x 64) (by omega) (by omega)]
    have := tmod_range (Go.bits .xor .i64 x (Int.tdiv x 64)) n (xor_nonneg _ _ hx hx' h64.1 (by omega)) (by omega)
    exact ⟨rfl, this.1, fun _ => this.2, fun h => absurd h h1⟩
/-- The same, the number of answers at least one. -/
def Pk (p n : Int) (r : Int × Int) : Prop := r.2 = p + 1 ∧ 0 ≤ r.1 ∧ r.1 < n
theorem pick_in (b : List Int) (p n : Int) (hb : Bytes b) (hp : 0 ≤ p) (hp' : p ≤ 1099511627776) (hn : 1 ≤ n) (hn' : n ≤ 1000000000) : Ok (fun k => spec_l6Rd_pick.f k b p n) (Pk p n) :=
  (pick_ok b p n hb hp hp' hn').mono fun _ h => ⟨h.1, h.2.1, h.2.2.1 hn⟩
/-- a place that went on by some, not far -/
def On (p : Int) (m : Int) (q : Int) : Prop := p ≤ q ∧ q ≤ p + m
theorem open_ok (l : List Int) (hl : ∀ x ∈ l, (Lit.int .u8 x).wf = true) : ∃ b, spec_l6Open.f l = some (b, 0) ∧ Bytes b := by
  have hb : Bytes l := fun x hx => wfu8 (hl x hx)
  unfold spec_l6Open.f
  by_cases h : (l.length : Int) > 2000
  · rw [if_pos h, if_pos (by omega)]
    exact ⟨_, rfl, fun x hx => hb x (List.mem_of_mem_take hx)⟩
  · rw [if_neg h]
    exact ⟨_, rfl, hb⟩
end Go.Proofs.Ytgfclechgalpmaa.Pure
/- A drawn guest. Condition: the bytes are bytes. -/
namespace Go.Proofs.Ytgfclechgalpmaa.Pure
open Go.RowKit Go.Proofs.YtgfclechgalpmaaW.PrintWords Go.Proofs.YtgfclechgalpmaaW.PrintLast Go.Proofs.Ytgfclechgalpmaa.Q
set_option linter.unusedVariables false
set_option linter.unusedSimpArgs false

theorem l91Guest_ok (b : List Int) (p a : Int) (hB : Bytes b) (hp : 0 ≤ p) (hp' : p ≤ 1000000) (ha : 0 ≤ a ∧ a ≤ 1000) : Ok (fun k => spec_l91Guest.f k b p a) (fun r => On p 12 r.2.2.2) := by
  unfold spec_l91Guest.f
  refine Ok.bind (pick_in b p 4 hB hp (by omega) (by omega) (by omega)) ?_
  rintro ⟨v, p1⟩ ⟨rfl, h0, h1⟩
  simp only at h0 h1 ⊢
  have key := Ok.range (fun (s : Int × Int × Int × Int) i k => spec_l91Guest.l0 k i b s.1 s.2.1 s.2.2.1 s.2.2.2) 8 (fun i s => p + 1 ≤ s.1 ∧ s.1 ≤ p + 1 + i) (fun r => On p 12 r.2.2.2) ?_ ?_ (p + 1, a, wrap64 (1 + v), 0) (by simp)
  · exact key
  · rintro i ⟨q, x, y, z⟩ hi hs ih
    simp only at hs ih ⊢
    have ew : wrap64 ((i : Int) + 1) = (i : Int) + 1 := wrap_id (by omega) (by omega)
    refine Ok.step (fun k => by simp only [spec_l91Guest.l0]; rfl) (Ok.pos (by omega) (Ok.bind (pick_in b q 6 hB (by omega) (by omega) (by omega) (by omega)) ?_))
    rintro ⟨v2, q2⟩ ⟨rfl, h2, h3⟩
    simp only at h2 h3 ⊢
    rw [ew]
    refine Ok.ite (fun _ => Ok.bind (weight_ok i (by omega)) fun w _ => ih (q + 1, x, y, _) (by simp only; omega)) (fun _ => ih (q + 1, x, y, z) (by simp only; omega))
  · rintro ⟨q, x, y, z⟩ hs
    simp only at hs ⊢
    refine Ok.step (fun k => by simp only [spec_l91Guest.l0]; rfl) (Ok.neg (by omega) (Ok.bind (pick_in b q 60 hB (by omega) (by omega) (by omega) (by omega)) ?_))
    rintro ⟨v2, q2⟩ ⟨rfl, h2, h3⟩
    simp only at h2 h3 ⊢
    refine Ok.ite (fun _ => Ok.bind (pick_in b _ 2 hB (by omega) (by omega) (by omega) (by omega)) ?_) (fun _ => Ok.ite (fun _ => ?_) (fun _ => Ok.ret ⟨by simp only; omega, by simp only; omega⟩))
    · rintro ⟨v3, q3⟩ ⟨rfl, h4, h5⟩
      exact Ok.ret ⟨by simp only; omega, by simp only; omega⟩
    · simp only [Option.bind_some]
      refine Ok.bind (pick_in b _ 3 hB (by omega) (by omega) (by omega) (by omega)) ?_
      rintro ⟨v3, q3⟩ ⟨rfl, h4, h5⟩
      simp only at h4 h5 ⊢
      exact Ok.pos h4 (Ok.pos (by simpa using h5) (Ok.ret ⟨by simp only; omega, by simp only; omega⟩))
end Go.Proofs.Ytgfclechgalpmaa.Pure
/- Drawn guests: at most 11. Condition: the bytes are bytes. -/
namespace Go.Proofs.Ytgfclechgalpmaa.Pure
open Go.RowKit Go.Proofs.YtgfclechgalpmaaW.PrintWords Go.Proofs.YtgfclechgalpmaaW.PrintLast Go.Proofs.Ytgfclechgalpmaa.Q
set_option linter.unusedVariables false
set_option linter.unusedSimpArgs false

theorem l91Guests_ok (b : List Int) (p : Int) (hB : Bytes b) (hp : 0 ≤ p) (hp' : p ≤ 100000) : Ok (fun k => spec_l91Guests.f k b p) (fun r => r.1.length ≤ 11 ∧ On p 400 r.2) := by
  unfold spec_l91Guests.f
  simp only [Option.bind_some]
  have loop : ∀ (n : Nat) (q : Int), n ≤ 11 → p ≤ q → q ≤ p + 3 → Ok (fun k => spec_l91Guests.j0 k [] (n : Int) b q) (fun r => r.1.length ≤ 11 ∧ On p 400 r.2) := by
    intro n q hn hq hq'
    refine Ok.step (fun k => by simp only [spec_l91Guests.j0]; rfl) ?_
    refine Ok.range (fun (s : List S30 × Int) i k => spec_l91Guests.l0 k s.1 (n : Int) i b s.2) n (fun i s => s.1.length = i ∧ q ≤ s.2 ∧ s.2 ≤ q + 13 * i) _ ?_ ?_ ([], q) (by simp)
    · rintro i ⟨xs, q1⟩ hi ⟨h1, h2, h3⟩ ih
      simp only at h1 h2 h3 ih ⊢
      refine Ok.step (fun k => by simp only [spec_l91Guests.l0]; rfl) (Ok.pos (by omega) (Ok.bind (pick_in b q1 2 hB (by omega) (by omega) (by omega) (by omega)) ?_))
      rintro ⟨v, q2⟩ ⟨rfl, h4, h5⟩
      simp only at h4 h5 ⊢
      have ew : wrap64 ((i : Int) + 1) = (i : Int) + 1 := wrap_id (by omega) (by omega)
      have ew2 : wrap64 (wrap64 (wrap64 (2 * (i : Int)) + 1) + v) = 2 * (i : Int) + 1 + v := by
        rw [wrap_id (n := 2 * (i : Int)) (by omega) (by omega), wrap_id (n := 2 * (i : Int) + 1) (by omega) (by omega), wrap_id (by omega) (by omega)]
      rw [ew, ew2]
      refine Ok.bind (l91Guest_ok b _ _ hB (by omega) (by omega) (by omega)) ?_
      rintro ⟨x, y, z, q3⟩ ⟨h6, h7⟩
      simp only at h6 h7 ⊢
      exact Ok.pos (by omega) (ih (_, _) ⟨by simp [h1], by simp only; omega, by simp only; omega⟩)
    · rintro ⟨xs, q1⟩ ⟨h1, h2, h3⟩
      simp only at h1 h2 h3 ⊢
      exact Ok.step (fun k => by simp only [spec_l91Guests.l0]; rfl) (Ok.neg (by omega) (Ok.ret ⟨by simp only; omega, by constructor <;> simp only <;> omega⟩))
  refine Ok.bind (pick_in b p 8 hB (by omega) (by omega) (by omega) (by omega)) ?_
  rintro ⟨v, q⟩ ⟨rfl, h0, h1⟩
  simp only at h0 h1 ⊢
  refine Ok.bind (pick_in b _ 20 hB (by omega) (by omega) (by omega) (by omega)) ?_
  rintro ⟨v2, q⟩ ⟨rfl, h2, h3⟩
  simp only at h2 h3 ⊢
  refine Ok.ite (fun _ => Ok.bind (pick_in b _ 2 hB (by omega) (by omega) (by omega) (by omega)) ?_) (fun _ => ?_)
  · rintro ⟨v3, q⟩ ⟨rfl, h4, h5⟩
    simp only at h4 h5 ⊢
    have := loop (10 + v3.toNat) (p + 1 + 1 + 1) (by omega) (by omega) (by omega)
    rw [wrap_id (n := 10 + v3) (by omega) (by omega)]
    rwa [show ((10 + v3.toNat : Nat) : Int) = 10 + v3 by omega] at this
  · have := loop v.toNat (p + 1 + 1) (by omega) (by omega) (by omega)
    rwa [show ((v.toNat : Nat) : Int) = v by omega] at this
end Go.Proofs.Ytgfclechgalpmaa.Pure
/- A drawn set. Condition: the bytes are bytes. -/
namespace Go.Proofs.Ytgfclechgalpmaa.Pure
open Go.RowKit Go.Proofs.YtgfclechgalpmaaW.PrintWords Go.Proofs.YtgfclechgalpmaaW.PrintLast Go.Proofs.Ytgfclechgalpmaa.Q
set_option linter.unusedVariables false
set_option linter.unusedSimpArgs false

theorem l91Set_ok (b : List Int) (p : Int) (hB : Bytes b) (hp : 0 ≤ p) (hp' : p ≤ 1000000) : Ok (fun k => spec_l91Set.f k b p) (fun r => On p 10 r.2) := by
  unfold spec_l91Set.f
  refine Ok.bind (pick_in b p 24 hB (by omega) (by omega) (by omega) (by omega)) ?_
  rintro ⟨v, q⟩ ⟨rfl, h0, h1⟩
  simp only [Option.bind_some] at h0 h1 ⊢
  refine Ok.ite (fun _ => Ok.bind (pick_in b _ 3 hB (by omega) (by omega) (by omega) (by omega)) ?_) (fun _ => ?_)
  · rintro ⟨v3, q⟩ ⟨rfl, h4, h5⟩
    simp only at h4 h5 ⊢
    exact Ok.pos h4 (Ok.pos (by simpa using h5) (Ok.ret ⟨by simp only; omega, by simp only; omega⟩))
  · refine Ok.range (fun (s : Int × Int) i k => spec_l91Set.l0 k s.1 i b s.2) 8 (fun i s => p + 1 ≤ s.2 ∧ s.2 ≤ p + 1 + i) _ ?_ ?_ (0, p + 1) (by simp)
    · rintro i ⟨x, q⟩ hi hs ih
      simp only at hs ih ⊢
      have ew : wrap64 ((i : Int) + 1) = (i : Int) + 1 := wrap_id (by omega) (by omega)
      refine Ok.step (fun k => by simp only [spec_l91Set.l0]; rfl) (Ok.pos (by omega) (Ok.bind (pick_in b q 4 hB (by omega) (by omega) (by omega) (by omega)) ?_))
      rintro ⟨v2, q2⟩ ⟨rfl, h2, h3⟩
      simp only at h2 h3 ⊢
      rw [ew]
      exact Ok.ite (fun _ => Ok.bind (weight_ok i (by omega)) fun w _ => ih (_, q + 1) (by simp only; omega)) (fun _ => ih (_, q + 1) (by simp only; omega))
    · rintro ⟨x, q⟩ hs
      simp only at hs ⊢
      exact Ok.step (fun k => by simp only [spec_l91Set.l0]; rfl) (Ok.neg (by omega) (Ok.ret ⟨by simp only; omega, by simp only; omega⟩))
end Go.Proofs.Ytgfclechgalpmaa.Pure
/- Lists, read and written element by element. No conditions. -/
namespace Go.Proofs.Ytgfclechgalpmaa.Pure
open Go.RowKit Go.Proofs.YtgfclechgalpmaaW.PrintWords Go.Proofs.YtgfclechgalpmaaW.PrintLast
set_option linter.unusedVariables false
set_option linter.unusedSimpArgs false

theorem rd_nat (l : List Int) (i : Nat) : rd l (i : Int) = l.getD i 0 := rfl
theorem eq_of_getD {α : Type} {a b : List α} (d : α) (h : a.length = b.length) (k : ∀ i, i < a.length → a.getD i d = b.getD i d) : a = b := by
  refine List.ext_getElem h fun i h1 h2 => ?_
  have := k i h1
  rwa [getD_at _ _ _ h1, getD_at _ _ _ h2] at this
theorem getD_set {α : Type} (l : List α) (d v : α) (i j : Nat) (hi : i < l.length) : (l.set i v).getD j d = if j = i then v else l.getD j d := by
  rw [List.getD_eq_getElem?_getD, List.getElem?_set]
  by_cases h : i = j
  · subst h; simp [hi]
  · rw [if_neg h, if_neg (fun e => h e.symm), ← List.getD_eq_getElem?_getD]
theorem getD_snoc {α : Type} (l : List α) (d v : α) (j : Nat) : (l ++ [v]).getD j d = if j = l.length then v else l.getD j d := by
  rw [List.getD_eq_getElem?_getD, List.getElem?_append]
  by_cases h : j < l.length
  · rw [if_pos h, if_neg (by omega), ← List.getD_eq_getElem?_getD]
  · rw [if_neg h]
    by_cases e : j = l.length
    · subst e; simp
    · rw [if_neg e, List.getElem?_eq_none (by simp; omega), List.getD_eq_getElem?_getD, List.getElem?_eq_none (by omega)]
end Go.Proofs.Ytgfclechgalpmaa.Pure
/- Lists of whole numbers. Condition: at most 2,000,000 elements. -/
namespace Go.Proofs.Ytgfclechgalpmaa.Pure
open Go.RowKit Go.Proofs.YtgfclechgalpmaaW.PrintWords Go.Proofs.YtgfclechgalpmaaW.PrintLast Go.Proofs.Ytgfclechgalpmaa.Q
set_option linter.unusedVariables false
set_option linter.unusedSimpArgs false

theorem sameInts_ok (a b : List Int) (hl : a.length ≤ 2000000) : Ok (fun k => laws_sameInts.f k a b) (fun r => r = true ↔ a = b) := by
  unfold laws_sameInts.f
  by_cases h : a.length = b.length
  · refine Ok.pos (by omega) ?_
    refine Ok.range (fun (_ : Unit) i k => laws_sameInts.l0 k a b i) a.length (fun i _ => ∀ j, j < i → a.getD j 0 = b.getD j 0) _ ?_ ?_ () (fun j hj => absurd hj (by omega))
    · intro i _ hi hinv ih
      have ew : wrap64 ((i : Int) + 1) = (i : Int) + 1 := wrap_id (by omega) (by omega)
      refine Ok.step (fun k => by simp only [laws_sameInts.l0]; rfl) (Ok.pos (by omega) (Ok.pos (by omega) (Ok.pos (by omega) ?_)))
      rw [ew, rd_nat, rd_nat]
      refine Ok.ite (fun h1 => ih () fun j hj => ?_) (fun h1 => Ok.ret ⟨fun h' => (by cases h'), fun h' => absurd (by rw [h']) h1⟩)
      rcases Nat.lt_succ_iff_lt_or_eq.1 hj with h2 | rfl
      · exact hinv j h2
      · exact h1
    · intro _ hinv
      exact Ok.step (fun k => by simp only [laws_sameInts.l0]; rfl) (Ok.neg (by omega) (Ok.ret ⟨fun _ => eq_of_getD 0 h hinv, fun _ => rfl⟩))
  · exact Ok.neg (by omega) (Ok.ret ⟨fun h' => (by cases h'), fun h' => absurd (by rw [h']) h⟩)
end Go.Proofs.Ytgfclechgalpmaa.Pure
/- Lists of whole numbers. Condition: at most 2,000,000 elements. -/
namespace Go.Proofs.Ytgfclechgalpmaa.Pure
open Go.RowKit Go.Proofs.YtgfclechgalpmaaW.PrintWords Go.Proofs.YtgfclechgalpmaaW.PrintLast Go.Proofs.Ytgfclechgalpmaa.Q
set_option linter.unusedVariables false
set_option linter.unusedSimpArgs false

theorem hasInt_ok (a : List Int) (n : Int) (hl : a.length ≤ 2000000) : Ok (fun k => laws_hasInt.f k a n) (fun r => r = true ↔ n ∈ a) := by
  unfold laws_hasInt.f
  refine Ok.range (fun (_ : Unit) i k => laws_hasInt.l0 k a n i) a.length (fun i _ => ∀ j, j < i → a.getD j 0 ≠ n) _ ?_ ?_ () (fun j hj => absurd hj (by omega))
  · intro i _ hi hinv ih
    have ew : wrap64 ((i : Int) + 1) = (i : Int) + 1 := wrap_id (by omega) (by omega)
    refine Ok.step (fun k => by simp only [laws_hasInt.l0]; rfl) (Ok.pos (by omega) (Ok.pos (by omega) ?_))
    rw [ew, rd_nat]
    refine Ok.ite (fun h1 => Ok.ret ⟨fun _ => ?_, fun _ => rfl⟩) (fun h1 => ih () fun j hj => ?_)
    · rw [← h1, getD_at _ _ _ hi]; exact List.getElem_mem hi
    · rcases Nat.lt_succ_iff_lt_or_eq.1 hj with h2 | rfl
      · exact hinv j h2
      · exact h1
  · intro _ hinv
    refine Ok.step (fun k => by simp only [laws_hasInt.l0]; rfl) (Ok.neg (by omega) (Ok.ret ⟨fun h => (by cases h), fun h => ?_⟩))
    obtain ⟨j, hj, e⟩ := List.mem_iff_getElem.1 h
    exact absurd (by rw [getD_at _ _ _ hj]; exact e) (hinv j hj)
end Go.Proofs.Ytgfclechgalpmaa.Pure
/- More allergens are for fewer guests: the law comes to true for every input. No conditions. -/
namespace Go.Proofs.Ytgfclechgalpmaa.Pure
open Go.RowKit Go.Proofs.YtgfclechgalpmaaW.PrintWords Go.Proofs.YtgfclechgalpmaaW.PrintLast Go.Proofs.Ytgfclechgalpmaa.Q
set_option linter.unusedVariables false
set_option linter.unusedSimpArgs false
theorem drawGuestsWho_ok (l : List Int) (hl : ∀ x ∈ l, (Lit.int .u8 x).wf = true) : Ok (fun k => spec_DrawGuestsWho.f k l) (fun r => r.1.length ≤ 11) := by
  unfold spec_DrawGuestsWho.f
  obtain ⟨b, hb, hB⟩ := open_ok l hl
  simp only [hb, Option.bind_some]
  refine Ok.bind (l91Guests_ok b 0 hB (by omega) (by omega)) ?_
  rintro ⟨xs, q⟩ ⟨h0, h1, h2⟩
  simp only at h0 h1 h2 ⊢
  refine Ok.bind (l91Set_ok b _ hB (by omega) (by omega)) ?_
  rintro ⟨s, q3⟩ ⟨h6, h7⟩
  simp only at h6 h7 ⊢
  exact Ok.bind (pick_in b _ 6 hB (by omega) (by omega) (by omega) (by omega)) fun _ _ => Ok.ret h0
theorem mem_who (l : List Gst) (s k n : Int) : n ∈ who l s k l.length ↔ ∃ x ∈ l, gMay s k x = true ∧ x.f0 = n := by
  unfold who
  simp [List.take_length, and_assoc]
theorem may_less (x y z s m k : Int) (hm : 0 ≤ m ∧ m ≤ 255) (hs : 0 ≤ s ∧ s ≤ 255) (h : mayB x y z (Go.bits .or .i64 s m) k = true) : mayB x y z s k = true := by
  simp only [mayB, Bool.and_eq_true, decide_eq_true_iff] at h ⊢
  obtain ⟨⟨⟨h1, h2⟩, h3⟩, h4⟩ := h
  refine ⟨⟨⟨h1, (inr_iff _ _ _).2 hs⟩, ?_⟩, h4⟩
  obtain ⟨a, rfl, ha⟩ := set_nat ((gB_iff _ _ _).1 h1).2.2
  obtain ⟨b, rfl, hb⟩ := set_nat hs
  obtain ⟨c, rfl, hc⟩ := set_nat hm
  have hbc : b ||| c < 256 := Nat.or_lt_two_pow (n := 8) hb hc
  rw [(bits_nat64 b c hb hc).2, (bits_nat64 a _ ha hbc).1] at h3
  rw [(bits_nat64 a b ha hb).1]
  have h5 : a &&& (b ||| c) = 0 := by omega
  have h6 : a &&& b = 0 := by
    rw [Nat.and_or_distrib_left] at h5
    exact (Nat.or_eq_zero_iff.1 h5).1
  rw [h6]; rfl
theorem FnGuestsWhoMore : laws_FnGuestsWhoMore.Pure := by
  intro l m _ _ hl _ _ _
  apply Ok.rounds
  unfold laws_FnGuestsWhoMore.f
  have main : ∀ c : Bool, ((m.length : Int) > 1048576 → c = true) → Ok (fun k => laws_FnGuestsWhoMore.j0 k l m c) (· = true) := by
    intro c hc
    refine Ok.step (fun k => by simp only [laws_FnGuestsWhoMore.j0]; rfl) (Ok.ite (fun _ => Ok.ret rfl) fun hcf => Ok.bind (drawGuestsWho_ok l hl) ?_)
    rintro ⟨xs, s, k⟩ hx
    simp only at hx ⊢
    refine Ok.bind (iWho_ok xs s k (by omega)) fun r1 hr1 => Ok.bind (sWho_ok xs s k (by omega)) fun r2 hr2 => ?_
    have he : r1 = r2 := by
      by_cases hv : GV xs
      · rw [hr1.1 hv, hr2.1 hv]
      · rw [hr1.2 hv, hr2.2 hv]
    subst he
    have hlen : r1.length ≤ 2000000 := by
      by_cases hv : GV xs
      · have := who_len xs s k xs.length; rw [hr1.1 hv]; omega
      · rw [hr1.2 hv]; simp
    refine Ok.bind (sameInts_ok r1 r1 hlen) fun b hb => Ok.pos (hb.2 rfl) ?_
    refine Ok.step (fun k => by simp only [laws_FnGuestsWhoMore.j1]; rfl) (Ok.ite (fun _ => Ok.bind (sameInts_ok r1 r1 hlen) fun b hb => Ok.ret (hb.2 rfl)) fun h => ?_)
    have hne : r1 ≠ [] := fun e => h (by rw [e]; rfl)
    have hv : GV xs := Classical.byContradiction fun hn => hne (hr1.2 hn)
    have hr := hr1.1 hv
    have hs : 0 ≤ s ∧ s ≤ 255 := by
      obtain ⟨n, hn⟩ := List.exists_mem_of_ne_nil r1 hne
      rw [hr, mem_who] at hn
      obtain ⟨x, _, hm, _⟩ := hn
      simp only [gMay, mayB, Bool.and_eq_true] at hm
      exact (inr_iff _ _ _).1 hm.1.1.2
    have hm0 : 0 ≤ (m.length : Int) % 256 ∧ (m.length : Int) % 256 ≤ 255 := by omega
    have e1 : inr s 0 255 = true := (inr_iff _ _ _).2 hs
    have e2 : inr ((m.length : Int) % 256) 0 255 = true := (inr_iff _ _ _).2 hm0
    simp only [impl_AllergensJoin.f, isSet_eq, e1, e2, Option.bind_some, if_true]
    refine Ok.bind (iWho_ok xs _ k (by omega)) fun r2 hr2 => ?_
    have hr2' := hr2.1 hv
    have hlen2 := who_len xs (Go.bits .or .i64 s ((m.length : Int) % 256)) k xs.length
    rw [← hr2'] at hlen2
    refine Ok.range (fun (_ : Unit) i k_ => laws_FnGuestsWhoMore.l0 k_ r1 r2 i) r2.length (fun i _ => True) _ ?_ ?_ () trivial
    · intro i _ hi _ ih
      have ew : wrap64 ((i : Int) + 1) = (i : Int) + 1 := wrap_id (by omega) (by omega)
      refine Ok.step (fun k => by simp only [laws_FnGuestsWhoMore.l0]; rfl) (Ok.pos (by omega) (Ok.pos (by omega) (Ok.bind (hasInt_ok r1 _ hlen) fun b hb => Ok.pos (hb.2 ?_) ?_)))
      · rw [rd_nat, getD_at _ _ _ hi]
        have hmem := List.getElem_mem hi
        generalize r2[i] = n at hmem
        rw [hr2', mem_who] at hmem
        obtain ⟨x, hx1, hx2, hx3⟩ := hmem
        rw [hr, mem_who]
        exact ⟨x, hx1, may_less _ _ _ _ _ _ hm0 hs hx2, hx3⟩
      · rw [ew]; exact ih () trivial
    · intro _ _
      exact Ok.step (fun k => by simp only [laws_FnGuestsWhoMore.l0]; rfl) (Ok.neg (by omega) (Ok.ret rfl))
  exact Ok.ite (fun _ => main true (fun _ => rfl)) (fun _ => main _ (fun h => decide_eq_true h))
end Go.Proofs.Ytgfclechgalpmaa.Pure
