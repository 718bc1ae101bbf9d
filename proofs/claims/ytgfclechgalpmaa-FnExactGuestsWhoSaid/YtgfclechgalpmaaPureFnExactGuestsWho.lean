/- The program's GuestsWho returns what the reference's returns, for all arguments. No conditions. -/
import Derived.Test.YtgfclechgalpmaaWMore
import Derived.Test.YtgfclechgalpmaaQx1
import Derived.Test.YtgfclechgalpmaaQx8
import Derived.Test.YtgfclechgalpmaaQx2
import Derived.Test.YtgfclechgalpmaaQx14
import Derived.Test.YtgfclechgalpmaaQx15
import Derived.Test.YtgfclechgalpmaaQx9
import Derived.Test.YtgfclechgalpmaaQx10
import Derived.Test.YtgfclechgalpmaaQx25
import Derived.Test.YtgfclechgalpmaaQx13
import Derived.Test.YtgfclechgalpmaaQx27
/- Plain logic for printed functions: from some number of rounds on a function answers, and its answer fits. No conditions. -/
namespace Go.Proofs.Ytgfclechgalpmaa.Pure
open Go.RowKit Go.Proofs.YtgfclechgalpmaaW.PrintWords Go.Proofs.YtgfclechgalpmaaW.PrintLast

/-- g answers from some number of rounds on, and the answer is as Q says. -/
def Ok {α : Type} (g : Nat → Option α) (Q : α → Prop) : Prop := ∃ r, Ev g r ∧ Q r
theorem Ok.ret {α : Type} {r : α} {Q : α → Prop} (h : Q r) : Ok (fun _ => some r) Q := ⟨r, Ev.now r, h⟩
theorem Ok.of_eq {α : Type} {o : Option α} {r : α} {Q : α → Prop} (e : o = some r) (h : Q r) : Ok (fun _ => o) Q := by subst e; exact Ok.ret h
theorem Ok.bind {α β : Type} {g : Nat → Option α} {f : Nat → α → Option β} {P : α → Prop} {Q : β → Prop} (h : Ok g P) (k : ∀ a, P a → Ok (fun n => f n a) Q) : Ok (fun n => (g n).bind (f n)) Q := by
  obtain ⟨a, ha, hp⟩ := h
  obtain ⟨r, hr, hq⟩ := k a hp
  exact ⟨r, Ev.bind ha hr, hq⟩
theorem Ok.val {α β : Type} {a : α} {f : Nat → α → Option β} {Q : β → Prop} (h : Ok (fun n => f n a) Q) : Ok (fun n => (some a).bind (f n)) Q := h
theorem Ok.pos {α : Type} {c : Prop} [Decidable c] {t e : Nat → Option α} {Q : α → Prop} (hc : c) (h : Ok t Q) : Ok (fun n => if c then t n else e n) Q := by simpa only [if_pos hc] using h
theorem Ok.neg {α : Type} {c : Prop} [Decidable c] {t e : Nat → Option α} {Q : α → Prop} (hc : ¬ c) (h : Ok e Q) : Ok (fun n => if c then t n else e n) Q := by simpa only [if_neg hc] using h
theorem Ok.ite {α : Type} {c : Prop} [Decidable c] {t e : Nat → Option α} {Q : α → Prop} (h : c → Ok t Q) (k : ¬ c → Ok e Q) : Ok (fun n => if c then t n else e n) Q := by
  by_cases hc : c
  · exact Ok.pos hc (h hc)
  · exact Ok.neg hc (k hc)
theorem Ok.step {α : Type} {g f : Nat → Option α} {Q : α → Prop} (h : ∀ k, g (k + 1) = f k) (k : Ok f Q) : Ok g Q := by
  obtain ⟨r, hr, hq⟩ := k
  exact ⟨r, Ev.step h hr, hq⟩
theorem Ok.congr {α : Type} {g f : Nat → Option α} {Q : α → Prop} (h : ∀ k, g k = f k) (k : Ok f Q) : Ok g Q := by
  obtain ⟨r, hr, hq⟩ := k
  exact ⟨r, Ev.congr h hr, hq⟩
theorem Ok.mono {α : Type} {g : Nat → Option α} {P Q : α → Prop} (h : Ok g P) (k : ∀ a, P a → Q a) : Ok g Q := by
  obtain ⟨r, hr, hp⟩ := h
  exact ⟨r, hr, k r hp⟩
theorem Ok.and {α : Type} {g : Nat → Option α} {P Q : α → Prop} (h : Ok g P) (k : Ok g Q) : Ok g (fun a => P a ∧ Q a) := by
  obtain ⟨r, ⟨K, hr⟩, hp⟩ := h
  obtain ⟨r', ⟨K', hr'⟩, hq⟩ := k
  have h1 := hr (max K K') (by omega)
  have h2 := hr' (max K K') (by omega)
  obtain rfl : r = r' := by rw [h1] at h2; injection h2
  exact ⟨r, ⟨K, hr⟩, hp, hq⟩
theorem Ok.rounds {α : Type} {g : Nat → Option α} {r : α} (h : Ok g (· = r)) : ∃ k, g k = some r := by
  obtain ⟨_, hr, rfl⟩ := h
  exact hr.rounds
theorem Ok.eq {α : Type} {g : Nat → Option α} {r : α} {Q : α → Prop} (h : Ok g (· = r)) (q : Q r) : Ok g Q := h.mono fun _ e => by subst e; exact q
theorem wrap_id {n : Int} (h0 : -9223372036854775808 ≤ n) (h1 : n ≤ 9223372036854775807) : wrap64 n = n := by unfold wrap64; omega
theorem wf64 {n : Int} (h : (Lit.int .i64 n).wf = true) : -9223372036854775808 ≤ n ∧ n ≤ 9223372036854775807 := by
  simp [Lit.wf, IntKind.min, IntKind.max, IntKind.signed, IntKind.bits] at h
  omega
theorem wfu8 {n : Int} (h : (Lit.int .u8 n).wf = true) : 0 ≤ n ∧ n ≤ 255 := by
  simp [Lit.wf, IntKind.min, IntKind.max, IntKind.signed, IntKind.bits] at h
  omega
/-- A loop that counts an index up to n, with what else it carries in s. -/
theorem Ok.range {σ ρ : Type} (L : σ → Int → Nat → Option ρ) (n : Nat) (Inv : Nat → σ → Prop) (Q : ρ → Prop)
    (step : ∀ (i : Nat) (s : σ), i < n → Inv i s → (∀ s', Inv (i + 1) s' → Ok (L s' ((i : Int) + 1)) Q) → Ok (L s (i : Int)) Q)
    (last : ∀ s, Inv n s → Ok (L s (n : Int)) Q) : ∀ s, Inv 0 s → Ok (L s 0) Q := by
  have key : ∀ d i, i + d = n → ∀ s, Inv i s → Ok (L s (i : Int)) Q := by
    intro d
    induction d with
    | zero => intro i hi s hs; obtain rfl : i = n := (by omega); exact last s hs
    | succ d ih =>
      intro i hi s hs
      refine step i s (by omega) hs fun s' hs' => ?_
      have := ih (i + 1) (by omega) s' hs'
      rwa [show ((i + 1 : Nat) : Int) = (i : Int) + 1 by omega] at this
  exact fun s hs => key n 0 (by omega) s hs
/-- The same for a loop that counts down from n - 1. -/
theorem Ok.down {σ ρ : Type} (L : σ → Int → Nat → Option ρ) (n : Nat) (Inv : Nat → σ → Prop) (Q : ρ → Prop)
    (step : ∀ (i : Nat) (s : σ), i < n → Inv (i + 1) s → (∀ s', Inv i s' → Ok (L s' ((i : Int) - 1)) Q) → Ok (L s (i : Int)) Q)
    (last : ∀ s, Inv 0 s → Ok (L s (-1)) Q) : ∀ s, Inv n s → Ok (L s ((n : Int) - 1)) Q := by
  have key : ∀ i, i ≤ n → ∀ s, Inv i s → Ok (L s ((i : Int) - 1)) Q := by
    intro i
    induction i with
    | zero => intro _ s hs; exact last s hs
    | succ i ih =>
      intro hi s hs
      have := step i s (by omega) hs fun s' hs' => ih (by omega) s' hs'
      rwa [show ((i + 1 : Nat) : Int) - 1 = (i : Int) by omega]
  exact fun s hs => key n (Nat.le_refl _) s hs
theorem bool_of_iff {a b : Bool} {P : Prop} (h : a = true ↔ P) (k : b = true ↔ P) : a = b := by
  cases a <;> cases b <;> simp_all
theorem take_next {α : Type} {l : List α} {i : Nat} (d : α) (h : i < l.length) : l.take (i + 1) = l.take i ++ [l.getD i d] := by
  rw [List.take_succ_eq_append_getElem h, List.getD_eq_getElem?_getD, List.getElem?_eq_getElem h, Option.getD_some]
theorem getD_at {α : Type} (l : List α) (d : α) (i : Nat) (h : i < l.length) : l.getD i d = l[i] := by
  rw [List.getD_eq_getElem?_getD, List.getElem?_eq_getElem h, Option.getD_some]
theorem len_small {α : Type} {l : List α} (h : l.length ≤ maxLen) : (l.length : Int) ≤ 9223372036854775807 := by unfold maxLen at h; omega
end Go.Proofs.Ytgfclechgalpmaa.Pure
/- Ranges, and the bits of sets. No conditions. -/
namespace Go.Proofs.Ytgfclechgalpmaa.Pure
open Go.RowKit Go.Proofs.YtgfclechgalpmaaW.PrintWords Go.Proofs.YtgfclechgalpmaaW.PrintLast
set_option linter.unusedVariables false
set_option linter.unusedSimpArgs false

def inr (a lo hi : Int) : Bool := decide (lo ≤ a ∧ a ≤ hi)
theorem inr_iff (a lo hi : Int) : inr a lo hi = true ↔ lo ≤ a ∧ a ≤ hi := by simp [inr]
theorem bits_nat64 (a b : Nat) (ha : a < 256) (hb : b < 256) : Go.bits .and .i64 (a : Int) (b : Int) = ((a &&& b : Nat) : Int) ∧ Go.bits .or .i64 (a : Int) (b : Int) = ((a ||| b : Nat) : Int) :=
  Go.bits_nat .i64 8 (by decide) (fun n h0 h1 => by rw [IntKind.wrap_i64]; omega) a b ha hb
theorem set_nat {a : Int} (h : 0 ≤ a ∧ a ≤ 255) : ∃ n : Nat, a = (n : Int) ∧ n < 256 := ⟨a.toNat, by omega, by omega⟩
end Go.Proofs.Ytgfclechgalpmaa.Pure
/- The reference's ranges and sets. No conditions. -/
namespace Go.Proofs.Ytgfclechgalpmaa.Pure
open Go.RowKit Go.Proofs.YtgfclechgalpmaaW.PrintWords Go.Proofs.YtgfclechgalpmaaW.PrintLast Go.Proofs.Ytgfclechgalpmaa.Q
set_option linter.unusedVariables false
set_option linter.unusedSimpArgs false

theorem l6In_eq (a lo hi : Int) : spec_l6In.f a lo hi = some (inr a lo hi) := by
  unfold spec_l6In.f inr
  by_cases h : a ≥ lo
  · rw [if_pos h]; simp [h]
  · rw [if_neg h]; simp; omega
theorem l3Set_eq (a : Int) : spec_l3Set.f a = some (inr a 0 255) := by simp only [spec_l3Set.f, l6In_eq, Option.bind_some]
end Go.Proofs.Ytgfclechgalpmaa.Pure
/- The program's ranges, sets and kinds. No conditions. -/
namespace Go.Proofs.Ytgfclechgalpmaa.Pure
open Go.RowKit Go.Proofs.YtgfclechgalpmaaW.PrintWords Go.Proofs.YtgfclechgalpmaaW.PrintLast Go.Proofs.Ytgfclechgalpmaa.Q
set_option linter.unusedVariables false
set_option linter.unusedSimpArgs false

theorem within_eq (a lo hi : Int) : impl_within.f a lo hi = some (inr a lo hi) := by
  unfold impl_within.f inr
  by_cases h : a ≥ lo
  · rw [if_pos h]; simp [h]
  · rw [if_neg h]; simp; omega
theorem isSet_eq (a : Int) : impl_isSet.f a = some (inr a 0 255) := by simp only [impl_isSet.f, within_eq, Option.bind_some]
theorem isKind_eq (a : Int) : impl_isKind.f a = some (inr a 1 5) := by simp only [impl_isKind.f, within_eq, Option.bind_some]
end Go.Proofs.Ytgfclechgalpmaa.Pure
/- When a guest is valid. No conditions. -/
namespace Go.Proofs.Ytgfclechgalpmaa.Pure
open Go.RowKit Go.Proofs.YtgfclechgalpmaaW.PrintWords Go.Proofs.YtgfclechgalpmaaW.PrintLast Go.Proofs.Ytgfclechgalpmaa.Q
set_option linter.unusedVariables false
set_option linter.unusedSimpArgs false

def gB (a b c : Int) : Bool := inr a 1 99 && inr b 1 4 && inr c 0 255
theorem gB_iff (a b c : Int) : gB a b c = true ↔ (1 ≤ a ∧ a ≤ 99) ∧ (1 ≤ b ∧ b ≤ 4) ∧ 0 ≤ c ∧ c ≤ 255 := by simp [gB, inr_iff, and_assoc]
theorem sGuest_eq (a b c : Int) : spec_l12Guest.f a b c = some (gB a b c) := by
  unfold spec_l12Guest.f gB
  simp only [l6In_eq, l3Set_eq, Option.bind_some]
  cases inr a 1 99 <;> cases inr b 1 4 <;> rfl
theorem iGuest_eq (a b c : Int) : impl_guestValid.f a b c = some (gB a b c) := by
  unfold impl_guestValid.f gB
  simp only [within_eq, isSet_eq, Option.bind_some]
  cases inr a 1 99 <;> cases inr b 1 4 <;> rfl
end Go.Proofs.Ytgfclechgalpmaa.Pure
/- When guests are valid, in the program and in the reference. Condition: at most 2,000,000. -/
namespace Go.Proofs.Ytgfclechgalpmaa.Pure
open Go.RowKit Go.Proofs.YtgfclechgalpmaaW.PrintWords Go.Proofs.YtgfclechgalpmaaW.PrintLast Go.Proofs.Ytgfclechgalpmaa.Q
set_option linter.unusedVariables false
set_option linter.unusedSimpArgs false

abbrev Gst := S30
def gAt (l : List Gst) (i : Nat) : Gst := l.getD i z30
theorem gAt_rd (l : List Gst) (i : Nat) : rd_T30 l (i : Int) = gAt l i := rfl
theorem gAt_prev (l : List Gst) (i : Nat) (h : 0 < i) : rd_T30 l ((i : Int) - 1) = gAt l (i - 1) := by
  unfold rd_T30 gAt
  rw [show ((i : Int) - 1).toNat = i - 1 by omega]
/-- element i is as it must be -/
def gGood (l : List Gst) (i : Nat) : Prop := gB (gAt l i).f0 (gAt l i).f1 (gAt l i).f2 = true ∧ (0 < i → (gAt l (i - 1)).f0 < (gAt l i).f0)
/-- guests are valid -/
def GV (l : List Gst) : Prop := l.length ≤ 10 ∧ ∀ i, i < l.length → gGood l i
theorem sGuests_ok (l : List Gst) (hl : l.length ≤ 2000000) : Ok (fun k => spec_GuestsValid.f k l) (fun r => r = true ↔ GV l) := by
  unfold spec_GuestsValid.f
  refine Ok.range (fun (_ : Unit) i k => spec_GuestsValid.l0 k l i) l.length (fun i _ => ∀ j, j < i → gGood l j) _ ?_ ?_ () (fun j hj => absurd hj (by omega))
  · intro i _ hi hinv ih
    have ew : wrap64 ((i : Int) + 1) = (i : Int) + 1 := wrap_id (by omega) (by omega)
    have ew' : wrap64 ((i : Int) - 1) = (i : Int) - 1 := wrap_id (by omega) (by omega)
    refine Ok.step (fun k => by simp only [spec_GuestsValid.l0]; rfl) (Ok.pos (by omega) (Ok.pos (by omega) ?_))
    simp only [sGuest_eq, Option.bind_some, ew, ew', gAt_rd]
    have bad : ¬ gGood l i → Ok (fun _ => some false) (fun r : Bool => r = true ↔ GV l) := fun h => Ok.ret (by
      constructor
      · intro h'; cases h'
      · intro h'; exact absurd (h'.2 i hi) h)
    have good : gGood l i → Ok (fun k => spec_GuestsValid.l0 k l ((i : Int) + 1)) (fun r : Bool => r = true ↔ GV l) := fun h => ih () (fun j hj => by
      rcases Nat.lt_succ_iff_lt_or_eq.1 hj with h1 | rfl
      · exact hinv j h1
      · exact h)
    refine Ok.ite (fun h1 => Ok.ite (fun h2 => ?_) (fun h2 => good ⟨h1, fun h => absurd h (by omega)⟩)) (fun h1 => bad fun h => h1 h.1)
    refine Ok.pos (by omega) (Ok.pos (by omega) ?_)
    simp only [gAt_prev l i (by omega)]
    refine Ok.ite (fun h3 => bad fun h => ?_) (fun h3 => good ⟨h1, fun _ => by omega⟩)
    have := h.2 (by omega)
    omega
  · intro _ hinv
    refine Ok.step (fun k => by simp only [spec_GuestsValid.l0]; rfl) (Ok.neg (by omega) (Ok.ret ?_))
    rw [decide_eq_true_iff]
    exact ⟨fun h => ⟨by omega, hinv⟩, fun h => by have := h.1; omega⟩
theorem iGuests_ok (l : List Gst) (hl : l.length ≤ 2000000) : Ok (fun k => impl_GuestsValid.f k l) (fun r => r = true ↔ GV l) := by
  unfold impl_GuestsValid.f
  refine Ok.range (fun (_ : Unit) i k => impl_GuestsValid.l0 k l l (l.length : Int) i) l.length (fun i _ => ∀ j, j < i → gGood l j) _ ?_ ?_ () (fun j hj => absurd hj (by omega))
  · intro i _ hi hinv ih
    have ew : wrap64 ((i : Int) + 1) = (i : Int) + 1 := wrap_id (by omega) (by omega)
    have ew' : wrap64 ((i : Int) - 1) = (i : Int) - 1 := wrap_id (by omega) (by omega)
    refine Ok.step (fun k => by simp only [impl_GuestsValid.l0]; rfl) (Ok.pos (by omega) (Ok.pos (by omega) (Ok.pos (by omega) ?_)))
    simp only [iGuest_eq, Option.bind_some, ew, ew', gAt_rd]
    have bad : ¬ gGood l i → Ok (fun _ => some false) (fun r : Bool => r = true ↔ GV l) := fun h => Ok.ret (by
      constructor
      · intro h'; cases h'
      · intro h'; exact absurd (h'.2 i hi) h)
    have good : gGood l i → Ok (fun k => impl_GuestsValid.l0 k l l (l.length : Int) ((i : Int) + 1)) (fun r : Bool => r = true ↔ GV l) := fun h => ih () (fun j hj => by
      rcases Nat.lt_succ_iff_lt_or_eq.1 hj with h1 | rfl
      · exact hinv j h1
      · exact h)
    refine Ok.ite (fun h1 => Ok.ite (fun h2 => ?_) (fun h2 => good ⟨h1, fun h => absurd h (by omega)⟩)) (fun h1 => bad fun h => h1 h.1)
    refine Ok.pos (by omega) (Ok.pos (by omega) ?_)
    simp only [gAt_prev l i (by omega)]
    refine Ok.ite (fun h3 => bad fun h => ?_) (fun h3 => good ⟨h1, fun _ => by omega⟩)
    have := h.2 (by omega)
    omega
  · intro _ hinv
    refine Ok.step (fun k => by simp only [impl_GuestsValid.l0]; rfl) (Ok.neg (by omega) (Ok.ret ?_))
    rw [decide_eq_true_iff]
    exact ⟨fun h => ⟨by omega, hinv⟩, fun h => by have := h.1; omega⟩
end Go.Proofs.Ytgfclechgalpmaa.Pure
/- Diets: what DietAllows answers, in the program and in the reference. No conditions. -/
namespace Go.Proofs.Ytgfclechgalpmaa.Pure
open Go.RowKit Go.Proofs.YtgfclechgalpmaaW.PrintWords Go.Proofs.YtgfclechgalpmaaW.PrintLast Go.Proofs.Ytgfclechgalpmaa.Q
set_option linter.unusedVariables false
set_option linter.unusedSimpArgs false

def dietB (d k : Int) : Bool := decide (1 ≤ d ∧ d ≤ 4 ∧ 1 ≤ k ∧ k ≤ 5 ∧ (d = 2 → k ≤ 4) ∧ (d = 3 → k ≤ 3) ∧ (d = 4 → k ≤ 1))
theorem dietB_iff (d k : Int) : dietB d k = true ↔ 1 ≤ d ∧ d ≤ 4 ∧ 1 ≤ k ∧ k ≤ 5 ∧ (d = 2 → k ≤ 4) ∧ (d = 3 → k ≤ 3) ∧ (d = 4 → k ≤ 1) := by unfold dietB; exact decide_eq_true_iff
theorem last_eq (d : Int) (h : 1 ≤ d ∧ d ≤ 4) : ∃ m, spec_l12Last.f d = some m ∧ (d = 1 → m = 5) ∧ (d = 2 → m = 4) ∧ (d = 3 → m = 3) ∧ (d = 4 → m = 1) := by
  have : d = 1 ∨ d = 2 ∨ d = 3 ∨ d = 4 := by omega
  rcases this with rfl | rfl | rfl | rfl <;> exact ⟨_, rfl, by decide, by decide, by decide, by decide⟩
theorem sDiet_eq (d k : Int) : spec_DietAllows.f d k = some (dietB d k) := by
  unfold spec_DietAllows.f
  simp only [l6In_eq, Option.bind_some]
  cases h1 : inr d 1 4 with
  | false =>
    have : dietB d k = false := by
      rw [Bool.eq_false_iff]; intro h
      rw [dietB_iff] at h
      have : inr d 1 4 = true := (inr_iff _ _ _).2 ⟨h.1, h.2.1⟩
      rw [h1] at this; cases this
    rw [this]; rfl
  | true =>
    have hd := (inr_iff _ _ _).1 h1
    cases h2 : inr k 1 5 with
    | false =>
      have : dietB d k = false := by
        rw [Bool.eq_false_iff]; intro h
        rw [dietB_iff] at h
        have : inr k 1 5 = true := (inr_iff _ _ _).2 ⟨h.2.2.1, h.2.2.2.1⟩
        rw [h2] at this; cases this
      rw [this]; rfl
    | true =>
      have hk := (inr_iff _ _ _).1 h2
      obtain ⟨m, hm, m1, m2, m3, m4⟩ := last_eq d hd
      rw [if_pos rfl, if_pos rfl, hm]
      simp only [Option.bind_some, Option.some.injEq]
      have : (k ≤ m) ↔ dietB d k = true := by
        rw [dietB_iff]
        have : d = 1 ∨ d = 2 ∨ d = 3 ∨ d = 4 := by omega
        omega
      rw [Bool.eq_iff_iff, ← this, decide_eq_true_iff]
theorem iDiet_eq (d k : Int) : impl_DietAllows.f d k = some (dietB d k) := by
  unfold impl_DietAllows.f
  simp only [isKind_eq, Option.bind_some]
  cases h2 : inr k 1 5 with
  | false =>
    have : dietB d k = false := by
      rw [Bool.eq_false_iff]; intro h
      rw [dietB_iff] at h
      have : inr k 1 5 = true := (inr_iff _ _ _).2 ⟨h.2.2.1, h.2.2.2.1⟩
      rw [h2] at this; cases this
    rw [this]; rfl
  | true =>
    have hk := (inr_iff _ _ _).1 h2
    rw [if_pos rfl]
    have key : ∀ b : Bool, (b = true ↔ dietB d k = true) → b = dietB d k := fun b h => Bool.eq_iff_iff.2 h
    split
    · rename_i e; subst e
      exact congrArg some (key _ (by rw [dietB_iff]; simp; omega))
    split
    · rename_i e; subst e
      exact congrArg some (key _ (by rw [dietB_iff]; simp; omega))
    split
    · rename_i e; subst e
      split
      · rename_i e; subst e
        exact congrArg some (key _ (by rw [dietB_iff]; simp))
      · exact congrArg some (key _ (by rw [dietB_iff]; simp; omega))
    split
    · rename_i e; subst e
      exact congrArg some (key _ (by rw [dietB_iff]; simp; omega))
    · exact congrArg some (key _ (by rw [dietB_iff]; simp; omega))
end Go.Proofs.Ytgfclechgalpmaa.Pure
/- The weight of an allergen: two to the power of its number, up to 8. -/
namespace Go.Proofs.Ytgfclechgalpmaa.Pure
open Go.RowKit Go.Proofs.YtgfclechgalpmaaW.PrintWords Go.Proofs.YtgfclechgalpmaaW.PrintLast Go.Proofs.Ytgfclechgalpmaa.Q
set_option linter.unusedVariables false
set_option linter.unusedSimpArgs false

theorem pow_le (i : Nat) (h : i ≤ 8) : (1 : Int) ≤ 2 ^ i ∧ (2 : Int) ^ i ≤ 256 := by
  have h1 : 2 ^ i ≤ 2 ^ 8 := Nat.pow_le_pow_right (by decide) h
  have h2 : 0 < 2 ^ i := Nat.two_pow_pos i
  constructor
  · have : ((2 ^ i : Nat) : Int) = (2 : Int) ^ i := by simp
    omega
  · have : ((2 ^ i : Nat) : Int) = (2 : Int) ^ i := by simp
    omega
theorem weight_ok (n : Nat) (h : n ≤ 8) : Ok (fun k => spec_l3Weight.f k (n : Int)) (· = (2 : Int) ^ n) := by
  unfold spec_l3Weight.f
  refine Ok.range (fun (s : Int) i k => spec_l3Weight.l0 k (n : Int) s i) n (fun i s => s = 2 ^ i) _ ?_ ?_ 1 rfl
  · rintro i _ hi rfl ih
    have hp := pow_le i (by omega)
    refine Ok.step (fun k => by simp only [spec_l3Weight.l0]; rfl) (Ok.pos (by omega) ?_)
    rw [wrap_id (n := (i : Int) + 1) (by omega) (by omega), wrap_id (n := 2 * 2 ^ i) (by omega) (by omega)]
    exact ih _ (by rw [Int.pow_succ, Int.mul_comm])
  · rintro _ rfl
    exact Ok.step (fun k => by simp only [spec_l3Weight.l0]; rfl) (Ok.neg (by omega) (Ok.ret rfl))
end Go.Proofs.Ytgfclechgalpmaa.Pure
/- Does a set have an allergen? Conditions: the set is in the range 0 to 255, the allergen at most 8. -/
namespace Go.Proofs.Ytgfclechgalpmaa.Pure
open Go.RowKit Go.Proofs.YtgfclechgalpmaaW.PrintWords Go.Proofs.YtgfclechgalpmaaW.PrintLast Go.Proofs.Ytgfclechgalpmaa.Q
set_option linter.unusedVariables false
set_option linter.unusedSimpArgs false

theorem has_ok (a : Nat) (ha : a < 256) (i : Nat) (h : i ≤ 8) : Ok (fun k => spec_l3Has.f k (a : Int) (i : Int)) (· = a.testBit i) := by
  unfold spec_l3Has.f
  refine Ok.bind (weight_ok i h) ?_
  rintro _ rfl
  have hp := pow_le i h
  refine Ok.neg (by omega) (Ok.ret ?_)
  have e : ((2 : Int) ^ i) = ((2 ^ i : Nat) : Int) := by simp
  rw [e, Int.tdiv_eq_ediv_of_nonneg (by omega), ← Int.natCast_ediv]
  have hd : a / 2 ^ i ≤ a := Nat.div_le_self _ _
  generalize hq : a / 2 ^ i = q at hd
  rw [wrap_id (n := ((q : Nat) : Int)) (by omega) (by omega), Int.tmod_eq_emod_of_nonneg (by omega), Nat.testBit_eq_decide_div_mod_eq, hq]
  by_cases h1 : q % 2 = 1
  · rw [decide_eq_true h1, beq_iff_eq]; omega
  · rw [decide_eq_false h1, beq_eq_false_iff_ne]; omega
theorem mod_next (x i : Nat) : x % 2 ^ (i + 1) = x % 2 ^ i + (if x.testBit i = true then 2 ^ i else 0) := by
  rw [Nat.mod_pow_succ, Nat.testBit_eq_decide_div_mod_eq]
  have h := Nat.mod_two_eq_zero_or_one (x / 2 ^ i)
  rcases h with h | h <;> simp [h]
theorem cast_mod (x i : Nat) (hi : i ≤ 8) (hx : x < 256) : 0 ≤ ((x % 2 ^ i : Nat) : Int) ∧ ((x % 2 ^ i : Nat) : Int) ≤ 255 := by
  have := Nat.mod_le x (2 ^ i)
  omega
end Go.Proofs.Ytgfclechgalpmaa.Pure
/- The reference's common part of two sets. Conditions: sets in the range 0 to 255. -/
namespace Go.Proofs.Ytgfclechgalpmaa.Pure
open Go.RowKit Go.Proofs.YtgfclechgalpmaaW.PrintWords Go.Proofs.YtgfclechgalpmaaW.PrintLast Go.Proofs.Ytgfclechgalpmaa.Q
set_option linter.unusedVariables false
set_option linter.unusedSimpArgs false

theorem meet_ok (a b : Nat) (ha : a < 256) (hb : b < 256) : Ok (fun k => spec_l3Meet.f k (a : Int) (b : Int)) (· = ((a &&& b : Nat) : Int)) := by
  unfold spec_l3Meet.f
  have hab : a &&& b < 256 := Nat.and_lt_two_pow (n := 8) _ hb
  refine Ok.range (fun (s : Int) i k => spec_l3Meet.l0 k (a : Int) (b : Int) s i) 8 (fun i s => s = (((a &&& b) % 2 ^ i : Nat) : Int)) _ ?_ ?_ 0 (by simp [Nat.mod_one])
  · rintro i _ hi rfl ih
    have hr := cast_mod (a &&& b) i (by omega) hab
    have hp := pow_le i (by omega)
    have hn := mod_next (a &&& b) i
    have ew : wrap64 ((i : Int) + 1) = (i : Int) + 1 := wrap_id (by omega) (by omega)
    rw [Nat.testBit_and] at hn
    refine Ok.step (fun k => by simp only [spec_l3Meet.l0]; rfl) (Ok.pos (by omega) (Ok.bind (has_ok a ha i (by omega)) ?_))
    rintro _ rfl
    cases h1 : a.testBit i with
    | false =>
      refine Ok.neg (by simp) ?_
      rw [ew]
      exact ih _ (by rw [hn, h1]; simp)
    | true =>
      refine Ok.pos rfl (Ok.bind (has_ok b hb i (by omega)) ?_)
      rintro _ rfl
      cases h2 : b.testBit i with
      | false =>
        refine Ok.neg (by simp) ?_
        rw [ew]
        exact ih _ (by rw [hn, h2]; simp)
      | true =>
        refine Ok.pos rfl (Ok.bind (weight_ok i (by omega)) ?_)
        rintro _ rfl
        rw [ew, wrap_id (n := _ + 2 ^ i) (by omega) (by omega)]
        exact ih _ (by rw [hn, h1, h2]; simp)
  · rintro _ rfl
    refine Ok.step (fun k => by simp only [spec_l3Meet.l0]; rfl) (Ok.neg (by omega) (Ok.ret ?_))
    rw [Nat.mod_eq_of_lt hab]
end Go.Proofs.Ytgfclechgalpmaa.Pure
/- Who may eat what: GuestMay, in the program and in the reference. No conditions. -/
namespace Go.Proofs.Ytgfclechgalpmaa.Pure
open Go.RowKit Go.Proofs.YtgfclechgalpmaaW.PrintWords Go.Proofs.YtgfclechgalpmaaW.PrintLast Go.Proofs.Ytgfclechgalpmaa.Q
set_option linter.unusedVariables false
set_option linter.unusedSimpArgs false

def mayB (a b c s k : Int) : Bool := gB a b c && inr s 0 255 && decide (Go.bits .and .i64 c s = 0) && dietB b k
theorem iMay_eq (a b c s k : Int) : impl_GuestMay.f a b c s k = some (mayB a b c s k) := by
  unfold impl_GuestMay.f mayB
  simp only [iGuest_eq, isSet_eq, iDiet_eq, Option.bind_some]
  cases gB a b c <;> cases inr s 0 255 <;> by_cases h : Go.bits .and .i64 c s = 0 <;> simp [h]
theorem sMay_ok (a b c s k : Int) : Ok (fun n => spec_GuestMay.f n a b c s k) (· = mayB a b c s k) := by
  unfold spec_GuestMay.f mayB
  simp only [sGuest_eq, l3Set_eq, sDiet_eq, Option.bind_some]
  cases h1 : gB a b c with
  | false => exact Ok.neg (by simp) (Ok.ret (by simp))
  | true =>
    refine Ok.pos rfl ?_
    cases h2 : inr s 0 255 with
    | false => exact Ok.neg (by simp) (Ok.ret (by simp))
    | true =>
      refine Ok.pos rfl ?_
      cases h3 : dietB b k with
      | false => exact Ok.neg (by simp) (Ok.ret (by simp))
      | true =>
        refine Ok.pos rfl ?_
        obtain ⟨x, rfl, hx⟩ := set_nat ((gB_iff _ _ _).1 h1).2.2
        obtain ⟨y, rfl, hy⟩ := set_nat ((inr_iff _ _ _).1 h2)
        refine Ok.bind (meet_ok x y hx hy) ?_
        rintro _ rfl
        refine Ok.ret ?_
        rw [(bits_nat64 x y hx hy).1]
        simp only [Bool.true_and, Bool.and_true]
        rw [Bool.eq_iff_iff, decide_eq_true_iff, beq_iff_eq]
end Go.Proofs.Ytgfclechgalpmaa.Pure
/- Whom GuestsWho lists, in the program and in the reference. Condition: at most 2,000,000 guests. -/
namespace Go.Proofs.Ytgfclechgalpmaa.Pure
open Go.RowKit Go.Proofs.YtgfclechgalpmaaW.PrintWords Go.Proofs.YtgfclechgalpmaaW.PrintLast Go.Proofs.Ytgfclechgalpmaa.Q
set_option linter.unusedVariables false
set_option linter.unusedSimpArgs false

def gMay (s k : Int) (x : Gst) : Bool := mayB x.f0 x.f1 x.f2 s k
/-- whom GuestsWho lists, of the first i -/
def who (l : List Gst) (s k : Int) (i : Nat) : List Int := ((l.take i).filter (gMay s k)).map (·.f0)
theorem who_next (l : List Gst) (s k : Int) (i : Nat) (h : i < l.length) : who l s k (i + 1) = if gMay s k (gAt l i) = true then who l s k i ++ [(gAt l i).f0] else who l s k i := by
  unfold who
  rw [take_next z30 h, List.filter_append, List.map_append]
  by_cases hm : gMay s k (gAt l i) = true
  · have e : gMay s k (l.getD i z30) = true := hm
    rw [if_pos hm, List.filter_cons, if_pos e]; rfl
  · have e : ¬ gMay s k (l.getD i z30) = true := hm
    rw [if_neg hm, List.filter_cons, if_neg e]; simp
theorem who_len (l : List Gst) (s k : Int) (i : Nat) : (who l s k i).length ≤ l.length := by
  unfold who
  rw [List.length_map]
  refine Nat.le_trans (List.length_filter_le _ _) ?_
  rw [List.length_take]; omega
theorem iWho_ok (l : List Gst) (s k : Int) (hl : l.length ≤ 2000000) : Ok (fun n => impl_GuestsWho.f n l s k) (fun r => (GV l → r = who l s k l.length) ∧ (¬ GV l → r = [])) := by
  unfold impl_GuestsWho.f
  simp only [Option.bind_some]
  refine Ok.bind (iGuests_ok l hl) fun b hb => ?_
  refine Ok.ite (fun h => ?_) (fun h => Ok.ret ⟨fun h' => absurd (hb.2 h') h, fun _ => rfl⟩)
  refine Ok.range (fun (a : List Int) i n => impl_GuestsWho.l0 n s k a l (l.length : Int) i) l.length (fun i a => a = who l s k i) _ ?_ ?_ [] rfl
  · rintro i _ hi rfl ih
    have ew : wrap64 ((i : Int) + 1) = (i : Int) + 1 := wrap_id (by omega) (by omega)
    have hw := who_len l s k i
    refine Ok.step (fun k => by simp only [impl_GuestsWho.l0]; rfl) (Ok.pos (by omega) (Ok.pos (by omega) (Ok.pos (by omega) ?_)))
    simp only [iMay_eq, Option.bind_some, ew, gAt_rd]
    refine Ok.ite (fun h1 => Ok.pos (by omega) (ih _ ?_)) (fun h1 => ih _ ?_)
    · rw [who_next l s k i hi]; exact (if_pos h1).symm
    · rw [who_next l s k i hi]; exact (if_neg h1).symm
  · rintro _ rfl
    exact Ok.step (fun k => by simp only [impl_GuestsWho.l0]; rfl) (Ok.neg (by omega) (Ok.ret ⟨fun _ => rfl, fun h' => absurd (hb.1 h) h'⟩))
theorem sWho_ok (l : List Gst) (s k : Int) (hl : l.length ≤ 2000000) : Ok (fun n => spec_GuestsWho.f n l s k) (fun r => (GV l → r = who l s k l.length) ∧ (¬ GV l → r = [])) := by
  unfold spec_GuestsWho.f
  by_cases hv : GV l
  · refine Ok.range (fun (a : List Int) i n => spec_GuestsWho.l0 n l s k a i) l.length (fun i a => a = who l s k i) _ ?_ ?_ [] rfl
    · rintro i _ hi rfl ih
      have ew : wrap64 ((i : Int) + 1) = (i : Int) + 1 := wrap_id (by omega) (by omega)
      have hw := who_len l s k i
      refine Ok.step (fun k => by simp only [spec_GuestsWho.l0]; rfl) (Ok.pos (by omega) (Ok.bind (sGuests_ok l hl) fun b hb => ?_))
      refine Ok.step (fun k => by simp only [spec_GuestsWho.j1]; rfl) (Ok.pos (hb.2 hv) (Ok.pos (by omega) (Ok.pos (by omega) ?_)))
      simp only [gAt_rd]
      refine Ok.bind (sMay_ok _ _ _ _ _) ?_
      rintro _ rfl
      rw [ew]
      refine Ok.ite (fun h1 => Ok.pos (by omega) (ih _ ?_)) (fun h1 => ih _ ?_)
      · rw [who_next l s k i hi]; exact (if_pos h1).symm
      · rw [who_next l s k i hi]; exact (if_neg h1).symm
    · rintro _ rfl
      refine Ok.step (fun k => by simp only [spec_GuestsWho.l0]; rfl) (Ok.neg (by omega) ?_)
      exact Ok.step (fun k => by simp only [spec_GuestsWho.j1]; rfl) (Ok.neg (by simp) (Ok.ret ⟨fun _ => rfl, fun h' => absurd hv h'⟩))
  · refine Ok.step (fun k => by simp only [spec_GuestsWho.l0]; rfl) (Ok.ite (fun h => Ok.bind (sGuests_ok l hl) fun b hb => ?_) (fun h => ?_))
    · refine Ok.step (fun k => by simp only [spec_GuestsWho.j1]; rfl) (Ok.neg (fun h => hv (hb.1 h)) (Ok.ret ⟨fun h' => absurd h' hv, fun _ => rfl⟩))
    · exact Ok.step (fun k => by simp only [spec_GuestsWho.j1]; rfl) (Ok.neg (by simp) (Ok.ret ⟨fun h' => absurd h' hv, fun _ => rfl⟩))
end Go.Proofs.Ytgfclechgalpmaa.Pure
/- Lists, read and written element by element. No conditions. -/
namespace Go.Proofs.Ytgfclechgalpmaa.Pure
open Go.RowKit Go.Proofs.YtgfclechgalpmaaW.PrintWords Go.Proofs.YtgfclechgalpmaaW.PrintLast
set_option linter.unusedVariables false
set_option linter.unusedSimpArgs false

theorem rd_nat (l : List Int) (i : Nat) : rd l (i : Int) = l.getD i 0 := rfl
theorem eq_of_getD {α : Type} {a b : List α} (d : α) (h : a.length = b.length) (k : ∀ i, i < a.length → a.getD i d = b.getD i d) : a = b := by
  refine List.ext_getElem h fun i h1 h2 => ?_
  have := k i h1
  rwa [getD_at _ _ _ h1, getD_at _ _ _ h2] at this
theorem getD_set {α : Type} (l : List α) (d v : α) (i j : Nat) (hi : i < l.length) : (l.set i v).getD j d = if j = i then v else l.getD j d := by
  rw [List.getD_eq_getElem?_getD, List.getElem?_set]
  by_cases h : i = j
  · subst h; simp [hi]
  · rw [if_neg h, if_neg (fun e => h e.symm), ← List.getD_eq_getElem?_getD]
theorem getD_snoc {α : Type} (l : List α) (d v : α) (j : Nat) : (l ++ [v]).getD j d = if j = l.length then v else l.getD j d := by
  rw [List.getD_eq_getElem?_getD, List.getElem?_append]
  by_cases h : j < l.length
  · rw [if_pos h, if_neg (by omega), ← List.getD_eq_getElem?_getD]
  · rw [if_neg h]
    by_cases e : j = l.length
    · subst e; simp
    · rw [if_neg e, List.getElem?_eq_none (by simp; omega), List.getD_eq_getElem?_getD, List.getElem?_eq_none (by omega)]
end Go.Proofs.Ytgfclechgalpmaa.Pure
/- The laws' guests and the program's: copied field by field. Condition: at most 2,000,000. -/
namespace Go.Proofs.Ytgfclechgalpmaa.Pure
open Go.RowKit Go.Proofs.YtgfclechgalpmaaW.PrintWords Go.Proofs.YtgfclechgalpmaaW.PrintLast Go.Proofs.Ytgfclechgalpmaa.Q
set_option linter.unusedVariables false
set_option linter.unusedSimpArgs false

def cvGuest (x : S28) : S30 := ⟨x.f0, x.f1, x.f2⟩
theorem toGuestS_ok (l : List S28) (hl : l.length ≤ 2000000) : Ok (fun k => laws_toGuestS.f k l) (· = l.map cvGuest) := by
  unfold laws_toGuestS.f
  refine Ok.pos (by omega) (Ok.pos (Nat.le_trans (m := 2000000) (by omega) (by decide)) ?_)
  refine Ok.range (fun (s : List S30) i k => laws_toGuestS.l0 k l s i) l.length (fun i s => s.length = l.length ∧ ∀ j, j < i → s.getD j z30 = (l.map cvGuest).getD j z30) _ ?_ ?_ _ ⟨by simp, fun j hj => absurd hj (by omega)⟩
  · rintro i s hi ⟨h1, h2⟩ ih
    have ew : wrap64 ((i : Int) + 1) = (i : Int) + 1 := wrap_id (by omega) (by omega)
    refine Ok.step (fun k => by simp only [laws_toGuestS.l0]; rfl) (Ok.pos (by omega) (Ok.pos (by omega) ?_))
    simp only [laws_toGuest.f, Option.bind_some, ew]
    refine Ok.pos (by omega) (ih _ ⟨by simp [h1], fun j hj => ?_⟩)
    simp only [Int.toNat_natCast]
    rw [getD_set _ _ _ _ _ (by omega)]
    split
    · rename_i e; subst e
      rw [getD_at _ _ _ (by simp; omega), List.getElem_map]
      have e : rd_T28 l (j : Int) = l[j] := getD_at l z28 j (by omega)
      rw [e]; rfl
    · exact h2 j (by omega)
  · rintro s ⟨h1, h2⟩
    exact Ok.step (fun k => by simp only [laws_toGuestS.l0]; rfl) (Ok.neg (by omega) (Ok.ret (eq_of_getD z30 (by simp [h1]) (fun i hi => h2 i (by omega)))))
theorem szGuestS_eq (l : List S28) (a : Int) (h0 : 0 ≤ a) (h1 : a ≤ 9223372036854775807) (hl : l.length ≤ maxLen) : laws_szGuestS.f l a = some (if (l.length : Int) ≤ a then a - l.length else -1) := by
  unfold laws_szGuestS.f
  have := len_small hl
  rw [wrap_id (n := a - (l.length : Int)) (by omega) (by omega)]
  by_cases h : (l.length : Int) ≤ a
  · rw [if_neg (by omega), if_pos h]
  · rw [if_pos (by omega), if_neg h]
end Go.Proofs.Ytgfclechgalpmaa.Pure
/- The laws' comparison of lists of guests: a list is equal to itself. Condition: at most 2,000,000. -/
namespace Go.Proofs.Ytgfclechgalpmaa.Pure
open Go.RowKit Go.Proofs.YtgfclechgalpmaaW.PrintWords Go.Proofs.YtgfclechgalpmaaW.PrintLast Go.Proofs.Ytgfclechgalpmaa.Q
set_option linter.unusedVariables false
set_option linter.unusedSimpArgs false

theorem eqGuestS_ok (l : List S30) (hl : l.length ≤ 2000000) : Ok (fun k => laws_eqGuestS.f k l l) (· = true) := by
  unfold laws_eqGuestS.f
  refine Ok.pos rfl ?_
  refine Ok.range (fun (_ : Unit) i k => laws_eqGuestS.l0 k l l i) l.length (fun _ _ => True) _ ?_ ?_ () trivial
  · intro i _ hi _ ih
    have ew : wrap64 ((i : Int) + 1) = (i : Int) + 1 := wrap_id (by omega) (by omega)
    refine Ok.step (fun k => by simp only [laws_eqGuestS.l0]; rfl) (Ok.pos (by omega) (Ok.pos (by omega) (Ok.pos (by omega) ?_)))
    simp only [laws_eqGuest.f, ew, if_true, Option.bind_some, bne_self_eq_false, Bool.false_eq_true, if_false]
    exact ih () trivial
  · intro _ _
    exact Ok.step (fun k => by simp only [laws_eqGuestS.l0]; rfl) (Ok.neg (by omega) (Ok.ret rfl))
end Go.Proofs.Ytgfclechgalpmaa.Pure
/- The laws' marks in lists of guests. Condition: at most 2,000,000. -/
namespace Go.Proofs.Ytgfclechgalpmaa.Pure
open Go.RowKit Go.Proofs.YtgfclechgalpmaaW.PrintWords Go.Proofs.YtgfclechgalpmaaW.PrintLast Go.Proofs.Ytgfclechgalpmaa.Q
set_option linter.unusedVariables false
set_option linter.unusedSimpArgs false

theorem markGuestS_ok (l : List S30) (c0 : Int) (h0 : 0 ≤ c0) (h1 : c0 ≤ 1000000000000) (hl : l.length ≤ 2000000) : Ok (fun k => laws_markGuestS.f k l c0) (fun r => r.1 = c0 + 3 * l.length) := by
  unfold laws_markGuestS.f
  refine Ok.range (fun (s : List S30 × Int) i k => laws_markGuestS.l0 k s.1 s.2 i) l.length (fun i s => s.1.length = l.length ∧ s.2 = c0 + 3 * i) _ ?_ ?_ (l, c0) ⟨rfl, by simp⟩
  · rintro i ⟨xs, c⟩ hi ⟨h2, h3⟩ ih
    simp only at h2 h3
    have ew : wrap64 ((i : Int) + 1) = (i : Int) + 1 := wrap_id (by omega) (by omega)
    have e1 : wrap64 (c + 1) = c + 1 := wrap_id (by omega) (by omega)
    have e2 : wrap64 (c + 1 + 1) = c + 2 := by rw [wrap_id (n := c + 1 + 1) (by omega) (by omega)]; omega
    have e3 : wrap64 (c + 2 + 1) = c + 3 := by rw [wrap_id (n := c + 2 + 1) (by omega) (by omega)]; omega
    refine Ok.step (fun k => by simp only [laws_markGuestS.l0]; rfl) (Ok.pos (by omega) (Ok.pos (by omega) ?_))
    simp only [e1, e2, e3, ew]
    refine Ok.val (Ok.val (ih (_, _) ⟨by simp [h2], by simp only; omega⟩))
  · rintro ⟨xs, c⟩ ⟨h2, h3⟩
    simp only at h2 h3
    refine Ok.step (fun k => by simp only [laws_markGuestS.l0]; rfl) (Ok.neg (by omega) (Ok.ret ?_))
    exact h3
end Go.Proofs.Ytgfclechgalpmaa.Pure
/- Lists of whole numbers. Condition: at most 2,000,000 elements. -/
namespace Go.Proofs.Ytgfclechgalpmaa.Pure
open Go.RowKit Go.Proofs.YtgfclechgalpmaaW.PrintWords Go.Proofs.YtgfclechgalpmaaW.PrintLast Go.Proofs.Ytgfclechgalpmaa.Q
set_option linter.unusedVariables false
set_option linter.unusedSimpArgs false

theorem eqIntS_ok (a b : List Int) (hl : a.length ≤ 2000000) : Ok (fun k => laws_eqIntS.f k a b) (fun r => r = true ↔ a = b) := by
  unfold laws_eqIntS.f
  by_cases h : a.length = b.length
  · refine Ok.pos (by omega) ?_
    refine Ok.range (fun (_ : Unit) i k => laws_eqIntS.l0 k a b i) a.length (fun i _ => ∀ j, j < i → a.getD j 0 = b.getD j 0) _ ?_ ?_ () (fun j hj => absurd hj (by omega))
    · intro i _ hi hinv ih
      have ew : wrap64 ((i : Int) + 1) = (i : Int) + 1 := wrap_id (by omega) (by omega)
      refine Ok.step (fun k => by simp only [laws_eqIntS.l0]; rfl) (Ok.pos (by omega) (Ok.pos (by omega) (Ok.pos (by omega) ?_)))
      rw [ew, rd_nat, rd_nat]
      refine Ok.ite (fun h1 => ih () fun j hj => ?_) (fun h1 => Ok.ret ⟨fun h' => (by cases h'), fun h' => absurd (by rw [h']) h1⟩)
      rcases Nat.lt_succ_iff_lt_or_eq.1 hj with h2 | rfl
      · exact hinv j h2
      · exact h1
    · intro _ hinv
      exact Ok.step (fun k => by simp only [laws_eqIntS.l0]; rfl) (Ok.neg (by omega) (Ok.ret ⟨fun _ => eq_of_getD 0 h hinv, fun _ => rfl⟩))
  · exact Ok.neg (by omega) (Ok.ret ⟨fun h' => (by cases h'), fun h' => absurd (by rw [h']) h⟩)
end Go.Proofs.Ytgfclechgalpmaa.Pure
/- Lists of whole numbers. Condition: at most 2,000,000 elements. -/
namespace Go.Proofs.Ytgfclechgalpmaa.Pure
open Go.RowKit Go.Proofs.YtgfclechgalpmaaW.PrintWords Go.Proofs.YtgfclechgalpmaaW.PrintLast Go.Proofs.Ytgfclechgalpmaa.Q
set_option linter.unusedVariables false
set_option linter.unusedSimpArgs false

theorem markIntS_ok (l : List Int) (hl : l.length ≤ 2000000) : Ok (fun k => laws_markIntS.f k l 1) (fun r => r.1 = (l.length : Int) + 1 ∧ r.2.length = l.length ∧ ∀ j, j < l.length → r.2.getD j 0 = (j : Int) + 1) := by
  unfold laws_markIntS.f
  refine Ok.range (fun (s : List Int × Int) i k => laws_markIntS.l0 k s.1 s.2 i) l.length (fun i s => s.1.length = l.length ∧ s.2 = (i : Int) + 1 ∧ ∀ j, j < i → s.1.getD j 0 = (j : Int) + 1) _ ?_ ?_ (l, 1) ⟨rfl, rfl, fun j hj => absurd hj (by omega)⟩
  · rintro i ⟨xs, c⟩ hi ⟨h1, h2, h3⟩ ih
    simp only at h1 h2 h3
    subst h2
    have ew : wrap64 ((i : Int) + 1) = (i : Int) + 1 := wrap_id (by omega) (by omega)
    have ew2 : wrap64 ((i : Int) + 1 + 1) = ((i : Int) + 1) + 1 := wrap_id (by omega) (by omega)
    refine Ok.step (fun k => by simp only [laws_markIntS.l0]; rfl) (Ok.pos (by omega) (Ok.pos (by omega) ?_))
    rw [ew2, ew]
    refine ih (_, _) ⟨by simp [h1], by simp, fun j hj => ?_⟩
    simp only [Int.toNat_natCast]
    rw [getD_set _ _ _ _ _ (by omega)]
    split
    · rename_i e; subst e; rfl
    · exact h3 j (by omega)
  · rintro ⟨xs, c⟩ ⟨h1, h2, h3⟩
    simp only at h1 h2 h3
    exact Ok.step (fun k => by simp only [laws_markIntS.l0]; rfl) (Ok.neg (by omega) (Ok.ret ⟨h2, h1, h3⟩))
theorem heldIntS_ok (l : List Int) (hl : l.length ≤ 2000000) (h : ∀ j, j < l.length → l.getD j 0 = (j : Int) + 1) : Ok (fun k => laws_heldIntS.f k l 1) (· = (l.length : Int) + 1) := by
  unfold laws_heldIntS.f
  refine Ok.range (fun (c : Int) i k => laws_heldIntS.l0 k l c i) l.length (fun i c => c = (i : Int) + 1) _ ?_ ?_ 1 rfl
  · rintro i _ hi rfl ih
    have ew : wrap64 ((i : Int) + 1) = (i : Int) + 1 := wrap_id (by omega) (by omega)
    have ew2 : wrap64 ((i : Int) + 1 + 1) = ((i : Int) + 1) + 1 := wrap_id (by omega) (by omega)
    refine Ok.step (fun k => by simp only [laws_heldIntS.l0]; rfl) (Ok.pos (by omega) (Ok.pos (by omega) (Ok.pos (by rw [rd_nat, h i hi]) ?_)))
    rw [ew2, ew]
    exact ih _ (by simp)
  · rintro _ rfl
    exact Ok.step (fun k => by simp only [laws_heldIntS.l0]; rfl) (Ok.neg (by omega) (Ok.ret rfl))
end Go.Proofs.Ytgfclechgalpmaa.Pure
/- The program's GuestsWho returns what the reference's returns, for all arguments. No conditions. -/
namespace Go.Proofs.Ytgfclechgalpmaa.Pure
open Go.RowKit Go.Proofs.YtgfclechgalpmaaW.PrintWords Go.Proofs.YtgfclechgalpmaaW.PrintLast Go.Proofs.Ytgfclechgalpmaa.Q
set_option linter.unusedVariables false
set_option linter.unusedSimpArgs false
theorem FnExactGuestsWho (l : List S28) (hm : l.length ≤ maxLen) (s : Int) (_ : (Lit.int .i64 s).wf = true) (d : Int) (_ : (Lit.int .i64 d).wf = true) : ∃ k, laws_FnExactGuestsWho.f k l s d = some true := by
  apply Ok.rounds
  unfold laws_FnExactGuestsWho.f
  rw [szGuestS_eq l _ (by omega) (by omega) hm]
  refine Ok.val (Ok.ite (fun _ => Ok.ret rfl) fun h => ?_)
  have hl : l.length ≤ 2000000 := by
    split at h <;> omega
  have hl' : (l.map cvGuest).length ≤ 2000000 := by simpa using hl
  refine Ok.bind (toGuestS_ok l hl) ?_
  rintro _ rfl
  refine Ok.bind (sWho_ok _ s d hl') fun r1 h1 => Ok.bind (toGuestS_ok l hl) ?_
  rintro _ rfl
  have two : ∀ r2 : List Int, ((GV (l.map cvGuest) → r2 = who (l.map cvGuest) s d (l.map cvGuest).length) ∧ (¬ GV (l.map cvGuest) → r2 = [])) → r2 = r1 := by
    intro r2 h2
    by_cases hv : GV (l.map cvGuest)
    · rw [h1.1 hv, h2.1 hv]
    · rw [h1.2 hv, h2.2 hv]
  have hr : r1.length ≤ 2000000 := by
    by_cases hv : GV (l.map cvGuest)
    · rw [h1.1 hv]; exact Nat.le_trans (who_len _ _ _ _) hl'
    · rw [h1.2 hv]; simp
  refine Ok.bind (iWho_ok _ s d hl') fun r2 h2 => ?_
  obtain rfl := two r2 h2
  refine Ok.bind (eqIntS_ok r2 r2 hr) fun b hb => Ok.pos (hb.2 rfl) (Ok.bind (toGuestS_ok l hl) ?_)
  rintro _ rfl
  refine Ok.bind (eqGuestS_ok _ hl') ?_
  rintro _ rfl
  refine Ok.pos rfl (Ok.bind (markGuestS_ok _ 1 (by omega) (by omega) hl') fun m hmk => Ok.neg (by omega) (Ok.bind (eqIntS_ok r2 r2 hr) fun b hb => ?_))
  rw [hb.2 rfl]
  refine Ok.step (fun k => by simp only [laws_FnExactGuestsWho.j0]; rfl) (Ok.neg (by simp) (Ok.bind (markIntS_ok r2 hr) ?_))
  rintro ⟨c, ys⟩ ⟨e1, e2, e3⟩
  simp only at e1 e2 e3 ⊢
  have held := heldIntS_ok ys (by omega) (by rw [e2]; exact e3)
  rw [e2, ← e1] at held
  refine Ok.bind held ?_
  rintro _ rfl
  refine Ok.neg (by omega) (Ok.pos rfl (Ok.bind (toGuestS_ok l hl) ?_))
  rintro _ rfl
  refine Ok.bind (iWho_ok _ s d hl') fun r3 h3 => ?_
  obtain rfl := two r3 h3
  refine Ok.bind (eqIntS_ok r3 r3 hr) fun b hb => Ok.pos (hb.2 rfl) (Ok.bind held ?_)
  rintro _ rfl
  exact Ok.neg (by omega) (Ok.pos rfl (Ok.ret rfl))
end Go.Proofs.Ytgfclechgalpmaa.Pure
