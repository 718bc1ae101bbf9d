/- The program's ServeFits returns what the reference's returns, for all arguments. No conditions. -/
import Derived.Test.YtehenjjaekkcfaaWMore
import Derived.Test.YtehenjjaekkcfaaQx2
import Derived.Test.YtehenjjaekkcfaaQx9
import Derived.Test.YtehenjjaekkcfaaQx10
import Derived.Test.YtehenjjaekkcfaaQx5
import Derived.Test.YtehenjjaekkcfaaQx11
import Derived.Test.YtehenjjaekkcfaaQx12
import Derived.Test.YtehenjjaekkcfaaQx19
import Derived.Test.YtehenjjaekkcfaaQx21
import Derived.Test.YtehenjjaekkcfaaQx18
import Derived.Test.YtehenjjaekkcfaaQx1
import Derived.Test.YtehenjjaekkcfaaQx20
/- Plain logic for printed functions: from some number of rounds on a function answers, and its answer fits. No conditions. -/
namespace Go.Proofs.Ytehenjjaekkcfaa.Pure
open Go.RowKit Go.Proofs.YtehenjjaekkcfaaW.PrintWords Go.Proofs.YtehenjjaekkcfaaW.PrintLast

/-- g answers from some number of rounds on, and the answer is as Q says. -/
def Ok {α : Type} (g : Nat → Option α) (Q : α → Prop) : Prop := ∃ r, Ev g r ∧ Q r
theorem Ok.ret {α : Type} {r : α} {Q : α → Prop} (h : Q r) : Ok (fun _ => some r) Q := ⟨r, Ev.now r, h⟩
theorem Ok.of_eq {α : Type} {o : Option α} {r : α} {Q : α → Prop} (e : o = some r) (h : Q r) : Ok (fun _ => o) Q := by subst e; exact Ok.ret h
theorem Ok.bind {α β : Type} {g : Nat → Option α} {f : Nat → α → Option β} {P : α → Prop} {Q : β → Prop} (h : Ok g P) (k : ∀ a, P a → Ok (fun n => f n a) Q) : Ok (fun n => (g n).bind (f n)) Q := by
  obtain ⟨a, ha, hp⟩ := h
  obtain ⟨r, hr, hq⟩ := k a hp
  exact ⟨r, Ev.bind ha hr, hq⟩
theorem Ok.val {α β : Type} {a : α} {f : Nat → α → Option β} {Q : β → Prop} (h : Ok (fun n => f n a) Q) : Ok (fun n => (some a).bind (f n)) Q := h
theorem Ok.pos {α : Type} {c : Prop} [Decidable c] {t e : Nat → Option α} {Q : α → Prop} (hc : c) (h : Ok t Q) : Ok (fun n => if c then t n else e n) Q := by simpa only [if_pos hc] using h
theorem Ok.neg {α : Type} {c : Prop} [Decidable c] {t e : Nat → Option α} {Q : α → Prop} (hc : ¬ c) (h : Ok e Q) : Ok (fun n => if c then t n else e n) Q := by simpa only [if_neg hc] using h
theorem Ok.ite {α : Type} {c : Prop} [Decidable c] {t e : Nat → Option α} {Q : α → Prop} (h : c → Ok t Q) (k : ¬ c → Ok e Q) : Ok (fun n => if c then t n else e n) Q := by
  by_cases hc : c
  · exact Ok.pos hc (h hc)
  · exact Ok.neg hc (k hc)
theorem Ok.step {α : Type} {g f : Nat → Option α} {Q : α → Prop} (h : ∀ k, g (k + 1) = f k) (k : Ok f Q) : Ok g Q := by
  obtain ⟨r, hr, hq⟩ := k
  exact ⟨r, Ev.step h hr, hq⟩
theorem Ok.congr {α : Type} {g f : Nat → Option α} {Q : α → Prop} (h : ∀ k, g k = f k) (k : Ok f Q) : Ok g Q := by
  obtain ⟨r, hr, hq⟩ := k
  exact ⟨r, Ev.congr h hr, hq⟩
theorem Ok.mono {α : Type} {g : Nat → Option α} {P Q : α → Prop} (h : Ok g P) (k : ∀ a, P a → Q a) : Ok g Q := by
  obtain ⟨r, hr, hp⟩ := h
  exact ⟨r, hr, k r hp⟩
theorem Ok.and {α : Type} {g : Nat → Option α} {P Q : α → Prop} (h : Ok g P) (k : Ok g Q) : Ok g (fun a => P a ∧ Q a) := by
  obtain ⟨r, ⟨K, hr⟩, hp⟩ := h
  obtain ⟨r', ⟨K', hr'⟩, hq⟩ := k
  have h1 := hr (max K K') (by omega)
  have h2 := hr' (max K K') (by omega)
  obtain rfl : r = r' := by rw [h1] at h2; injection h2
  exact ⟨r, ⟨K, hr⟩, hp, hq⟩
theorem Ok.rounds {α : Type} {g : Nat → Option α} {r : α} (h : Ok g (· = r)) : ∃ k, g k = some r := by
  obtain ⟨_, hr, rfl⟩ := h
  exact hr.rounds
theorem Ok.eq {α : Type} {g : Nat → Option α} {r : α} {Q : α → Prop} (h : Ok g (· = r)) (q : Q r) : Ok g Q := h.mono fun _ e => by subst e; exact q
theorem wrap_id {n : Int} (h0 : -9223372036854775808 ≤ n) (h1 : n ≤ 9223372036854775807) : wrap64 n = n := by unfold wrap64; omega
theorem wf64 {n : Int} (h : (Lit.int .i64 n).wf = true) : -9223372036854775808 ≤ n ∧ n ≤ 9223372036854775807 := by
  simp [Lit.wf, IntKind.min, IntKind.max, IntKind.signed, IntKind.bits] at h
  omega
theorem wfu8 {n : Int} (h : (Lit.int .u8 n).wf = true) : 0 ≤ n ∧ n ≤ 255 := by
  simp [Lit.wf, IntKind.min, IntKind.max, IntKind.signed, IntKind.bits] at h
  omega
/-- A loop that counts an index up to n, with what else it carries in s. -/
theorem Ok.range {σ ρ : Type} (L : σ → Int → Nat → Option ρ) (n : Nat) (Inv : Nat → σ → Prop) (Q : ρ → Prop)
    (step : ∀ (i : Nat) (s : σ), i < n → Inv i s → (∀ s', Inv (i + 1) s' → Ok (L s' ((i : Int) + 1)) Q) → Ok (L s (i : Int)) Q)
    (last : ∀ s, Inv n s → Ok (L s (n : Int)) Q) : ∀ s, Inv 0 s → Ok (L s 0) Q := by
  have key : ∀ d i, i + d = n → ∀ s, Inv i s → Ok (L s (i : Int)) Q := by
    intro d
    induction d with
    | zero => intro i hi s hs; obtain rfl : i = n := (by omega); exact last s hs
    | succ d ih =>
      intro i hi s hs
      refine step i s (by omega) hs fun s' hs' => ?_
      have := ih (i + 1) (by omega) s' hs'
      rwa [show ((i + 1 : Nat) : Int) = (i : Int) + 1 by omega] at this
  exact fun s hs => key n 0 (by omega) s hs
/-- The same for a loop that counts down from n - 1. -/
theorem Ok.down {σ ρ : Type} (L : σ → Int → Nat → Option ρ) (n : Nat) (Inv : Nat → σ → Prop) (Q : ρ → Prop)
    (step : ∀ (i : Nat) (s : σ), i < n → Inv (i + 1) s → (∀ s', Inv i s' → Ok (L s' ((i : Int) - 1)) Q) → Ok (L s (i : Int)) Q)
    (last : ∀ s, Inv 0 s → Ok (L s (-1)) Q) : ∀ s, Inv n s → Ok (L s ((n : Int) - 1)) Q := by
  have key : ∀ i, i ≤ n → ∀ s, Inv i s → Ok (L s ((i : Int) - 1)) Q := by
    intro i
    induction i with
    | zero => intro _ s hs; exact last s hs
    | succ i ih =>
      intro hi s hs
      have := step i s (by omega) hs fun s' hs' => ih (by omega) s' hs'
      rwa [show ((i + 1 : Nat) : Int) - 1 = (i : Int) by omega]
  exact fun s hs => key n (Nat.le_refl _) s hs
theorem bool_of_iff {a b : Bool} {P : Prop} (h : a = true ↔ P) (k : b = true ↔ P) : a = b := by
  cases a <;> cases b <;> simp_all
theorem take_next {α : Type} {l : List α} {i : Nat} (d : α) (h : i < l.length) : l.take (i + 1) = l.take i ++ [l.getD i d] := by
  rw [List.take_succ_eq_append_getElem h, List.getD_eq_getElem?_getD, List.getElem?_eq_getElem h, Option.getD_some]
theorem getD_at {α : Type} (l : List α) (d : α) (i : Nat) (h : i < l.length) : l.getD i d = l[i] := by
  rw [List.getD_eq_getElem?_getD, List.getElem?_eq_getElem h, Option.getD_some]
theorem len_small {α : Type} {l : List α} (h : l.length ≤ maxLen) : (l.length : Int) ≤ 9223372036854775807 := by unfold maxLen at h; omega
end Go.Proofs.Ytehenjjaekkcfaa.Pure
/- Ranges, and the bits of sets. No conditions. -/
namespace Go.Proofs.Ytehenjjaekkcfaa.Pure
open Go.RowKit Go.Proofs.YtehenjjaekkcfaaW.PrintWords Go.Proofs.YtehenjjaekkcfaaW.PrintLast
set_option linter.unusedVariables false
set_option linter.unusedSimpArgs false

def inr (a lo hi : Int) : Bool := decide (lo ≤ a ∧ a ≤ hi)
theorem inr_iff (a lo hi : Int) : inr a lo hi = true ↔ lo ≤ a ∧ a ≤ hi := by simp [inr]
theorem bits_nat64 (a b : Nat) (ha : a < 256) (hb : b < 256) : Go.bits .and .i64 (a : Int) (b : Int) = ((a &&& b : Nat) : Int) ∧ Go.bits .or .i64 (a : Int) (b : Int) = ((a ||| b : Nat) : Int) :=
  Go.bits_nat .i64 8 (by decide) (fun n h0 h1 => by rw [IntKind.wrap_i64]; omega) a b ha hb
theorem set_nat {a : Int} (h : 0 ≤ a ∧ a ≤ 255) : ∃ n : Nat, a = (n : Int) ∧ n < 256 := ⟨a.toNat, by omega, by omega⟩
end Go.Proofs.Ytehenjjaekkcfaa.Pure
/- The reference's ranges and sets. No conditions. -/
namespace Go.Proofs.Ytehenjjaekkcfaa.Pure
open Go.RowKit Go.Proofs.YtehenjjaekkcfaaW.PrintWords Go.Proofs.YtehenjjaekkcfaaW.PrintLast Go.Proofs.Ytehenjjaekkcfaa.Q
set_option linter.unusedVariables false
set_option linter.unusedSimpArgs false

theorem l6In_eq (a lo hi : Int) : spec_l6In.f a lo hi = some (inr a lo hi) := by
  unfold spec_l6In.f inr
  by_cases h : a ≥ lo
  · rw [if_pos h]; simp [h]
  · rw [if_neg h]; simp; omega
theorem l3Set_eq (a : Int) : spec_l3Set.f a = some (inr a 0 255) := by simp only [spec_l3Set.f, l6In_eq, Option.bind_some]
end Go.Proofs.Ytehenjjaekkcfaa.Pure
/- The program's ranges, sets and kinds. No conditions. -/
namespace Go.Proofs.Ytehenjjaekkcfaa.Pure
open Go.RowKit Go.Proofs.YtehenjjaekkcfaaW.PrintWords Go.Proofs.YtehenjjaekkcfaaW.PrintLast Go.Proofs.Ytehenjjaekkcfaa.Q
set_option linter.unusedVariables false
set_option linter.unusedSimpArgs false

theorem within_eq (a lo hi : Int) : impl_within.f a lo hi = some (inr a lo hi) := by
  unfold impl_within.f inr
  by_cases h : a ≥ lo
  · rw [if_pos h]; simp [h]
  · rw [if_neg h]; simp; omega
theorem isSet_eq (a : Int) : impl_isSet.f a = some (inr a 0 255) := by simp only [impl_isSet.f, within_eq, Option.bind_some]
theorem isKind_eq (a : Int) : impl_isKind.f a = some (inr a 1 5) := by simp only [impl_isKind.f, within_eq, Option.bind_some]
end Go.Proofs.Ytehenjjaekkcfaa.Pure
/- When a guest is valid. No conditions. -/
namespace Go.Proofs.Ytehenjjaekkcfaa.Pure
open Go.RowKit Go.Proofs.YtehenjjaekkcfaaW.PrintWords Go.Proofs.YtehenjjaekkcfaaW.PrintLast Go.Proofs.Ytehenjjaekkcfaa.Q
set_option linter.unusedVariables false
set_option linter.unusedSimpArgs false

def gB (a b c : Int) : Bool := inr a 1 99 && inr b 1 4 && inr c 0 255
theorem gB_iff (a b c : Int) : gB a b c = true ↔ (1 ≤ a ∧ a ≤ 99) ∧ (1 ≤ b ∧ b ≤ 4) ∧ 0 ≤ c ∧ c ≤ 255 := by simp [gB, inr_iff, and_assoc]
theorem sGuest_eq (a b c : Int) : spec_l12Guest.f a b c = some (gB a b c) := by
  unfold spec_l12Guest.f gB
  simp only [l6In_eq, l3Set_eq, Option.bind_some]
  cases inr a 1 99 <;> cases inr b 1 4 <;> rfl
theorem iGuest_eq (a b c : Int) : impl_guestValid.f a b c = some (gB a b c) := by
  unfold impl_guestValid.f gB
  simp only [within_eq, isSet_eq, Option.bind_some]
  cases inr a 1 99 <;> cases inr b 1 4 <;> rfl
end Go.Proofs.Ytehenjjaekkcfaa.Pure
/- When guests are valid, in the program and in the reference. Condition: at most 2,000,000. -/
namespace Go.Proofs.Ytehenjjaekkcfaa.Pure
open Go.RowKit Go.Proofs.YtehenjjaekkcfaaW.PrintWords Go.Proofs.YtehenjjaekkcfaaW.PrintLast Go.Proofs.Ytehenjjaekkcfaa.Q
set_option linter.unusedVariables false
set_option linter.unusedSimpArgs false

abbrev Gst := S43
def gAt (l : List Gst) (i : Nat) : Gst := l.getD i z43
theorem gAt_rd (l : List Gst) (i : Nat) : rd_T43 l (i : Int) = gAt l i := rfl
theorem gAt_prev (l : List Gst) (i : Nat) (h : 0 < i) : rd_T43 l ((i : Int) - 1) = gAt l (i - 1) := by
  unfold rd_T43 gAt
  rw [show ((i : Int) - 1).toNat = i - 1 by omega]
/-- element i is as it must be -/
def gGood (l : List Gst) (i : Nat) : Prop := gB (gAt l i).f0 (gAt l i).f1 (gAt l i).f2 = true ∧ (0 < i → (gAt l (i - 1)).f0 < (gAt l i).f0)
/-- guests are valid -/
def GV (l : List Gst) : Prop := l.length ≤ 10 ∧ ∀ i, i < l.length → gGood l i
theorem sGuests_ok (l : List Gst) (hl : l.length ≤ 2000000) : Ok (fun k => spec_GuestsValid.f k l) (fun r => r = true ↔ GV l) := by
  unfold spec_GuestsValid.f
  refine Ok.range (fun (_ : Unit) i k => spec_GuestsValid.l0 k l i) l.length (fun i _ => ∀ j, j < i → gGood l j) _ ?_ ?_ () (fun j hj => absurd hj (by omega))
  · intro i _ hi hinv ih
    have ew : wrap64 ((i : Int) + 1) = (i : Int) + 1 := wrap_id (by omega) (by omega)
    have ew' : wrap64 ((i : Int) - 1) = (i : Int) - 1 := wrap_id (by omega) (by omega)
    refine Ok.step (fun k => by simp only [spec_GuestsValid.l0]; rfl) (Ok.pos (by omega) (Ok.pos (by omega) ?_))
    simp only [sGuest_eq, Option.bind_some, ew, ew', gAt_rd]
    have bad : ¬ gGood l i → Ok (fun _ => some false) (fun r : Bool => r = true ↔ GV l) := fun h => Ok.ret (by
      constructor
      · intro h'; cases h'
      · intro h'; exact absurd (h'.2 i hi) h)
    have good : gGood l i → Ok (fun k => spec_GuestsValid.l0 k l ((i : Int) + 1)) (fun r : Bool => r = true ↔ GV l) := fun h => ih () (fun j hj => by
      rcases Nat.lt_succ_iff_lt_or_eq.1 hj with h1 | rfl
      · exact hinv j h1
      · exact h)
    refine Ok.ite (fun h1 => Ok.ite (fun h2 => ?_) (fun h2 => good ⟨h1, fun h => absurd h (by omega)⟩)) (fun h1 => bad fun h => h1 h.1)
    refine Ok.pos (by omega) (Ok.pos (by omega) ?_)
    simp only [gAt_prev l i (by omega)]
    refine Ok.ite (fun h3 => bad fun h => ?_) (fun h3 => good ⟨h1, fun _ => by omega⟩)
    have := h.2 (by omega)
    omega
  · intro _ hinv
    refine Ok.step (fun k => by simp only [spec_GuestsValid.l0]; rfl) (Ok.neg (by omega) (Ok.ret ?_))
    rw [decide_eq_true_iff]
    exact ⟨fun h => ⟨by omega, hinv⟩, fun h => by have := h.1; omega⟩
theorem iGuests_ok (l : List Gst) (hl : l.length ≤ 2000000) : Ok (fun k => impl_GuestsValid.f k l) (fun r => r = true ↔ GV l) := by
  unfold impl_GuestsValid.f
  refine Ok.range (fun (_ : Unit) i k => impl_GuestsValid.l0 k l l (l.length : Int) i) l.length (fun i _ => ∀ j, j < i → gGood l j) _ ?_ ?_ () (fun j hj => absurd hj (by omega))
  · intro i _ hi hinv ih
    have ew : wrap64 ((i : Int) + 1) = (i : Int) + 1 := wrap_id (by omega) (by omega)
    have ew' : wrap64 ((i : Int) - 1) = (i : Int) - 1 := wrap_id (by omega) (by omega)
    refine Ok.step (fun k => by simp only [impl_GuestsValid.l0]; rfl) (Ok.pos (by omega) (Ok.pos (by omega) (Ok.pos (by omega) ?_)))
    simp only [iGuest_eq, Option.bind_some, ew, ew', gAt_rd]
    have bad : ¬ gGood l i → Ok (fun _ => some false) (fun r : Bool => r = true ↔ GV l) := fun h => Ok.ret (by
      constructor
      · intro h'; cases h'
      · intro h'; exact absurd (h'.2 i hi) h)
    have good : gGood l i → Ok (fun k => impl_GuestsValid.l0 k l l (l.length : Int) ((i : Int) + 1)) (fun r : Bool => r = true ↔ GV l) := fun h => ih () (fun j hj => by
      rcases Nat.lt_succ_iff_lt_or_eq.1 hj with h1 | rfl
      · exact hinv j h1
      · exact h)
    refine Ok.ite (fun h1 => Ok.ite (fun h2 => ?_) (fun h2 => good ⟨h1, fun h => absurd h (by omega)⟩)) (fun h1 => bad fun h => h1 h.1)
    refine Ok.pos (by omega) (Ok.pos (by omega) ?_)
    simp only [gAt_prev l i (by omega)]
    refine Ok.ite (fun h3 => bad fun h => ?_) (fun h3 => good ⟨h1, fun _ => by omega⟩)
    have := h.2 (by omega)
    omega
  · intro _ hinv
    refine Ok.step (fun k => by simp only [impl_GuestsValid.l0]; rfl) (Ok.neg (by omega) (Ok.ret ?_))
    rw [decide_eq_true_iff]
    exact ⟨fun h => ⟨by omega, hinv⟩, fun h => by have := h.1; omega⟩
end Go.Proofs.Ytehenjjaekkcfaa.Pure
/- Diets: what DietAllows answers, in the program and in the reference. No conditions. -/
namespace Go.Proofs.Ytehenjjaekkcfaa.Pure
open Go.RowKit Go.Proofs.YtehenjjaekkcfaaW.PrintWords Go.Proofs.YtehenjjaekkcfaaW.PrintLast Go.Proofs.Ytehenjjaekkcfaa.Q
set_option linter.unusedVariables false
set_option linter.unusedSimpArgs false

def dietB (d k : Int) : Bool := decide (1 ≤ d ∧ d ≤ 4 ∧ 1 ≤ k ∧ k ≤ 5 ∧ (d = 2 → k ≤ 4) ∧ (d = 3 → k ≤ 3) ∧ (d = 4 → k ≤ 1))
theorem dietB_iff (d k : Int) : dietB d k = true ↔ 1 ≤ d ∧ d ≤ 4 ∧ 1 ≤ k ∧ k ≤ 5 ∧ (d = 2 → k ≤ 4) ∧ (d = 3 → k ≤ 3) ∧ (d = 4 → k ≤ 1) := by unfold dietB; exact decide_eq_true_iff
theorem last_eq (d : Int) (h : 1 ≤ d ∧ d ≤ 4) : ∃ m, spec_l12Last.f d = some m ∧ (d = 1 → m = 5) ∧ (d = 2 → m = 4) ∧ (d = 3 → m = 3) ∧ (d = 4 → m = 1) := by
  have : d = 1 ∨ d = 2 ∨ d = 3 ∨ d = 4 := by omega
  rcases this with rfl | rfl | rfl | rfl <;> exact ⟨_, rfl, by decide, by decide, by decide, by decide⟩
theorem sDiet_eq (d k : Int) : spec_DietAllows.f d k = some (dietB d k) := by
  unfold spec_DietAllows.f
  simp only [l6In_eq, Option.bind_some]
  cases h1 : inr d 1 4 with
  | false =>
    have : dietB d k = false := by
      rw [Bool.eq_false_iff]; intro h
      rw [dietB_iff] at h
      have : inr d 1 4 = true := (inr_iff _ _ _).2 ⟨h.1, h.2.1⟩
      rw [h1] at this; cases this
    rw [this]; rfl
  | true =>
    have hd := (inr_iff _ _ _).1 h1
    cases h2 : inr k 1 5 with
    | false =>
      have : dietB d k = false := by
        rw [Bool.eq_false_iff]; intro h
        rw [dietB_iff] at h
        have : inr k 1 5 = true := (inr_iff _ _ _).2 ⟨h.2.2.1, h.2.2.2.1⟩
        rw [h2] at this; cases this
      rw [this]; rfl
    | true =>
      have hk := (inr_iff _ _ _).1 h2
      obtain ⟨m, hm, m1, m2, m3, m4⟩ := last_eq d hd
      rw [if_pos rfl, if_pos rfl, hm]
      simp only [Option.bind_some, Option.some.injEq]
      have : (k ≤ m) ↔ dietB d k = true := by
        rw [dietB_iff]
        have : d = 1 ∨ d = 2 ∨ d = 3 ∨ d = 4 := by omega
        omega
      rw [Bool.eq_iff_iff, ← this, decide_eq_true_iff]
theorem iDiet_eq (d k : Int) : impl_DietAllows.f d k = some (dietB d k) := by
  unfold impl_DietAllows.f
  simp only [isKind_eq, Option.bind_some]
  cases h2 : inr k 1 5 with
  | false =>
    have : dietB d k = false := by
      rw [Bool.eq_false_iff]; intro h
      rw [dietB_iff] at h
      have : inr k 1 5 = true := (inr_iff _ _ _).2 ⟨h.2.2.1, h.2.2.2.1⟩
      rw [h2] at this; cases this
    rw [this]; rfl
  | true =>
    have hk := (inr_iff _ _ _).1 h2
    rw [if_pos rfl]
    have key : ∀ b : Bool, (b = true ↔ dietB d k = true) → b = dietB d k := fun b h => Bool.eq_iff_iff.2 h
    split
    · rename_i e; subst e
      exact congrArg some (key _ (by rw [dietB_iff]; simp; omega))
    split
    · rename_i e; subst e
      exact congrArg some (key _ (by rw [dietB_iff]; simp; omega))
    split
    · rename_i e; subst e
      split
      · rename_i e; subst e
        exact congrArg some (key _ (by rw [dietB_iff]; simp))
      · exact congrArg some (key _ (by rw [dietB_iff]; simp; omega))
    split
    · rename_i e; subst e
      exact congrArg some (key _ (by rw [dietB_iff]; simp; omega))
    · exact congrArg some (key _ (by rw [dietB_iff]; simp; omega))
end Go.Proofs.Ytehenjjaekkcfaa.Pure
/- The weight of an allergen: two to the power of its number, up to 8. -/
namespace Go.Proofs.Ytehenjjaekkcfaa.Pure
open Go.RowKit Go.Proofs.YtehenjjaekkcfaaW.PrintWords Go.Proofs.YtehenjjaekkcfaaW.PrintLast Go.Proofs.Ytehenjjaekkcfaa.Q
set_option linter.unusedVariables false
set_option linter.unusedSimpArgs false

theorem pow_le (i : Nat) (h : i ≤ 8) : (1 : Int) ≤ 2 ^ i ∧ (2 : Int) ^ i ≤ 256 := by
  have h1 : 2 ^ i ≤ 2 ^ 8 := Nat.pow_le_pow_right (by decide) h
  have h2 : 0 < 2 ^ i := Nat.two_pow_pos i
  constructor
  · have : ((2 ^ i : Nat) : Int) = (2 : Int) ^ i := by simp
    omega
  · have : ((2 ^ i : Nat) : Int) = (2 : Int) ^ i := by simp
    omega
theorem weight_ok (n : Nat) (h : n ≤ 8) : Ok (fun k => spec_l3Weight.f k (n : Int)) (· = (2 : Int) ^ n) := by
  unfold spec_l3Weight.f
  refine Ok.range (fun (s : Int) i k => spec_l3Weight.l0 k (n : Int) s i) n (fun i s => s = 2 ^ i) _ ?_ ?_ 1 rfl
  · rintro i _ hi rfl ih
    have hp := pow_le i (by omega)
    refine Ok.step (fun k => by simp only [spec_l3Weight.l0]; rfl) (Ok.pos (by omega) ?_)
    rw [wrap_id (n := (i : Int) + 1) (by omega) (by omega), wrap_id (n := 2 * 2 ^ i) (by omega) (by omega)]
    exact ih _ (by rw [Int.pow_succ, Int.mul_comm])
  · rintro _ rfl
    exact Ok.step (fun k => by simp only [spec_l3Weight.l0]; rfl) (Ok.neg (by omega) (Ok.ret rfl))
end Go.Proofs.Ytehenjjaekkcfaa.Pure
/- Does a set have an allergen? Conditions: the set is in the range 0 to 255, the allergen at most 8. -/
namespace Go.Proofs.Ytehenjjaekkcfaa.Pure
open Go.RowKit Go.Proofs.YtehenjjaekkcfaaW.PrintWords Go.Proofs.YtehenjjaekkcfaaW.PrintLast Go.Proofs.Ytehenjjaekkcfaa.Q
set_option linter.unusedVariables false
set_option linter.unusedSimpArgs false

theorem has_ok (a : Nat) (ha : a < 256) (i : Nat) (h : i ≤ 8) : Ok (fun k => spec_l3Has.f k (a : Int) (i : Int)) (· = a.testBit i) := by
  unfold spec_l3Has.f
  refine Ok.bind (weight_ok i h) ?_
  rintro _ rfl
  have hp := pow_le i h
  refine Ok.neg (by omega) (Ok.ret ?_)
  have e : ((2 : Int) ^ i) = ((2 ^ i : Nat) : Int) := by simp
  rw [e, Int.tdiv_eq_ediv_of_nonneg (by omega), ← Int.natCast_ediv]
  have hd : a / 2 ^ i ≤ a := Nat.div_le_self _ _
  generalize hq : a / 2 ^ i = q at hd
  rw [wrap_id (n := ((q : Nat) : Int)) (by omega) (by omega), Int.tmod_eq_emod_of_nonneg (by omega), Nat.testBit_eq_decide_div_mod_eq, hq]
  by_cases h1 : q % 2 = 1
  · rw [decide_eq_true h1, beq_iff_eq]; omega
  · rw [decide_eq_false h1, beq_eq_false_iff_ne]; omega
theorem mod_next (x i : Nat) : x % 2 ^ (i + 1) = x % 2 ^ i + (if x.testBit i = true then 2 ^ i else 0) := by
  rw [Nat.mod_pow_succ, Nat.testBit_eq_decide_div_mod_eq]
  have h := Nat.mod_two_eq_zero_or_one (x / 2 ^ i)
  rcases h with h | h <;> simp [h]
theorem cast_mod (x i : Nat) (hi : i ≤ 8) (hx : x < 256) : 0 ≤ ((x % 2 ^ i : Nat) : Int) ∧ ((x % 2 ^ i : Nat) : Int) ≤ 255 := by
  have := Nat.mod_le x (2 ^ i)
  omega
end Go.Proofs.Ytehenjjaekkcfaa.Pure
/- The reference's common part of two sets. Conditions: sets in the range 0 to 255. -/
namespace Go.Proofs.Ytehenjjaekkcfaa.Pure
open Go.RowKit Go.Proofs.YtehenjjaekkcfaaW.PrintWords Go.Proofs.YtehenjjaekkcfaaW.PrintLast Go.Proofs.Ytehenjjaekkcfaa.Q
set_option linter.unusedVariables false
set_option linter.unusedSimpArgs false

theorem meet_ok (a b : Nat) (ha : a < 256) (hb : b < 256) : Ok (fun k => spec_l3Meet.f k (a : Int) (b : Int)) (· = ((a &&& b : Nat) : Int)) := by
  unfold spec_l3Meet.f
  have hab : a &&& b < 256 := Nat.and_lt_two_pow (n := 8) _ hb
  refine Ok.range (fun (s : Int) i k => spec_l3Meet.l0 k (a : Int) (b : Int) s i) 8 (fun i s => s = (((a &&& b) % 2 ^ i : Nat) : Int)) _ ?_ ?_ 0 (by simp [Nat.mod_one])
  · rintro i _ hi rfl ih
    have hr := cast_mod (a &&& b) i (by omega) hab
    have hp := pow_le i (by omega)
    have hn := mod_next (a &&& b) i
    have ew : wrap64 ((i : Int) + 1) = (i : Int) + 1 := wrap_id (by omega) (by omega)
    rw [Nat.testBit_and] at hn
    refine Ok.step (fun k => by simp only [spec_l3Meet.l0]; rfl) (Ok.pos (by omega) (Ok.bind (has_ok a ha i (by omega)) ?_))
    rintro _ rfl
    cases h1 : a.testBit i with
    | false =>
      refine Ok.neg (by simp) ?_
      rw [ew]
      exact ih _ (by rw [hn, h1]; simp)
    | true =>
      refine Ok.pos rfl (Ok.bind (has_ok b hb i (by omega)) ?_)
      rintro _ rfl
      cases h2 : b.testBit i with
      | false =>
        refine Ok.neg (by simp) ?_
        rw [ew]
        exact ih _ (by rw [hn, h2]; simp)
      | true =>
        refine Ok.pos rfl (Ok.bind (weight_ok i (by omega)) ?_)
        rintro _ rfl
        rw [ew, wrap_id (n := _ + 2 ^ i) (by omega) (by omega)]
        exact ih _ (by rw [hn, h1, h2]; simp)
  · rintro _ rfl
    refine Ok.step (fun k => by simp only [spec_l3Meet.l0]; rfl) (Ok.neg (by omega) (Ok.ret ?_))
    rw [Nat.mod_eq_of_lt hab]
end Go.Proofs.Ytehenjjaekkcfaa.Pure
/- Who may eat what: GuestMay, in the program and in the reference. No conditions. -/
namespace Go.Proofs.Ytehenjjaekkcfaa.Pure
open Go.RowKit Go.Proofs.YtehenjjaekkcfaaW.PrintWords Go.Proofs.YtehenjjaekkcfaaW.PrintLast Go.Proofs.Ytehenjjaekkcfaa.Q
set_option linter.unusedVariables false
set_option linter.unusedSimpArgs false

def mayB (a b c s k : Int) : Bool := gB a b c && inr s 0 255 && decide (Go.bits .and .i64 c s = 0) && dietB b k
theorem iMay_eq (a b c s k : Int) : impl_GuestMay.f a b c s k = some (mayB a b c s k) := by
  unfold impl_GuestMay.f mayB
  simp only [iGuest_eq, isSet_eq, iDiet_eq, Option.bind_some]
  cases gB a b c <;> cases inr s 0 255 <;> by_cases h : Go.bits .and .i64 c s = 0 <;> simp [h]
theorem sMay_ok (a b c s k : Int) : Ok (fun n => spec_GuestMay.f n a b c s k) (· = mayB a b c s k) := by
  unfold spec_GuestMay.f mayB
  simp only [sGuest_eq, l3Set_eq, sDiet_eq, Option.bind_some]
  cases h1 : gB a b c with
  | false => exact Ok.neg (by simp) (Ok.ret (by simp))
  | true =>
    refine Ok.pos rfl ?_
    cases h2 : inr s 0 255 with
    | false => exact Ok.neg (by simp) (Ok.ret (by simp))
    | true =>
      refine Ok.pos rfl ?_
      cases h3 : dietB b k with
      | false => exact Ok.neg (by simp) (Ok.ret (by simp))
      | true =>
        refine Ok.pos rfl ?_
        obtain ⟨x, rfl, hx⟩ := set_nat ((gB_iff _ _ _).1 h1).2.2
        obtain ⟨y, rfl, hy⟩ := set_nat ((inr_iff _ _ _).1 h2)
        refine Ok.bind (meet_ok x y hx hy) ?_
        rintro _ rfl
        refine Ok.ret ?_
        rw [(bits_nat64 x y hx hy).1]
        simp only [Bool.true_and, Bool.and_true]
        rw [Bool.eq_iff_iff, decide_eq_true_iff, beq_iff_eq]
end Go.Proofs.Ytehenjjaekkcfaa.Pure
/- Lists, read and written element by element. No conditions. -/
namespace Go.Proofs.Ytehenjjaekkcfaa.Pure
open Go.RowKit Go.Proofs.YtehenjjaekkcfaaW.PrintWords Go.Proofs.YtehenjjaekkcfaaW.PrintLast
set_option linter.unusedVariables false
set_option linter.unusedSimpArgs false

theorem rd_nat (l : List Int) (i : Nat) : rd l (i : Int) = l.getD i 0 := rfl
theorem eq_of_getD {α : Type} {a b : List α} (d : α) (h : a.length = b.length) (k : ∀ i, i < a.length → a.getD i d = b.getD i d) : a = b := by
  refine List.ext_getElem h fun i h1 h2 => ?_
  have := k i h1
  rwa [getD_at _ _ _ h1, getD_at _ _ _ h2] at this
theorem getD_set {α : Type} (l : List α) (d v : α) (i j : Nat) (hi : i < l.length) : (l.set i v).getD j d = if j = i then v else l.getD j d := by
  rw [List.getD_eq_getElem?_getD, List.getElem?_set]
  by_cases h : i = j
  · subst h; simp [hi]
  · rw [if_neg h, if_neg (fun e => h e.symm), ← List.getD_eq_getElem?_getD]
theorem getD_snoc {α : Type} (l : List α) (d v : α) (j : Nat) : (l ++ [v]).getD j d = if j = l.length then v else l.getD j d := by
  rw [List.getD_eq_getElem?_getD, List.getElem?_append]
  by_cases h : j < l.length
  · rw [if_pos h, if_neg (by omega), ← List.getD_eq_getElem?_getD]
  · rw [if_neg h]
    by_cases e : j = l.length
    · subst e; simp
    · rw [if_neg e, List.getElem?_eq_none (by simp; omega), List.getD_eq_getElem?_getD, List.getElem?_eq_none (by omega)]
theorem skip_getD {α : Type} (l : List α) (d : α) (k i : Nat) (hk : k < l.length) : (l.take k ++ l.drop (k + 1)).getD i d = if i < k then l.getD i d else l.getD (i + 1) d := by
  simp only [List.getD_eq_getElem?_getD, List.getElem?_append, List.length_take]
  by_cases h : i < k
  · rw [if_pos h, if_pos (by omega), List.getElem?_take, if_pos h]
  · rw [if_neg h, if_neg (by omega), List.getElem?_drop, show k + 1 + (i - min k l.length) = i + 1 by omega]
theorem skip_len {α : Type} (l : List α) (k : Nat) (hk : k < l.length) : (l.take k ++ l.drop (k + 1)).length = l.length - 1 := by simp; omega
end Go.Proofs.Ytehenjjaekkcfaa.Pure
/- When choices are valid, in the program and in the reference. Condition: at most 2,000,000. -/
namespace Go.Proofs.Ytehenjjaekkcfaa.Pure
open Go.RowKit Go.Proofs.YtehenjjaekkcfaaW.PrintWords Go.Proofs.YtehenjjaekkcfaaW.PrintLast Go.Proofs.Ytehenjjaekkcfaa.Q
set_option linter.unusedVariables false
set_option linter.unusedSimpArgs false
abbrev Chc := S32
def cAt (l : List Chc) (i : Nat) : Chc := l.getD i z32
theorem cAt_rd (l : List Chc) (i : Nat) : rd_T32 l (i : Int) = cAt l i := rfl
def cB (x : Chc) : Bool := inr x.f0 0 255 && inr x.f1 1 5 && inr x.f2 0 10
theorem cB_iff (x : Chc) : cB x = true ↔ (0 ≤ x.f0 ∧ x.f0 ≤ 255) ∧ (1 ≤ x.f1 ∧ x.f1 ≤ 5) ∧ 0 ≤ x.f2 ∧ x.f2 ≤ 10 := by simp [cB, inr_iff, and_assoc]
theorem bad_eq (x : Chc) : impl_ChoicesValid.bad x = !cB x := by
  unfold impl_ChoicesValid.bad
  by_cases h0 : 0 ≤ x.f0 ∧ x.f0 ≤ 255
  · rw [if_pos h0]
    by_cases h1 : 1 ≤ x.f1 ∧ x.f1 ≤ 5
    · rw [if_pos h1]
      simp [cB, inr, h0, h1]
    · rw [if_neg h1]
      simp [cB, inr, h1]
  · rw [if_neg h0]
    simp [cB, inr, h0]
def CV (l : List Chc) : Prop := (1 ≤ l.length ∧ l.length ≤ 4) ∧ ∀ i, i < l.length → cB (cAt l i) = true
theorem CV_iff (l : List Chc) : CV l ↔ (1 ≤ l.length ∧ l.length ≤ 4) ∧ ∀ x ∈ l, cB x = true := by
  unfold CV
  refine and_congr_right fun _ => ⟨fun h x hx => ?_, fun h i hi => ?_⟩
  · obtain ⟨j, hj, rfl⟩ := List.mem_iff_getElem.1 hx
    have := h j hj
    unfold cAt at this
    rwa [getD_at _ _ _ hj] at this
  · unfold cAt
    rw [getD_at _ _ _ hi]
    exact h _ (List.getElem_mem hi)
theorem iChoices_eq (l : List Chc) : ∃ b, impl_ChoicesValid.f l = some b ∧ (b = true ↔ CV l) := by
  unfold impl_ChoicesValid.f
  by_cases h : 1 ≤ (l.length : Int) ∧ (l.length : Int) ≤ 4
  · rw [if_pos h]
    refine ⟨_, rfl, ?_⟩
    rw [CV_iff]
    simp only [Bool.not_eq_true', List.any_eq_false, bad_eq]
    constructor
    · intro h'; exact ⟨by omega, fun x hx => by simpa using h' x hx⟩
    · intro h' x hx; simp [h'.2 x hx]
  · rw [if_neg h]
    exact ⟨_, rfl, fun h' => (by cases h'), fun h' => absurd h'.1 (by omega)⟩
theorem sChoices_ok (l : List Chc) (hl : l.length ≤ 2000000) : Ok (fun k => spec_ChoicesValid.f k l) (fun r => r = true ↔ CV l) := by
  unfold spec_ChoicesValid.f
  refine Ok.range (fun (_ : Unit) i k => spec_ChoicesValid.l0 k l i) l.length (fun i _ => ∀ j, j < i → cB (cAt l j) = true) _ ?_ ?_ () (fun j hj => absurd hj (by omega))
  · intro i _ hi hinv ih
    have ew : wrap64 ((i : Int) + 1) = (i : Int) + 1 := wrap_id (by omega) (by omega)
    refine Ok.step (fun k => by simp only [spec_ChoicesValid.l0]; rfl) (Ok.pos (by omega) (Ok.pos (by omega) ?_))
    simp only [l3Set_eq, l6In_eq, Option.bind_some, ew, cAt_rd]
    have bad : cB (cAt l i) = false → Ok (fun _ => some false) (fun r : Bool => r = true ↔ CV l) := fun h => Ok.ret ⟨fun h' => (by cases h'), fun h' => by rw [h'.2 i hi] at h; cases h⟩
    refine Ok.ite (fun h1 => Ok.ite (fun h2 => Ok.ite (fun h3 => ih () fun j hj => ?_) (fun h => bad ?_)) (fun h => bad ?_)) (fun h => bad ?_)
    · rcases Nat.lt_succ_iff_lt_or_eq.1 hj with h4 | rfl
      · exact hinv j h4
      · simp [cB, h1, h2, h3]
    · simp [cB, Bool.not_eq_true _ ▸ h]
    · simp [cB, Bool.not_eq_true _ ▸ h]
    · simp [cB, Bool.not_eq_true _ ▸ h]
  · intro _ hinv
    refine Ok.step (fun k => by simp only [spec_ChoicesValid.l0]; rfl) (Ok.neg (by omega) ?_)
    simp only [l6In_eq, Option.bind_some]
    refine Ok.ret ?_
    rw [inr_iff]
    exact ⟨fun h => ⟨by omega, hinv⟩, fun h => by have := h.1; omega⟩
end Go.Proofs.Ytehenjjaekkcfaa.Pure
/- The first choice of each guest, in the program and in the reference. Conditions: at most 2,000,000 guests and choices. -/
namespace Go.Proofs.Ytehenjjaekkcfaa.Pure
open Go.RowKit Go.Proofs.YtehenjjaekkcfaaW.PrintWords Go.Proofs.YtehenjjaekkcfaaW.PrintLast Go.Proofs.Ytehenjjaekkcfaa.Q
set_option linter.unusedVariables false
set_option linter.unusedSimpArgs false
def mayC (g : Gst) (c : Chc) : Bool := mayB g.f0 g.f1 g.f2 c.f0 c.f1
theorem may_eq (a b c d e f : Int) : impl_Choice_may.f a b c d e f = some (mayB d e f a b) := by simp only [impl_Choice_may.f, iMay_eq, Option.bind_some]
theorem pick_eq (g : Gst) (c : Chc) : impl_ServeFirst.pick g c = mayC g c := by unfold impl_ServeFirst.pick; rw [may_eq]; rfl
theorem l14May_ok (a b c d e f : Int) : Ok (fun k => spec_l14May.f k a b c d e f) (· = mayB a b c d e) := by
  unfold spec_l14May.f
  refine Ok.bind (sMay_ok a b c d e) ?_
  rintro _ rfl
  exact Ok.ret rfl
theorem l14Ok_ok (g : List Gst) (l : List Chc) (hg : g.length ≤ 2000000) (hl : l.length ≤ 2000000) : Ok (fun k => spec_l14Ok.f k g l) (fun r => r = true ↔ GV g ∧ CV l) := by
  unfold spec_l14Ok.f
  refine Ok.bind (sGuests_ok g hg) fun b hb => Ok.ite (fun h => Ok.bind (sChoices_ok l hl) fun c hc => Ok.ret ?_) (fun h => Ok.ret ?_)
  · rw [hc]; exact ⟨fun h' => ⟨hb.1 h, h'⟩, fun h' => h'.2⟩
  · exact ⟨fun h' => (by cases h'), fun h' => absurd (hb.2 h'.1) h⟩
def firsts (g : List Gst) (l : List Chc) : List Int := g.map fun x => idxOf (mayC x) l
def First (g : List Gst) (l : List Chc) (r : List Int) : Prop := (GV g ∧ CV l → r = firsts g l) ∧ (¬ (GV g ∧ CV l) → r = [])
theorem First.eq {g : List Gst} {l : List Chc} {a b : List Int} (h : First g l a) (k : First g l b) : a = b := by
  by_cases v : GV g ∧ CV l
  · rw [h.1 v, k.1 v]
  · rw [h.2 v, k.2 v]
theorem First.len {g : List Gst} {l : List Chc} {a : List Int} (h : First g l a) : a.length ≤ g.length := by
  by_cases v : GV g ∧ CV l
  · rw [h.1 v]; simp [firsts]
  · rw [h.2 v]; simp
theorem iFirst_ok (g : List Gst) (l : List Chc) (hg : g.length ≤ 2000000) : Ok (fun k => impl_ServeFirst.f k g l) (First g l) := by
  unfold impl_ServeFirst.f
  obtain ⟨b, e, hb⟩ := iChoices_eq l
  rw [e]
  refine Ok.bind (iGuests_ok g hg) fun a ha => Ok.ite (fun h => Ok.val (Ok.ite (fun h' => Ok.pos (by omega) (Ok.ret ?_)) (fun h' => Ok.ret ?_))) (fun h => Ok.ret ?_)
  · refine ⟨fun _ => ?_, fun h'' => absurd ⟨ha.1 h, hb.1 h'⟩ h''⟩
    unfold firsts
    exact List.map_congr_left fun x _ => by rw [show impl_ServeFirst.pick x = mayC x from funext (pick_eq x)]
  · exact ⟨fun h'' => absurd (hb.2 h''.2) h', fun _ => rfl⟩
  · exact ⟨fun h'' => absurd (ha.2 h''.1) h, fun _ => rfl⟩
theorem sFirst_ok (g : List Gst) (l : List Chc) (hg : g.length ≤ 2000000) (hl : l.length ≤ 2000000) : Ok (fun k => spec_ServeFirst.f k g l) (First g l) := by
  unfold spec_ServeFirst.f
  by_cases v : GV g ∧ CV l
  · refine Ok.range (fun (a : List Int) i k => spec_ServeFirst.l0 k g l a i) g.length (fun i a => a = (g.take i).map fun x => idxOf (mayC x) l) _ ?_ ?_ [] rfl
    · rintro i _ hi rfl ih
      have ew : wrap64 ((i : Int) + 1) = (i : Int) + 1 := wrap_id (by omega) (by omega)
      have hlen : ((g.take i).map fun x => idxOf (mayC x) l).length ≤ g.length := by rw [List.length_map, List.length_take]; omega
      have fin : ∀ n : Int, n = idxOf (mayC (gAt g i)) l → Ok (fun k => spec_ServeFirst.l0 k g l (((g.take i).map fun x => idxOf (mayC x) l) ++ [n]) ((i : Int) + 1)) (First g l) := fun n hn => ih _ (by
        rw [take_next z43 hi, List.map_append, hn]; rfl)
      refine Ok.step (fun k => by simp only [spec_ServeFirst.l0]; rfl) (Ok.pos (by omega) (Ok.bind (l14Ok_ok g l hg hl) fun b hb => ?_))
      refine Ok.step (fun k => by simp only [spec_ServeFirst.j1]; rfl) (Ok.pos (hb.2 v) ?_)
      refine Ok.range (fun (_ : Unit) j k => spec_ServeFirst.l1 k g l ((g.take i).map fun x => idxOf (mayC x) l) (i : Int) j) l.length (fun j _ => ∀ q, q < j → mayC (gAt g i) (l.getD q z32) = false) _ ?_ ?_ () (fun q hq => absurd hq (by omega))
      · intro j _ hj hinv ihj
        have ewj : wrap64 ((j : Int) + 1) = (j : Int) + 1 := wrap_id (by omega) (by omega)
        refine Ok.step (fun k => by simp only [spec_ServeFirst.l1]; rfl) (Ok.pos (by omega) (Ok.pos (by omega) (Ok.pos (by omega) (Ok.pos (by omega) ?_))))
        simp only [gAt_rd, cAt_rd]
        refine Ok.bind (l14May_ok _ _ _ _ _ _) ?_
        rintro _ rfl
        rw [ew, ewj]
        refine Ok.ite (fun h1 => Ok.neg (by omega) (Ok.pos (by omega) (fin _ ?_))) (fun h1 => ihj () fun q hq => ?_)
        · exact (idxOf_hit (mayC (gAt g i)) l z32 j hj h1 hinv).symm
        · rcases Nat.lt_succ_iff_lt_or_eq.1 hq with h2 | rfl
          · exact hinv q h2
          · exact Bool.eq_false_iff.2 h1
      · intro _ hinv
        refine Ok.step (fun k => by simp only [spec_ServeFirst.l1]; rfl) (Ok.neg (by omega) (Ok.pos (c := (l.length : Int) = (l.length : Int)) rfl (Ok.pos (by omega) ?_)))
        rw [ew]
        exact fin _ (idxOf_miss (mayC (gAt g i)) l z32 hinv).symm
    · rintro _ rfl
      refine Ok.step (fun k => by simp only [spec_ServeFirst.l0]; rfl) (Ok.neg (by omega) ?_)
      refine Ok.step (fun k => by simp only [spec_ServeFirst.j1]; rfl) (Ok.neg (by simp) (Ok.ret ⟨fun _ => ?_, fun h => absurd v h⟩))
      unfold firsts
      rw [List.take_length]
  · refine Ok.step (fun k => by simp only [spec_ServeFirst.l0]; rfl) (Ok.ite (fun h => Ok.bind (l14Ok_ok g l hg hl) fun b hb => ?_) (fun h => ?_))
    · exact Ok.step (fun k => by simp only [spec_ServeFirst.j1]; rfl) (Ok.neg (fun h => v (hb.1 h)) (Ok.ret ⟨fun h' => absurd h' v, fun _ => rfl⟩))
    · exact Ok.step (fun k => by simp only [spec_ServeFirst.j1]; rfl) (Ok.neg (by simp) (Ok.ret ⟨fun h' => absurd h' v, fun _ => rfl⟩))
end Go.Proofs.Ytehenjjaekkcfaa.Pure
/- Who may have which choice, by place. No conditions. -/
namespace Go.Proofs.Ytehenjjaekkcfaa.Pure
open Go.RowKit Go.Proofs.YtehenjjaekkcfaaW.PrintWords Go.Proofs.YtehenjjaekkcfaaW.PrintLast Go.Proofs.Ytehenjjaekkcfaa.Q
def mayN (g : List Gst) (l : List Chc) (i k : Nat) : Bool := mayC (gAt g i) (cAt l k)
end Go.Proofs.Ytehenjjaekkcfaa.Pure
/- When a plan fits, in the program and in the reference. Conditions: at most 2,000,000 guests, choices and places. -/
namespace Go.Proofs.Ytehenjjaekkcfaa.Pure
open Go.RowKit Go.Proofs.YtehenjjaekkcfaaW.PrintWords Go.Proofs.YtehenjjaekkcfaaW.PrintLast Go.Proofs.Ytehenjjaekkcfaa.Q
set_option linter.unusedVariables false
set_option linter.unusedSimpArgs false
/-- how often k is among the first n -/
def cnt (p : List Int) (k : Int) : Nat → Int
  | 0 => 0
  | n + 1 => cnt p k n + (if p.getD n 0 = k then 1 else 0)
theorem cnt_bd (p : List Int) (k : Int) : ∀ (n : Nat), 0 ≤ cnt p k n ∧ cnt p k n ≤ n
  | 0 => by simp [cnt]
  | n + 1 => by
    have := cnt_bd p k n
    unfold cnt
    split <;> omega
def fitAt (g : List Gst) (l : List Chc) (p : List Int) (i : Nat) : Prop := 0 ≤ p.getD i 0 ∧ p.getD i 0 < l.length ∧ mayN g l i (p.getD i 0).toNat = true ∧ cnt p (p.getD i 0) (i + 1) ≤ (cAt l (p.getD i 0).toNat).f2
def Fit (g : List Gst) (l : List Chc) (p : List Int) : Prop := (GV g ∧ CV l) ∧ p.length = g.length ∧ ∀ i, i < p.length → fitAt g l p i
/-- what is counted so far -/
def Used (l : List Chc) (p : List Int) (i : Nat) (u : List Int) : Prop := u.length = l.length ∧ ∀ k : Nat, k < l.length → u.getD k 0 = cnt p (k : Int) i
theorem Used.zero (l : List Chc) (p : List Int) : Used l p 0 (List.replicate (l.length : Int).toNat 0) := by
  refine ⟨by simp, fun k hk => ?_⟩
  rw [List.getD_eq_getElem?_getD]
  simp [cnt, hk]
theorem Used.next {l : List Chc} {p u : List Int} {i k : Nat} (h : Used l p i u) (hk : k < l.length) (e : p.getD i 0 = (k : Int)) (hi : i ≤ 2000000) : Used l p (i + 1) (u.set k (wrap64 (u.getD k 0 + 1))) ∧ (u.set k (wrap64 (u.getD k 0 + 1))).getD k 0 = cnt p (k : Int) (i + 1) := by
  have hku : k < u.length := by rw [h.1]; exact hk
  have hb := cnt_bd p (k : Int) i
  have key : ∀ j, j < l.length → (u.set k (wrap64 (u.getD k 0 + 1))).getD j 0 = cnt p (j : Int) (i + 1) := by
    intro j hj
    rw [getD_set _ _ _ _ _ hku]
    unfold cnt
    by_cases hjk : j = k
    · subst hjk
      rw [if_pos rfl, if_pos e, h.2 j hj, wrap_id (by omega) (by omega)]
    · rw [if_neg hjk, if_neg (by rw [e]; omega), h.2 j hj, Int.add_zero]
  exact ⟨⟨by simpa using h.1, key⟩, key k hk⟩
theorem inr_at (x : Int) (l : List Chc) : (0 ≤ x ∧ x ≤ (l.length : Int) - 1) ↔ 0 ≤ x ∧ x < (l.length : Int) := by omega
theorem sFits_ok (g : List Gst) (l : List Chc) (p : List Int) (hg : g.length ≤ 2000000) (hl : l.length ≤ 2000000) (hp : p.length ≤ 2000000) : Ok (fun k => spec_ServeFits.f k g l p) (fun r => r = true ↔ Fit g l p) := by
  unfold spec_ServeFits.f
  have no : ¬ Fit g l p → Ok (fun k => spec_ServeFits.j0 k g l p true) (fun r => r = true ↔ Fit g l p) := fun h => Ok.step (fun k => by simp only [spec_ServeFits.j0]; rfl) (Ok.pos (show true = true from rfl) (Ok.ret ⟨fun h' => (by cases h'), fun h' => absurd h' h⟩))
  refine Ok.bind (l14Ok_ok g l hg hl) fun b hb => Ok.ite (fun h => ?_) (fun h => no fun h' => h (hb.2 h'.1))
  have v := hb.1 h
  by_cases hlen : p.length = g.length
  · rw [show ((p.length : Int) != (g.length : Int)) = false by simp [hlen]]
    refine Ok.step (fun k => by simp only [spec_ServeFits.j0]; rfl) (Ok.neg (by simp) (Ok.pos (by omega) (Ok.pos (by omega) ?_)))
    refine Ok.range (fun (u : List Int) i k => spec_ServeFits.l0 k g l p u i) p.length (fun i u => Used l p i u ∧ ∀ j, j < i → fitAt g l p j) _ ?_ ?_ _ ⟨Used.zero l p, fun j hj => absurd hj (by omega)⟩
    · rintro i u hi ⟨hu, hinv⟩ ih
      have stop : ¬ fitAt g l p i → Ok (fun _ => some false) (fun r => r = true ↔ Fit g l p) := fun h => Ok.ret ⟨fun h' => (by cases h'), fun h' => absurd (h'.2.2 i hi) h⟩
      have bad : ¬ fitAt g l p i → Ok (fun k => spec_ServeFits.j2 k g l p u (i : Int) true) (fun r => r = true ↔ Fit g l p) := fun h => Ok.step (fun k => by simp only [spec_ServeFits.j2]; rfl) (Ok.pos (show true = true from rfl) (stop h))
      refine Ok.step (fun k => by simp only [spec_ServeFits.l0]; rfl) (Ok.pos (by omega) (Ok.pos (by omega) ?_))
      rw [wrap_id (n := (l.length : Int) - 1) (by omega) (by omega), rd_nat, l6In_eq]
      refine Ok.val (Ok.ite (fun h1 => ?_) (fun h1 => bad fun h' => h1 ((inr_iff _ _ _).2 ⟨h'.1, by have := h'.2.1; omega⟩)))
      have h2 := (inr_iff _ _ _).1 h1
      obtain ⟨k, hk⟩ := Int.eq_ofNat_of_zero_le h2.1
      have hkl : k < l.length := by omega
      rw [hk]
      refine Ok.pos (by omega) (Ok.pos (by omega) (Ok.pos (by omega) ?_))
      rw [gAt_rd, cAt_rd]
      refine Ok.bind (l14May_ok _ _ _ _ _ _) ?_
      rintro _ rfl
      have hnx := hu.next hkl hk (by omega)
      have hfit : fitAt g l p i ↔ mayN g l i k = true ∧ cnt p (k : Int) (i + 1) ≤ (cAt l k).f2 := by
        unfold fitAt
        rw [hk, Int.toNat_natCast]
        exact ⟨fun h => ⟨h.2.2.1, h.2.2.2⟩, fun h => ⟨by omega, by omega, h.1, h.2⟩⟩
      by_cases hm : mayN g l i k = true
      · rw [show mayB (gAt g i).f0 (gAt g i).f1 (gAt g i).f2 (cAt l k).f0 (cAt l k).f1 = true from hm]
        have hku : k < u.length := by rw [hu.1]; exact hkl
        refine Ok.step (fun k => by simp only [spec_ServeFits.j2]; rfl) (Ok.neg (by simp) (Ok.pos (by omega) (Ok.pos (by omega) ?_)))
        rw [rd_nat p i, hk]
        refine Ok.pos (by omega) (Ok.pos (by omega) ?_)
        rw [Int.toNat_natCast, rd_nat u k, cAt_rd]
        refine Ok.val (Ok.pos (by omega) ?_)
        rw [rd_nat _ k, hnx.2]
        refine (Ok.ite (fun h3 => stop fun h' => ?_) (fun h3 => ?_))
        · have := (hfit.1 h').2; omega
        · rw [wrap_id (n := (i : Int) + 1) (by omega) (by omega)]
          refine ih _ ⟨hnx.1, fun j hj => ?_⟩
          rcases Nat.lt_succ_iff_lt_or_eq.1 hj with h4 | rfl
          · exact hinv j h4
          · exact hfit.2 ⟨hm, by omega⟩
      · rw [show mayB (gAt g i).f0 (gAt g i).f1 (gAt g i).f2 (cAt l k).f0 (cAt l k).f1 = false from Bool.eq_false_iff.2 hm]
        exact bad fun h' => hm (hfit.1 h').1
    · rintro u ⟨_, hinv⟩
      exact Ok.step (fun k => by simp only [spec_ServeFits.l0]; rfl) (Ok.neg (by omega) (Ok.ret ⟨fun _ => ⟨v, hlen, hinv⟩, fun _ => rfl⟩))
  · rw [show ((p.length : Int) != (g.length : Int)) = true by simp; omega]
    exact no fun h' => hlen h'.2.1
theorem iFits_ok (g : List Gst) (l : List Chc) (p : List Int) (hg : g.length ≤ 2000000) (hl : l.length ≤ 2000000) (hp : p.length ≤ 2000000) : Ok (fun k => impl_ServeFits.f k g l p) (fun r => r = true ↔ Fit g l p) := by
  unfold impl_ServeFits.f
  have no : ¬ Fit g l p → Ok (fun k => impl_ServeFits.j0 k g l p true) (fun r => r = true ↔ Fit g l p) := fun h => Ok.step (fun k => by simp only [impl_ServeFits.j0]; rfl) (Ok.pos (show true = true from rfl) (Ok.ret ⟨fun h' => (by cases h'), fun h' => absurd h' h⟩))
  obtain ⟨b, e, hb⟩ := iChoices_eq l
  rw [e]
  refine Ok.bind (iGuests_ok g hg) fun a ha => Ok.ite (fun h => Ok.val (Ok.ite (fun h' => ?_) (fun h' => no fun h'' => h' (hb.2 h''.1.2)))) (fun h => no fun h' => h (ha.2 h'.1.1))
  have v : GV g ∧ CV l := ⟨ha.1 h, hb.1 h'⟩
  by_cases hlen : p.length = g.length
  · rw [show ((p.length : Int) != (g.length : Int)) = false by simp [hlen]]
    refine Ok.step (fun k => by simp only [impl_ServeFits.j0]; rfl) (Ok.neg (by simp) (Ok.pos (by omega) (Ok.pos (by omega) ?_)))
    refine Ok.range (fun (u : List Int) i k => impl_ServeFits.l0 k g l u p (p.length : Int) i) p.length (fun i u => Used l p i u ∧ ∀ j, j < i → fitAt g l p j) _ ?_ ?_ _ ⟨Used.zero l p, fun j hj => absurd hj (by omega)⟩
    · rintro i u hi ⟨hu, hinv⟩ ih
      have stop : ¬ fitAt g l p i → Ok (fun _ => some false) (fun r => r = true ↔ Fit g l p) := fun h => Ok.ret ⟨fun h' => (by cases h'), fun h' => absurd (h'.2.2 i hi) h⟩
      have bad : ∀ x, ¬ fitAt g l p i → Ok (fun k => impl_ServeFits.j2 k g l u x p (p.length : Int) (i : Int) true) (fun r => r = true ↔ Fit g l p) := fun x h => Ok.step (fun k => by simp only [impl_ServeFits.j2]; rfl) (Ok.pos (show true = true from rfl) (stop h))
      refine Ok.step (fun k => by simp only [impl_ServeFits.l0]; rfl) (Ok.pos (by omega) (Ok.pos (by omega) (Ok.pos (by omega) ?_)))
      rw [wrap_id (n := (l.length : Int) - 1) (by omega) (by omega), rd_nat, within_eq]
      refine Ok.val (Ok.ite (fun h1 => ?_) (fun h1 => bad _ fun h' => h1 ((inr_iff _ _ _).2 ⟨h'.1, by have := h'.2.1; omega⟩)))
      have h2 := (inr_iff _ _ _).1 h1
      obtain ⟨k, hk⟩ := Int.eq_ofNat_of_zero_le h2.1
      have hkl : k < l.length := by omega
      rw [hk]
      refine Ok.pos (by omega) (Ok.pos (by omega) (Ok.pos (by omega) ?_))
      rw [gAt_rd, cAt_rd, may_eq]
      refine Ok.val ?_
      have hnx := hu.next hkl hk (by omega)
      have hfit : fitAt g l p i ↔ mayN g l i k = true ∧ cnt p (k : Int) (i + 1) ≤ (cAt l k).f2 := by
        unfold fitAt
        rw [hk, Int.toNat_natCast]
        exact ⟨fun h => ⟨h.2.2.1, h.2.2.2⟩, fun h => ⟨by omega, by omega, h.1, h.2⟩⟩
      by_cases hm : mayN g l i k = true
      · rw [show mayB (gAt g i).f0 (gAt g i).f1 (gAt g i).f2 (cAt l k).f0 (cAt l k).f1 = true from hm]
        have hku : k < u.length := by rw [hu.1]; exact hkl
        refine Ok.step (fun k => by simp only [impl_ServeFits.j2]; rfl) (Ok.neg (by simp) (Ok.pos (by omega) (Ok.pos (by omega) ?_)))
        rw [Int.toNat_natCast, rd_nat u k, cAt_rd]
        refine Ok.val (Ok.pos (by omega) ?_)
        rw [rd_nat _ k, hnx.2]
        refine (Ok.ite (fun h3 => stop fun h' => ?_) (fun h3 => ?_))
        · have := (hfit.1 h').2; omega
        · rw [wrap_id (n := (i : Int) + 1) (by omega) (by omega)]
          refine ih _ ⟨hnx.1, fun j hj => ?_⟩
          rcases Nat.lt_succ_iff_lt_or_eq.1 hj with h4 | rfl
          · exact hinv j h4
          · exact hfit.2 ⟨hm, by omega⟩
      · rw [show mayB (gAt g i).f0 (gAt g i).f1 (gAt g i).f2 (cAt l k).f0 (cAt l k).f1 = false from Bool.eq_false_iff.2 hm]
        exact bad _ fun h' => hm (hfit.1 h').1
    · rintro u ⟨_, hinv⟩
      exact Ok.step (fun k => by simp only [impl_ServeFits.l0]; rfl) (Ok.neg (by omega) (Ok.ret ⟨fun _ => ⟨v, hlen, hinv⟩, fun _ => rfl⟩))
  · rw [show ((p.length : Int) != (g.length : Int)) = true by simp; omega]
    exact no fun h' => hlen h'.2.1
end Go.Proofs.Ytehenjjaekkcfaa.Pure
/- The laws' guests and the program's: copied field by field. Condition: at most 2,000,000. -/
namespace Go.Proofs.Ytehenjjaekkcfaa.Pure
open Go.RowKit Go.Proofs.YtehenjjaekkcfaaW.PrintWords Go.Proofs.YtehenjjaekkcfaaW.PrintLast Go.Proofs.Ytehenjjaekkcfaa.Q
set_option linter.unusedVariables false
set_option linter.unusedSimpArgs false

def cvGuest (x : S77) : S43 := ⟨x.f0, x.f1, x.f2⟩
theorem toGuestS_ok (l : List S77) (hl : l.length ≤ 2000000) : Ok (fun k => laws_toGuestS.f k l) (· = l.map cvGuest) := by
  unfold laws_toGuestS.f
  refine Ok.pos (by omega) (Ok.pos (Nat.le_trans (m := 2000000) (by omega) (by decide)) ?_)
  refine Ok.range (fun (s : List S43) i k => laws_toGuestS.l0 k l s i) l.length (fun i s => s.length = l.length ∧ ∀ j, j < i → s.getD j z43 = (l.map cvGuest).getD j z43) _ ?_ ?_ _ ⟨by simp, fun j hj => absurd hj (by omega)⟩
  · rintro i s hi ⟨h1, h2⟩ ih
    have ew : wrap64 ((i : Int) + 1) = (i : Int) + 1 := wrap_id (by omega) (by omega)
    refine Ok.step (fun k => by simp only [laws_toGuestS.l0]; rfl) (Ok.pos (by omega) (Ok.pos (by omega) ?_))
    simp only [laws_toGuest.f, Option.bind_some, ew]
    refine Ok.pos (by omega) (ih _ ⟨by simp [h1], fun j hj => ?_⟩)
    simp only [Int.toNat_natCast]
    rw [getD_set _ _ _ _ _ (by omega)]
    split
    · rename_i e; subst e
      rw [getD_at _ _ _ (by simp; omega), List.getElem_map]
      have e : rd_T77 l (j : Int) = l[j] := getD_at l z77 j (by omega)
      rw [e]; rfl
    · exact h2 j (by omega)
  · rintro s ⟨h1, h2⟩
    exact Ok.step (fun k => by simp only [laws_toGuestS.l0]; rfl) (Ok.neg (by omega) (Ok.ret (eq_of_getD z43 (by simp [h1]) (fun i hi => h2 i (by omega)))))
theorem szGuestS_eq (l : List S77) (a : Int) (h0 : 0 ≤ a) (h1 : a ≤ 9223372036854775807) (hl : l.length ≤ maxLen) : laws_szGuestS.f l a = some (if (l.length : Int) ≤ a then a - l.length else -1) := by
  unfold laws_szGuestS.f
  have := len_small hl
  rw [wrap_id (n := a - (l.length : Int)) (by omega) (by omega)]
  by_cases h : (l.length : Int) ≤ a
  · rw [if_neg (by omega), if_pos h]
  · rw [if_pos (by omega), if_neg h]
end Go.Proofs.Ytehenjjaekkcfaa.Pure
/- The laws' comparison of lists of guests: a list is equal to itself. Condition: at most 2,000,000. -/
namespace Go.Proofs.Ytehenjjaekkcfaa.Pure
open Go.RowKit Go.Proofs.YtehenjjaekkcfaaW.PrintWords Go.Proofs.YtehenjjaekkcfaaW.PrintLast Go.Proofs.Ytehenjjaekkcfaa.Q
set_option linter.unusedVariables false
set_option linter.unusedSimpArgs false

theorem eqGuestS_ok (l : List S43) (hl : l.length ≤ 2000000) : Ok (fun k => laws_eqGuestS.f k l l) (· = true) := by
  unfold laws_eqGuestS.f
  refine Ok.pos rfl ?_
  refine Ok.range (fun (_ : Unit) i k => laws_eqGuestS.l0 k l l i) l.length (fun _ _ => True) _ ?_ ?_ () trivial
  · intro i _ hi _ ih
    have ew : wrap64 ((i : Int) + 1) = (i : Int) + 1 := wrap_id (by omega) (by omega)
    refine Ok.step (fun k => by simp only [laws_eqGuestS.l0]; rfl) (Ok.pos (by omega) (Ok.pos (by omega) (Ok.pos (by omega) ?_)))
    simp only [laws_eqGuest.f, ew, if_true, Option.bind_some, bne_self_eq_false, Bool.false_eq_true, if_false]
    exact ih () trivial
  · intro _ _
    exact Ok.step (fun k => by simp only [laws_eqGuestS.l0]; rfl) (Ok.neg (by omega) (Ok.ret rfl))
end Go.Proofs.Ytehenjjaekkcfaa.Pure
/- The laws' choices and the program's: copied field by field. Condition: at most 2,000,000. -/
namespace Go.Proofs.Ytehenjjaekkcfaa.Pure
open Go.RowKit Go.Proofs.YtehenjjaekkcfaaW.PrintWords Go.Proofs.YtehenjjaekkcfaaW.PrintLast Go.Proofs.Ytehenjjaekkcfaa.Q
set_option linter.unusedVariables false
set_option linter.unusedSimpArgs false

def cvChoice (x : S63) : S32 := ⟨x.f0, x.f1, x.f2⟩
theorem toChoiceS_ok (l : List S63) (hl : l.length ≤ 2000000) : Ok (fun k => laws_toChoiceS.f k l) (· = l.map cvChoice) := by
  unfold laws_toChoiceS.f
  refine Ok.pos (by omega) (Ok.pos (Nat.le_trans (m := 2000000) (by omega) (by decide)) ?_)
  refine Ok.range (fun (s : List S32) i k => laws_toChoiceS.l0 k l s i) l.length (fun i s => s.length = l.length ∧ ∀ j, j < i → s.getD j z32 = (l.map cvChoice).getD j z32) _ ?_ ?_ _ ⟨by simp, fun j hj => absurd hj (by omega)⟩
  · rintro i s hi ⟨h1, h2⟩ ih
    have ew : wrap64 ((i : Int) + 1) = (i : Int) + 1 := wrap_id (by omega) (by omega)
    refine Ok.step (fun k => by simp only [laws_toChoiceS.l0]; rfl) (Ok.pos (by omega) (Ok.pos (by omega) ?_))
    simp only [laws_toChoice.f, Option.bind_some, ew]
    refine Ok.pos (by omega) (ih _ ⟨by simp [h1], fun j hj => ?_⟩)
    simp only [Int.toNat_natCast]
    rw [getD_set _ _ _ _ _ (by omega)]
    split
    · rename_i e; subst e
      rw [getD_at _ _ _ (by simp; omega), List.getElem_map]
      have e : rd_T63 l (j : Int) = l[j] := getD_at l z63 j (by omega)
      rw [e]; rfl
    · exact h2 j (by omega)
  · rintro s ⟨h1, h2⟩
    exact Ok.step (fun k => by simp only [laws_toChoiceS.l0]; rfl) (Ok.neg (by omega) (Ok.ret (eq_of_getD z32 (by simp [h1]) (fun i hi => h2 i (by omega)))))
theorem szChoiceS_eq (l : List S63) (a : Int) (h0 : 0 ≤ a) (h1 : a ≤ 9223372036854775807) (hl : l.length ≤ maxLen) : laws_szChoiceS.f l a = some (if (l.length : Int) ≤ a then a - l.length else -1) := by
  unfold laws_szChoiceS.f
  have := len_small hl
  rw [wrap_id (n := a - (l.length : Int)) (by omega) (by omega)]
  by_cases h : (l.length : Int) ≤ a
  · rw [if_neg (by omega), if_pos h]
  · rw [if_pos (by omega), if_neg h]
end Go.Proofs.Ytehenjjaekkcfaa.Pure
/- The laws' comparison of lists of choices: a list is equal to itself. Condition: at most 2,000,000. -/
namespace Go.Proofs.Ytehenjjaekkcfaa.Pure
open Go.RowKit Go.Proofs.YtehenjjaekkcfaaW.PrintWords Go.Proofs.YtehenjjaekkcfaaW.PrintLast Go.Proofs.Ytehenjjaekkcfaa.Q
set_option linter.unusedVariables false
set_option linter.unusedSimpArgs false

theorem eqChoiceS_ok (l : List S32) (hl : l.length ≤ 2000000) : Ok (fun k => laws_eqChoiceS.f k l l) (· = true) := by
  unfold laws_eqChoiceS.f
  refine Ok.pos rfl ?_
  refine Ok.range (fun (_ : Unit) i k => laws_eqChoiceS.l0 k l l i) l.length (fun _ _ => True) _ ?_ ?_ () trivial
  · intro i _ hi _ ih
    have ew : wrap64 ((i : Int) + 1) = (i : Int) + 1 := wrap_id (by omega) (by omega)
    refine Ok.step (fun k => by simp only [laws_eqChoiceS.l0]; rfl) (Ok.pos (by omega) (Ok.pos (by omega) (Ok.pos (by omega) ?_)))
    simp only [laws_eqChoice.f, ew, if_true, Option.bind_some, bne_self_eq_false, Bool.false_eq_true, if_false]
    exact ih () trivial
  · intro _ _
    exact Ok.step (fun k => by simp only [laws_eqChoiceS.l0]; rfl) (Ok.neg (by omega) (Ok.ret rfl))
end Go.Proofs.Ytehenjjaekkcfaa.Pure
/- Lists of whole numbers. Condition: at most 2,000,000 elements. -/
namespace Go.Proofs.Ytehenjjaekkcfaa.Pure
open Go.RowKit Go.Proofs.YtehenjjaekkcfaaW.PrintWords Go.Proofs.YtehenjjaekkcfaaW.PrintLast Go.Proofs.Ytehenjjaekkcfaa.Q
set_option linter.unusedVariables false
set_option linter.unusedSimpArgs false

theorem toIntS_ok (l : List Int) (hl : l.length ≤ 2000000) : Ok (fun k => laws_toIntS.f k l) (· = l) := by
  unfold laws_toIntS.f
  refine Ok.pos (by omega) (Ok.pos (by omega) ?_)
  refine Ok.range (fun (s : List Int) i k => laws_toIntS.l0 k l s i) l.length (fun i s => s.length = l.length ∧ ∀ j, j < i → s.getD j 0 = l.getD j 0) _ ?_ ?_ _ ⟨by simp, fun j hj => absurd hj (by omega)⟩
  · rintro i s hi ⟨h1, h2⟩ ih
    have ew : wrap64 ((i : Int) + 1) = (i : Int) + 1 := wrap_id (by omega) (by omega)
    refine Ok.step (fun k => by simp only [laws_toIntS.l0]; rfl) (Ok.pos (by omega) (Ok.pos (by omega) (Ok.pos (by omega) ?_)))
    rw [ew]
    refine ih _ ⟨by simp [h1], fun j hj => ?_⟩
    simp only [Int.toNat_natCast]
    rw [getD_set _ _ _ _ _ (by omega)]
    split
    · rename_i e; subst e; rfl
    · exact h2 j (by omega)
  · rintro s ⟨h1, h2⟩
    exact Ok.step (fun k => by simp only [laws_toIntS.l0]; rfl) (Ok.neg (by omega) (Ok.ret (eq_of_getD 0 h1 (fun i hi => h2 i (by omega)))))
end Go.Proofs.Ytehenjjaekkcfaa.Pure
/- Lists of whole numbers. Condition: at most 2,000,000 elements. -/
namespace Go.Proofs.Ytehenjjaekkcfaa.Pure
open Go.RowKit Go.Proofs.YtehenjjaekkcfaaW.PrintWords Go.Proofs.YtehenjjaekkcfaaW.PrintLast Go.Proofs.Ytehenjjaekkcfaa.Q
set_option linter.unusedVariables false
set_option linter.unusedSimpArgs false

theorem eqIntS_ok (a b : List Int) (hl : a.length ≤ 2000000) : Ok (fun k => laws_eqIntS.f k a b) (fun r => r = true ↔ a = b) := by
  unfold laws_eqIntS.f
  by_cases h : a.length = b.length
  · refine Ok.pos (by omega) ?_
    refine Ok.range (fun (_ : Unit) i k => laws_eqIntS.l0 k a b i) a.length (fun i _ => ∀ j, j < i → a.getD j 0 = b.getD j 0) _ ?_ ?_ () (fun j hj => absurd hj (by omega))
    · intro i _ hi hinv ih
      have ew : wrap64 ((i : Int) + 1) = (i : Int) + 1 := wrap_id (by omega) (by omega)
      refine Ok.step (fun k => by simp only [laws_eqIntS.l0]; rfl) (Ok.pos (by omega) (Ok.pos (by omega) (Ok.pos (by omega) ?_)))
      rw [ew, rd_nat, rd_nat]
      refine Ok.ite (fun h1 => ih () fun j hj => ?_) (fun h1 => Ok.ret ⟨fun h' => (by cases h'), fun h' => absurd (by rw [h']) h1⟩)
      rcases Nat.lt_succ_iff_lt_or_eq.1 hj with h2 | rfl
      · exact hinv j h2
      · exact h1
    · intro _ hinv
      exact Ok.step (fun k => by simp only [laws_eqIntS.l0]; rfl) (Ok.neg (by omega) (Ok.ret ⟨fun _ => eq_of_getD 0 h hinv, fun _ => rfl⟩))
  · exact Ok.neg (by omega) (Ok.ret ⟨fun h' => (by cases h'), fun h' => absurd (by rw [h']) h⟩)
end Go.Proofs.Ytehenjjaekkcfaa.Pure
/- The program's ServeFits returns what the reference's returns, for all arguments. No conditions. -/
namespace Go.Proofs.Ytehenjjaekkcfaa.Pure
open Go.RowKit Go.Proofs.YtehenjjaekkcfaaW.PrintWords Go.Proofs.YtehenjjaekkcfaaW.PrintLast Go.Proofs.Ytehenjjaekkcfaa.Q
set_option linter.unusedVariables false
set_option linter.unusedSimpArgs false
theorem FnExactServeFits (l : List S77) (hm : l.length ≤ maxLen) (l' : List S63) (hm' : l'.length ≤ maxLen) (p : List Int) (hmp : p.length ≤ maxLen) : ∃ k, laws_FnExactServeFits.f k l l' p = some true := by
  apply Ok.rounds
  unfold laws_FnExactServeFits.f
  refine Ok.ite (fun _ => Ok.ret rfl) fun hp0 => ?_
  have hp : p.length ≤ 2000000 := by omega
  rw [szGuestS_eq l _ (by omega) (by omega) hm]
  refine Ok.val (Ok.ite (fun _ => Ok.ret rfl) fun h => ?_)
  have hl : l.length ≤ 1048576 ∧ (if (l.length : Int) ≤ 1048576 then (1048576 : Int) - l.length else -1) = 1048576 - l.length := by
    by_cases h0 : (l.length : Int) ≤ 1048576
    · exact ⟨by omega, if_pos h0⟩
    · rw [if_neg h0] at h; omega
  rw [hl.2]
  rw [szChoiceS_eq l' _ (by omega) (by omega) hm']
  refine Ok.val (Ok.ite (fun _ => Ok.ret rfl) fun h' => ?_)
  have hc : l'.length ≤ 2000000 := by
    split at h' <;> omega
  have hl' : (l.map cvGuest).length ≤ 2000000 := by simpa using Nat.le_trans hl.1 (by omega)
  have hc' : (l'.map cvChoice).length ≤ 2000000 := by simpa using hc
  have hg : l.length ≤ 2000000 := Nat.le_trans hl.1 (by omega)
  refine Ok.bind (toGuestS_ok l hg) ?_
  rintro _ rfl
  refine Ok.bind (toChoiceS_ok l' hc) ?_
  rintro _ rfl
  refine Ok.bind (toIntS_ok p hp) fun p1 hp1 => ?_
  rw [hp1]
  refine Ok.bind (sFits_ok _ _ _ hl' hc' hp) fun r1 h1 => Ok.bind (toGuestS_ok l hg) ?_
  rintro _ rfl
  refine Ok.bind (toChoiceS_ok l' hc) ?_
  rintro _ rfl
  refine Ok.bind (toIntS_ok p hp) fun p2 hp2 => ?_
  rw [hp2]
  refine Ok.bind (iFits_ok _ _ _ hl' hc' hp) fun r2 h2 => ?_
  obtain rfl := bool_of_iff h1 h2
  refine Ok.neg (by simp) (Ok.bind (toGuestS_ok l hg) ?_)
  rintro _ rfl
  refine Ok.bind (eqGuestS_ok _ hl') ?_
  rintro _ rfl
  refine Ok.pos (show true = true from rfl) (Ok.bind (toChoiceS_ok l' hc) ?_)
  rintro _ rfl
  refine Ok.bind (eqChoiceS_ok _ hc') ?_
  rintro _ rfl
  refine Ok.pos (show true = true from rfl) (Ok.bind (toIntS_ok p hp) fun p3 hp3 => ?_)
  rw [hp3]
  exact Ok.bind (eqIntS_ok p p hp) fun b hb => Ok.pos (hb.2 rfl) (Ok.ret rfl)
end Go.Proofs.Ytehenjjaekkcfaa.Pure
