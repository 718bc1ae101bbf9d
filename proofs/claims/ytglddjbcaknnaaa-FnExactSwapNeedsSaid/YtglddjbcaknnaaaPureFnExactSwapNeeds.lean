/- The program's SwapNeeds returns what the reference's returns, for all arguments. No conditions. -/
import Derived.Test.YtglddjbcaknnaaaWMore
import Derived.Test.YtglddjbcaknnaaaQx2
import Derived.Test.YtglddjbcaknnaaaQx3
import Derived.Test.YtglddjbcaknnaaaQx14
import Derived.Test.YtglddjbcaknnaaaQx4
import Derived.Test.YtglddjbcaknnaaaQx26
import Derived.Test.YtglddjbcaknnaaaQx27
import Derived.Test.YtglddjbcaknnaaaQx1
import Derived.Test.YtglddjbcaknnaaaQx23
import Derived.Test.YtglddjbcaknnaaaQx16
import Derived.Test.YtglddjbcaknnaaaQx6
import Derived.Test.YtglddjbcaknnaaaQx7
import Derived.Test.YtglddjbcaknnaaaQx32
/- Plain logic for printed functions: from some number of rounds on a function answers, and its answer fits. No conditions. -/
namespace Go.Proofs.Ytglddjbcaknnaaa.Pure
open Go.RowKit Go.Proofs.YtglddjbcaknnaaaW.PrintWords Go.Proofs.YtglddjbcaknnaaaW.PrintLast

/-- g answers from some number of rounds on, and the answer is as Q says. -/
def Ok {α : Type} (g : Nat → Option α) (Q : α → Prop) : Prop := ∃ r, Ev g r ∧ Q r
theorem Ok.ret {α : Type} {r : α} {Q : α → Prop} (h : Q r) : Ok (fun _ => some r) Q := ⟨r, Ev.now r, h⟩
theorem Ok.of_eq {α : Type} {o : Option α} {r : α} {Q : α → Prop} (e : o = some r) (h : Q r) : Ok (fun _ => o) Q := by subst e; exact Ok.ret h
theorem Ok.bind {α β : Type} {g : Nat → Option α} {f : Nat → α → Option β} {P : α → Prop} {Q : β → Prop} (h : Ok g P) (k : ∀ a, P a → Ok (fun n => f n a) Q) : Ok (fun n => (g n).bind (f n)) Q := by
  obtain ⟨a, ha, hp⟩ := h
  obtain ⟨r, hr, hq⟩ := k a hp
  exact ⟨r, Ev.bind ha hr, hq⟩
theorem Ok.val {α β : Type} {a : α} {f : Nat → α → Option β} {Q : β → Prop} (h : Ok (fun n => f n a) Q) : Ok (fun n => (some a).bind (f n)) Q := h
theorem Ok.pos {α : Type} {c : Prop} [Decidable c] {t e : Nat → Option α} {Q : α → Prop} (hc : c) (h : Ok t Q) : Ok (fun n => if c then t n else e n) Q := by simpa only [if_pos hc] using h
theorem Ok.neg {α : Type} {c : Prop} [Decidable c] {t e : Nat → Option α} {Q : α → Prop} (hc : ¬ c) (h : Ok e Q) : Ok (fun n => if c then t n else e n) Q := by simpa only [if_neg hc] using h
theorem Ok.ite {α : Type} {c : Prop} [Decidable c] {t e : Nat → Option α} {Q : α → Prop} (h : c → Ok t Q) (k : ¬ c → Ok e Q) : Ok (fun n => if c then t n else e n) Q := by
  by_cases hc : c
  · exact Ok.pos hc (h hc)
  · exact Ok.neg hc (k hc)
theorem Ok.step {α : Type} {g f : Nat → Option α} {Q : α → Prop} (h : ∀ k, g (k + 1) = f k) (k : Ok f Q) : Ok g Q := by
  obtain ⟨r, hr, hq⟩ := k
  exact ⟨r, Ev.step h hr, hq⟩
theorem Ok.congr {α : Type} {g f : Nat → Option α} {Q : α → Prop} (h : ∀ k, g k = f k) (k : Ok f Q) : Ok g Q := by
  obtain ⟨r, hr, hq⟩ := k
  exact ⟨r, Ev.congr h hr, hq⟩
theorem Ok.mono {α : Type} {g : Nat → Option α} {P Q : α → Prop} (h : Ok g P) (k : ∀ a, P a → Q a) : Ok g Q := by
  obtain ⟨r, hr, hp⟩ := h
  exact ⟨r, hr, k r hp⟩
theorem Ok.and {α : Type} {g : Nat → Option α} {P Q : α → Prop} (h : Ok g P) (k : Ok g Q) : Ok g (fun a => P a ∧ Q a) := by
  obtain ⟨r, ⟨K, hr⟩, hp⟩ := h
  obtain ⟨r', ⟨K', hr'⟩, hq⟩ := k
  have h1 := hr (max K K') (by omega)
  have h2 := hr' (max K K') (by omega)
  obtain rfl : r = r' := by rw [h1] at h2; injection h2
  exact ⟨r, ⟨K, hr⟩, hp, hq⟩
theorem Ok.rounds {α : Type} {g : Nat → Option α} {r : α} (h : Ok g (· = r)) : ∃ k, g k = some r := by
  obtain ⟨_, hr, rfl⟩ := h
  exact hr.rounds
theorem Ok.eq {α : Type} {g : Nat → Option α} {r : α} {Q : α → Prop} (h : Ok g (· = r)) (q : Q r) : Ok g Q := h.mono fun _ e => by subst e; exact q
theorem wrap_id {n : Int} (h0 : -9223372036854775808 ≤ n) (h1 : n ≤ 9223372036854775807) : wrap64 n = n := by unfold wrap64; omega
theorem wf64 {n : Int} (h : (Lit.int .i64 n).wf = true) : -9223372036854775808 ≤ n ∧ n ≤ 9223372036854775807 := by
  simp [Lit.wf, IntKind.min, IntKind.max, IntKind.signed, IntKind.bits] at h
  omega
theorem wfu8 {n : Int} (h : (Lit.int .u8 n).wf = true) : 0 ≤ n ∧ n ≤ 255 := by
  simp [Lit.wf, IntKind.min, IntKind.max, IntKind.signed, IntKind.bits] at h
  omega
/-- A loop that counts an index up to n, with what else it carries in s. -/
theorem Ok.range {σ ρ : Type} (L : σ → Int → Nat → Option ρ) (n : Nat) (Inv : Nat → σ → Prop) (Q : ρ → Prop)
    (step : ∀ (i : Nat) (s : σ), i < n → Inv i s → (∀ s', Inv (i + 1) s' → Ok (L s' ((i : Int) + 1)) Q) → Ok (L s (i : Int)) Q)
    (last : ∀ s, Inv n s → Ok (L s (n : Int)) Q) : ∀ s, Inv 0 s → Ok (L s 0) Q := by
  have key : ∀ d i, i + d = n → ∀ s, Inv i s → Ok (L s (i : Int)) Q := by
    intro d
    induction d with
    | zero => intro i hi s hs; obtain rfl : i = n := (by omega); exact last s hs
    | succ d ih =>
      intro i hi s hs
      refine step i s (by omega) hs fun s' hs' => ?_
      have := ih (i + 1) (by omega) s' hs'
      rwa [show ((i + 1 : Nat) : Int) = (i : Int) + 1 by omega] at this
  exact fun s hs => key n 0 (by omega) s hs
/-- The same for a loop that counts down from n - 1. -/
theorem Ok.down {σ ρ : Type} (L : σ → Int → Nat → Option ρ) (n : Nat) (Inv : Nat → σ → Prop) (Q : ρ → Prop)
    (step : ∀ (i : Nat) (s : σ), i < n → Inv (i + 1) s → (∀ s', Inv i s' → Ok (L s' ((i : Int) - 1)) Q) → Ok (L s (i : Int)) Q)
    (last : ∀ s, Inv 0 s → Ok (L s (-1)) Q) : ∀ s, Inv n s → Ok (L s ((n : Int) - 1)) Q := by
  have key : ∀ i, i ≤ n → ∀ s, Inv i s → Ok (L s ((i : Int) - 1)) Q := by
    intro i
    induction i with
    | zero => intro _ s hs; exact last s hs
    | succ i ih =>
      intro hi s hs
      have := step i s (by omega) hs fun s' hs' => ih (by omega) s' hs'
      rwa [show ((i + 1 : Nat) : Int) - 1 = (i : Int) by omega]
  exact fun s hs => key n (Nat.le_refl _) s hs
theorem bool_of_iff {a b : Bool} {P : Prop} (h : a = true ↔ P) (k : b = true ↔ P) : a = b := by
  cases a <;> cases b <;> simp_all
theorem take_next {α : Type} {l : List α} {i : Nat} (d : α) (h : i < l.length) : l.take (i + 1) = l.take i ++ [l.getD i d] := by
  rw [List.take_succ_eq_append_getElem h, List.getD_eq_getElem?_getD, List.getElem?_eq_getElem h, Option.getD_some]
theorem getD_at {α : Type} (l : List α) (d : α) (i : Nat) (h : i < l.length) : l.getD i d = l[i] := by
  rw [List.getD_eq_getElem?_getD, List.getElem?_eq_getElem h, Option.getD_some]
theorem len_small {α : Type} {l : List α} (h : l.length ≤ maxLen) : (l.length : Int) ≤ 9223372036854775807 := by unfold maxLen at h; omega
end Go.Proofs.Ytglddjbcaknnaaa.Pure
/- Ranges, and the bits of sets. No conditions. -/
namespace Go.Proofs.Ytglddjbcaknnaaa.Pure
open Go.RowKit Go.Proofs.YtglddjbcaknnaaaW.PrintWords Go.Proofs.YtglddjbcaknnaaaW.PrintLast
set_option linter.unusedVariables false
set_option linter.unusedSimpArgs false

def inr (a lo hi : Int) : Bool := decide (lo ≤ a ∧ a ≤ hi)
theorem inr_iff (a lo hi : Int) : inr a lo hi = true ↔ lo ≤ a ∧ a ≤ hi := by simp [inr]
theorem bits_nat64 (a b : Nat) (ha : a < 256) (hb : b < 256) : Go.bits .and .i64 (a : Int) (b : Int) = ((a &&& b : Nat) : Int) ∧ Go.bits .or .i64 (a : Int) (b : Int) = ((a ||| b : Nat) : Int) :=
  Go.bits_nat .i64 8 (by decide) (fun n h0 h1 => by rw [IntKind.wrap_i64]; omega) a b ha hb
theorem set_nat {a : Int} (h : 0 ≤ a ∧ a ≤ 255) : ∃ n : Nat, a = (n : Int) ∧ n < 256 := ⟨a.toNat, by omega, by omega⟩
end Go.Proofs.Ytglddjbcaknnaaa.Pure
/- The reference's ranges and sets. No conditions. -/
namespace Go.Proofs.Ytglddjbcaknnaaa.Pure
open Go.RowKit Go.Proofs.YtglddjbcaknnaaaW.PrintWords Go.Proofs.YtglddjbcaknnaaaW.PrintLast Go.Proofs.Ytglddjbcaknnaaa.Q
set_option linter.unusedVariables false
set_option linter.unusedSimpArgs false

theorem l6In_eq (a lo hi : Int) : spec_l6In.f a lo hi = some (inr a lo hi) := by
  unfold spec_l6In.f inr
  by_cases h : a ≥ lo
  · rw [if_pos h]; simp [h]
  · rw [if_neg h]; simp; omega
theorem l3Set_eq (a : Int) : spec_l3Set.f a = some (inr a 0 255) := by simp only [spec_l3Set.f, l6In_eq, Option.bind_some]
end Go.Proofs.Ytglddjbcaknnaaa.Pure
/- The program's ranges, sets and kinds. No conditions. -/
namespace Go.Proofs.Ytglddjbcaknnaaa.Pure
open Go.RowKit Go.Proofs.YtglddjbcaknnaaaW.PrintWords Go.Proofs.YtglddjbcaknnaaaW.PrintLast Go.Proofs.Ytglddjbcaknnaaa.Q
set_option linter.unusedVariables false
set_option linter.unusedSimpArgs false

theorem within_eq (a lo hi : Int) : impl_within.f a lo hi = some (inr a lo hi) := by
  unfold impl_within.f inr
  by_cases h : a ≥ lo
  · rw [if_pos h]; simp [h]
  · rw [if_neg h]; simp; omega
theorem isSet_eq (a : Int) : impl_isSet.f a = some (inr a 0 255) := by simp only [impl_isSet.f, within_eq, Option.bind_some]
theorem isKind_eq (a : Int) : impl_isKind.f a = some (inr a 1 5) := by simp only [impl_isKind.f, within_eq, Option.bind_some]
end Go.Proofs.Ytglddjbcaknnaaa.Pure
/- When foods are valid, in the program and in the reference. Condition: at most 2,000,000. -/
namespace Go.Proofs.Ytglddjbcaknnaaa.Pure
open Go.RowKit Go.Proofs.YtglddjbcaknnaaaW.PrintWords Go.Proofs.YtglddjbcaknnaaaW.PrintLast Go.Proofs.Ytglddjbcaknnaaa.Q
set_option linter.unusedVariables false
set_option linter.unusedSimpArgs false
abbrev Fd := S62
def fAt (l : List Fd) (i : Nat) : Fd := l.getD i z62
theorem fAt_rd (l : List Fd) (i : Nat) : rd_T62 l (i : Int) = fAt l i := rfl
theorem fAt_prev (l : List Fd) (i : Nat) (h : 0 < i) : rd_T62 l ((i : Int) - 1) = fAt l (i - 1) := by
  unfold rd_T62 fAt
  rw [show ((i : Int) - 1).toNat = i - 1 by omega]
def fB (x : Fd) : Bool := inr x.f0 1 20 && inr x.f1 1 3 && inr x.f2 0 255 && inr x.f3 1 5 && inr x.f4 0 999 && inr x.f5 0 999
theorem fB_iff (x : Fd) : fB x = true ↔ (1 ≤ x.f0 ∧ x.f0 ≤ 20) ∧ (1 ≤ x.f1 ∧ x.f1 ≤ 3) ∧ (0 ≤ x.f2 ∧ x.f2 ≤ 255) ∧ (1 ≤ x.f3 ∧ x.f3 ≤ 5) ∧ (0 ≤ x.f4 ∧ x.f4 ≤ 999) ∧ 0 ≤ x.f5 ∧ x.f5 ≤ 999 := by simp [fB, inr_iff, and_assoc]
/-- element i is as it must be -/
def fGood (l : List Fd) (i : Nat) : Prop := fB (fAt l i) = true ∧ (0 < i → (fAt l (i - 1)).f0 < (fAt l i).f0)
/-- foods are valid -/
def FV (l : List Fd) : Prop := l.length ≤ 6 ∧ ∀ i, i < l.length → fGood l i
theorem isId_eq (a : Int) : impl_isId.f a = some (inr a 1 20) := by simp only [impl_isId.f, within_eq, Option.bind_some]
theorem sFoods_ok (l : List Fd) (hl : l.length ≤ 2000000) : Ok (fun k => spec_FoodsValid.f k l) (fun r => r = true ↔ FV l) := by
  unfold spec_FoodsValid.f
  refine Ok.range (fun (_ : Unit) i k => spec_FoodsValid.l0 k l i) l.length (fun i _ => ∀ j, j < i → fGood l j) _ ?_ ?_ () (fun j hj => absurd hj (by omega))
  · intro i _ hi hinv ih
    refine Ok.step (fun k => by simp only [spec_FoodsValid.l0]; rfl) (Ok.pos (by omega) (Ok.pos (by omega) ?_))
    simp only [l6In_eq, l3Set_eq, Option.bind_some, fAt_rd]
    have bad : ¬ fGood l i → Ok (fun k => spec_FoodsValid.j1 k l (i : Int) true (fAt l i).f0 (fAt l i).f1 (fAt l i).f2 (fAt l i).f3 (fAt l i).f4 (fAt l i).f5) (fun r : Bool => r = true ↔ FV l) := fun h => Ok.step (fun k => by simp only [spec_FoodsValid.j1]; rfl) (Ok.pos (by trivial) (Ok.ret ⟨fun h' => (by cases h'), fun h' => absurd (h'.2 i hi) h⟩))
    have good : fGood l i → Ok (fun k => spec_FoodsValid.l0 k l ((i : Int) + 1)) (fun r : Bool => r = true ↔ FV l) := fun h => ih () (fun j hj => by
      rcases Nat.lt_succ_iff_lt_or_eq.1 hj with h1 | rfl
      · exact hinv j h1
      · exact h)
    have fb : inr (fAt l i).f0 1 20 = true → inr (fAt l i).f1 1 3 = true → inr (fAt l i).f2 0 255 = true → inr (fAt l i).f3 1 5 = true → inr (fAt l i).f4 0 999 = true → inr (fAt l i).f5 0 999 = true → fB (fAt l i) = true := fun h1 h2 h3 h4 h5 h6 => by simp [fB, h1, h2, h3, h4, h5, h6]
    refine Ok.ite (fun h1 => Ok.ite (fun h2 => Ok.ite (fun h3 => Ok.ite (fun h4 => Ok.ite (fun h5 => ?_) (fun h => bad fun g => h (by have := (fB_iff _).1 g.1; exact (inr_iff _ _ _).2 (by omega)))) (fun h => bad fun g => h (by have := (fB_iff _).1 g.1; exact (inr_iff _ _ _).2 (by omega)))) (fun h => bad fun g => h (by have := (fB_iff _).1 g.1; exact (inr_iff _ _ _).2 (by omega)))) (fun h => bad fun g => h (by have := (fB_iff _).1 g.1; exact (inr_iff _ _ _).2 (by omega)))) (fun h => bad fun g => h (by have := (fB_iff _).1 g.1; exact (inr_iff _ _ _).2 (by omega)))
    cases h6 : inr (fAt l i).f5 0 999 with
    | false => exact bad fun g => by have := (fB_iff _).1 g.1; rw [(inr_iff _ _ _).2 this.2.2.2.2.2] at h6; cases h6
    | true =>
      refine Ok.step (fun k => by simp only [spec_FoodsValid.j1]; rfl) (Ok.neg (by simp) ?_)
      rw [wrap_id (n := (i : Int) + 1) (by omega) (by omega), wrap_id (n := (i : Int) - 1) (by omega) (by omega)]
      refine Ok.ite (fun h7 => Ok.pos (by omega) (Ok.pos (by omega) ?_)) (fun h7 => good ⟨fb h1 h2 h3 h4 h5 h6, fun h => absurd h (by omega)⟩)
      rw [fAt_prev l i (by omega)]
      exact Ok.ite (fun h8 => Ok.ret ⟨fun h' => (by cases h'), fun h' => by have := (h'.2 i hi).2 (by omega); omega⟩) (fun h8 => good ⟨fb h1 h2 h3 h4 h5 h6, fun _ => by omega⟩)
  · intro _ hinv
    refine Ok.step (fun k => by simp only [spec_FoodsValid.l0]; rfl) (Ok.neg (by omega) (Ok.ret ?_))
    rw [decide_eq_true_iff]
    exact ⟨fun h => ⟨by omega, hinv⟩, fun h => by have := h.1; omega⟩
theorem iFoods_ok (l : List Fd) (hl : l.length ≤ 2000000) : Ok (fun k => impl_FoodsValid.f k l) (fun r => r = true ↔ FV l) := by
  unfold impl_FoodsValid.f
  refine Ok.range (fun (_ : Unit) i k => impl_FoodsValid.l0 k l l (l.length : Int) i) l.length (fun i _ => ∀ j, j < i → fGood l j) _ ?_ ?_ () (fun j hj => absurd hj (by omega))
  · intro i _ hi hinv ih
    refine Ok.step (fun k => by simp only [impl_FoodsValid.l0]; rfl) (Ok.pos (by omega) (Ok.pos (by omega) (Ok.pos (by omega) ?_)))
    have ew : wrap64 ((i : Int) + 1) = (i : Int) + 1 := wrap_id (by omega) (by omega)
    have ew' : wrap64 ((i : Int) - 1) = (i : Int) - 1 := wrap_id (by omega) (by omega)
    simp only [isId_eq, within_eq, isSet_eq, isKind_eq, Option.bind_some, ew, ew', fAt_rd]
    have bad : ¬ fGood l i → Ok (fun _ => some false) (fun r : Bool => r = true ↔ FV l) := fun h => Ok.ret ⟨fun h' => (by cases h'), fun h' => absurd (h'.2 i hi) h⟩
    have good : fGood l i → Ok (fun k => impl_FoodsValid.l0 k l l (l.length : Int) ((i : Int) + 1)) (fun r : Bool => r = true ↔ FV l) := fun h => ih () (fun j hj => by
      rcases Nat.lt_succ_iff_lt_or_eq.1 hj with h1 | rfl
      · exact hinv j h1
      · exact h)
    have fb : inr (fAt l i).f0 1 20 = true → inr (fAt l i).f1 1 3 = true → inr (fAt l i).f2 0 255 = true → inr (fAt l i).f3 1 5 = true → inr (fAt l i).f4 0 999 = true → inr (fAt l i).f5 0 999 = true → fB (fAt l i) = true := fun h1 h2 h3 h4 h5 h6 => by simp [fB, h1, h2, h3, h4, h5, h6]
    refine Ok.ite (fun h1 => Ok.ite (fun h2 => Ok.ite (fun h3 => Ok.ite (fun h4 => Ok.ite (fun h5 => Ok.ite (fun h6 => Ok.ite (fun h7 => ?_) (fun h7 => good ⟨fb h1 h2 h3 h4 h5 h6, fun h => absurd h (by omega)⟩)) (fun h => bad fun g => h (by have := (fB_iff _).1 g.1; exact (inr_iff _ _ _).2 (by omega)))) (fun h => bad fun g => h (by have := (fB_iff _).1 g.1; exact (inr_iff _ _ _).2 (by omega)))) (fun h => bad fun g => h (by have := (fB_iff _).1 g.1; exact (inr_iff _ _ _).2 (by omega)))) (fun h => bad fun g => h (by have := (fB_iff _).1 g.1; exact (inr_iff _ _ _).2 (by omega)))) (fun h => bad fun g => h (by have := (fB_iff _).1 g.1; exact (inr_iff _ _ _).2 (by omega)))) (fun h => bad fun g => h (by have := (fB_iff _).1 g.1; exact (inr_iff _ _ _).2 (by omega)))
    refine Ok.pos (by omega) (Ok.pos (by omega) ?_)
    simp only [fAt_prev l i (by omega)]
    exact Ok.ite (fun h8 => bad fun h => by have := h.2 (by omega); omega) (fun h8 => good ⟨fb h1 h2 h3 h4 h5 h6, fun _ => by omega⟩)
  · intro _ hinv
    refine Ok.step (fun k => by simp only [impl_FoodsValid.l0]; rfl) (Ok.neg (by omega) (Ok.ret ?_))
    rw [decide_eq_true_iff]
    exact ⟨fun h => ⟨by omega, hinv⟩, fun h => by have := h.1; omega⟩
end Go.Proofs.Ytglddjbcaknnaaa.Pure
/- Lists, read and written element by element. No conditions. -/
namespace Go.Proofs.Ytglddjbcaknnaaa.Pure
open Go.RowKit Go.Proofs.YtglddjbcaknnaaaW.PrintWords Go.Proofs.YtglddjbcaknnaaaW.PrintLast
set_option linter.unusedVariables false
set_option linter.unusedSimpArgs false

theorem rd_nat (l : List Int) (i : Nat) : rd l (i : Int) = l.getD i 0 := rfl
theorem eq_of_getD {α : Type} {a b : List α} (d : α) (h : a.length = b.length) (k : ∀ i, i < a.length → a.getD i d = b.getD i d) : a = b := by
  refine List.ext_getElem h fun i h1 h2 => ?_
  have := k i h1
  rwa [getD_at _ _ _ h1, getD_at _ _ _ h2] at this
theorem getD_set {α : Type} (l : List α) (d v : α) (i j : Nat) (hi : i < l.length) : (l.set i v).getD j d = if j = i then v else l.getD j d := by
  rw [List.getD_eq_getElem?_getD, List.getElem?_set]
  by_cases h : i = j
  · subst h; simp [hi]
  · rw [if_neg h, if_neg (fun e => h e.symm), ← List.getD_eq_getElem?_getD]
theorem getD_snoc {α : Type} (l : List α) (d v : α) (j : Nat) : (l ++ [v]).getD j d = if j = l.length then v else l.getD j d := by
  rw [List.getD_eq_getElem?_getD, List.getElem?_append]
  by_cases h : j < l.length
  · rw [if_pos h, if_neg (by omega), ← List.getD_eq_getElem?_getD]
  · rw [if_neg h]
    by_cases e : j = l.length
    · subst e; simp
    · rw [if_neg e, List.getElem?_eq_none (by simp; omega), List.getD_eq_getElem?_getD, List.getElem?_eq_none (by omega)]
theorem skip_getD {α : Type} (l : List α) (d : α) (k i : Nat) (hk : k < l.length) : (l.take k ++ l.drop (k + 1)).getD i d = if i < k then l.getD i d else l.getD (i + 1) d := by
  simp only [List.getD_eq_getElem?_getD, List.getElem?_append, List.length_take]
  by_cases h : i < k
  · rw [if_pos h, if_pos (by omega), List.getElem?_take, if_pos h]
  · rw [if_neg h, if_neg (by omega), List.getElem?_drop, show k + 1 + (i - min k l.length) = i + 1 by omega]
theorem skip_len {α : Type} (l : List α) (k : Nat) (hk : k < l.length) : (l.take k ++ l.drop (k + 1)).length = l.length - 1 := by simp; omega
end Go.Proofs.Ytglddjbcaknnaaa.Pure
/- The place of a food, in the program and in the reference. Condition: at most 2,000,000 foods. -/
namespace Go.Proofs.Ytglddjbcaknnaaa.Pure
open Go.RowKit Go.Proofs.YtglddjbcaknnaaaW.PrintWords Go.Proofs.YtglddjbcaknnaaaW.PrintLast Go.Proofs.Ytglddjbcaknnaaa.Q
set_option linter.unusedVariables false
set_option linter.unusedSimpArgs false
def fPl (l : List Fd) (id : Int) : Int := idxOf (fun x => x.f0 == id) l
theorem foodPlace_eq (l : List Fd) (id : Int) : impl_foodPlace.f l id = some (fPl l id) := rfl
theorem fPl_none {l : List Fd} {id : Int} (h : ∀ j, j < l.length → (fAt l j).f0 ≠ id) : fPl l id = -1 := idxOf_miss _ l z62 fun j hj => beq_eq_false_iff_ne.2 (h j hj)
theorem fPl_hit {l : List Fd} {id : Int} {k : Nat} (hk : k < l.length) (h : (fAt l k).f0 = id) (hn : ∀ j, j < k → (fAt l j).f0 ≠ id) : fPl l id = (k : Int) := idxOf_hit _ l z62 k hk (beq_iff_eq.2 h) fun j hj => beq_eq_false_iff_ne.2 (hn j hj)
theorem fPl_is (l : List Fd) (id : Int) : (fPl l id = -1 ∧ ∀ j, j < l.length → (fAt l j).f0 ≠ id) ∨ ∃ k : Nat, fPl l id = k ∧ k < l.length ∧ (fAt l k).f0 = id ∧ ∀ j, j < k → (fAt l j).f0 ≠ id := by
  have key : ∀ d i, i + d = l.length → (∀ j, j < i → (fAt l j).f0 ≠ id) → (fPl l id = -1 ∧ ∀ j, j < l.length → (fAt l j).f0 ≠ id) ∨ ∃ k : Nat, fPl l id = k ∧ k < l.length ∧ (fAt l k).f0 = id ∧ ∀ j, j < k → (fAt l j).f0 ≠ id := by
    intro d
    induction d with
    | zero =>
      intro i hi h
      exact .inl ⟨fPl_none fun j hj => h j (by omega), fun j hj => h j (by omega)⟩
    | succ d ih =>
      intro i hi h
      by_cases e : (fAt l i).f0 = id
      · exact .inr ⟨i, fPl_hit (by omega) e h, by omega, e, h⟩
      · refine ih (i + 1) (by omega) fun j hj => ?_
        rcases Nat.lt_succ_iff_lt_or_eq.1 hj with h1 | rfl
        · exact h j h1
        · exact e
  exact key l.length 0 (by omega) fun j hj => absurd hj (by omega)
theorem l5Find_ok (l : List Fd) (id : Int) (hl : l.length ≤ 2000000) : Ok (fun k => spec_l5Find.f k l id) (· = fPl l id) := by
  unfold spec_l5Find.f
  refine Ok.range (fun (_ : Unit) i k => spec_l5Find.l0 k l id i) l.length (fun i _ => ∀ j, j < i → (fAt l j).f0 ≠ id) _ ?_ ?_ () (fun j hj => absurd hj (by omega))
  · intro i _ hi hinv ih
    refine Ok.step (fun k => by simp only [spec_l5Find.l0]; rfl) (Ok.pos (by omega) (Ok.pos (by omega) ?_))
    rw [fAt_rd, wrap_id (n := (i : Int) + 1) (by omega) (by omega)]
    refine Ok.ite (fun h => Ok.ret (fPl_hit hi h hinv).symm) (fun h => ih () fun j hj => ?_)
    rcases Nat.lt_succ_iff_lt_or_eq.1 hj with h1 | rfl
    · exact hinv j h1
    · exact h
  · intro _ hinv
    exact Ok.step (fun k => by simp only [spec_l5Find.l0]; rfl) (Ok.neg (by omega) (Ok.ret (fPl_none hinv).symm))
/-- valid foods: one place for each number -/
theorem food_lt {l : List Fd} (v : FV l) : ∀ j i, i < j → j < l.length → (fAt l i).f0 < (fAt l j).f0
  | 0, i, h, _ => absurd h (by omega)
  | j + 1, i, h, hj => by
    have h1 := (v.2 (j + 1) hj).2 (by omega)
    rw [Nat.add_sub_cancel] at h1
    rcases Nat.lt_succ_iff_lt_or_eq.1 h with h2 | rfl
    · exact Int.lt_trans (food_lt v j i h2 (by omega)) h1
    · exact h1
theorem food_at {l : List Fd} (v : FV l) (k : Nat) (hk : k < l.length) : fPl l (fAt l k).f0 = (k : Int) :=
  fPl_hit hk rfl fun j hj => Int.ne_of_lt (food_lt v k j hj hk)
end Go.Proofs.Ytglddjbcaknnaaa.Pure
/- When rules are valid, in the program and in the reference. Condition: at most 2,000,000. -/
namespace Go.Proofs.Ytglddjbcaknnaaa.Pure
open Go.RowKit Go.Proofs.YtglddjbcaknnaaaW.PrintWords Go.Proofs.YtglddjbcaknnaaaW.PrintLast Go.Proofs.Ytglddjbcaknnaaa.Q
set_option linter.unusedVariables false
set_option linter.unusedSimpArgs false
abbrev Swp := S41
def sAt (l : List Swp) (i : Nat) : Swp := l.getD i z41
theorem sAt_rd (l : List Swp) (i : Nat) : rd_T41 l (i : Int) = sAt l i := rfl
def sGood (l : List Fd) (x : Swp) : Prop := x.f0 ≠ x.f1 ∧ 0 ≤ fPl l x.f0 ∧ 0 ≤ fPl l x.f1 ∧ (1 ≤ x.f2 ∧ x.f2 ≤ 9) ∧ 1 ≤ x.f3 ∧ x.f3 ≤ 9
def SV (r : List Swp) (l : List Fd) : Prop := FV l ∧ r.length ≤ 6 ∧ ∀ i, i < r.length → sGood l (sAt r i)
theorem bad_swap (l : List Fd) (x : Swp) : impl_SwapsValid.bad l x = false ↔ sGood l x := by
  unfold impl_SwapsValid.bad sGood fPl
  by_cases h1 : x.f0 = x.f1
  · rw [if_pos h1]; simp [h1]
  rw [if_neg h1]
  by_cases h2 : idxOf (fun y => y.f0 == x.f0) l < 0
  · rw [if_pos h2]; simp; omega
  rw [if_neg h2]
  by_cases h3 : idxOf (fun y => y.f0 == x.f1) l < 0
  · rw [if_pos h3]; simp; omega
  rw [if_neg h3]
  by_cases h4 : 1 ≤ x.f2 ∧ x.f2 ≤ 9
  · rw [if_pos h4]; simp; omega
  · rw [if_neg h4]; simp; omega
theorem iSwaps_ok (r : List Swp) (l : List Fd) (hl : l.length ≤ 2000000) : Ok (fun k => impl_SwapsValid.f k r l) (fun b => b = true ↔ SV r l) := by
  unfold impl_SwapsValid.f
  refine Ok.bind (iFoods_ok l hl) fun b hb => Ok.ite (fun h => Ok.ite (fun h2 => Ok.ret ?_) (fun h2 => Ok.ret ⟨fun h' => (by cases h'), fun h' => absurd h'.2.1 (by omega)⟩)) (fun h => Ok.ret ⟨fun h' => (by cases h'), fun h' => absurd (hb.2 h'.1) h⟩)
  simp only [Bool.not_eq_true', List.any_eq_false, Bool.not_eq_true, bad_swap]
  constructor
  · intro h'
    refine ⟨hb.1 h, by omega, fun i hi => ?_⟩
    unfold sAt
    rw [getD_at _ _ _ hi]
    exact h' _ (List.getElem_mem hi)
  · intro h' x hx
    obtain ⟨i, hi, rfl⟩ := List.mem_iff_getElem.1 hx
    have := h'.2.2 i hi
    unfold sAt at this
    rwa [getD_at _ _ _ hi] at this
theorem sSwaps_ok (r : List Swp) (l : List Fd) (hr : r.length ≤ 2000000) (hl : l.length ≤ 2000000) : Ok (fun k => spec_SwapsValid.f k r l) (fun b => b = true ↔ SV r l) := by
  unfold spec_SwapsValid.f
  refine Ok.range (fun (_ : Unit) i k => spec_SwapsValid.l0 k r l i) r.length (fun i _ => ∀ j, j < i → sGood l (sAt r j)) _ ?_ ?_ () (fun j hj => absurd hj (by omega))
  · intro i _ hi hinv ih
    have bad : ¬ sGood l (sAt r i) → Ok (fun _ => some false) (fun b : Bool => b = true ↔ SV r l) := fun h => Ok.ret ⟨fun h' => (by cases h'), fun h' => absurd (h'.2.2 i hi) h⟩
    refine Ok.step (fun k => by simp only [spec_SwapsValid.l0]; rfl) (Ok.pos (by omega) (Ok.pos (by omega) ?_))
    rw [sAt_rd, wrap_id (n := (i : Int) + 1) (by omega) (by omega)]
    refine Ok.bind (l5Find_ok l _ hl) ?_
    rintro _ rfl
    refine Ok.ite (fun h1 => bad fun h => by have := h.2.1; omega) (fun h1 => Ok.bind (l5Find_ok l _ hl) ?_)
    rintro _ rfl
    refine Ok.ite (fun h2 => bad fun h => by have := h.2.2.1; omega) (fun h2 => Ok.ite (fun h3 => bad fun h => h.1 h3) (fun h3 => ?_))
    rw [l6In_eq, l6In_eq]
    refine Ok.val (Ok.ite (fun h4 => Ok.val (Ok.ite (fun h5 => ih () fun j hj => ?_) (fun h5 => bad fun h => h5 ((inr_iff _ _ _).2 h.2.2.2.2)))) (fun h4 => bad fun h => h4 ((inr_iff _ _ _).2 h.2.2.2.1)))
    rcases Nat.lt_succ_iff_lt_or_eq.1 hj with h6 | rfl
    · exact hinv j h6
    · exact ⟨h3, by omega, by omega, (inr_iff _ _ _).1 h4, (inr_iff _ _ _).1 h5⟩
  · intro _ hinv
    refine Ok.step (fun k => by simp only [spec_SwapsValid.l0]; rfl) (Ok.neg (by omega) (Ok.bind (sFoods_ok l hl) fun b hb => Ok.ite (fun h => Ok.ret ?_) (fun h => Ok.ret ⟨fun h' => (by cases h'), fun h' => absurd (hb.2 h'.1) h⟩)))
    rw [decide_eq_true_iff]
    exact ⟨fun h' => ⟨hb.1 h, by omega, hinv⟩, fun h' => by have := h'.2.1; omega⟩
end Go.Proofs.Ytglddjbcaknnaaa.Pure
/- When needs are valid, in the program and in the reference. Condition: at most 2,000,000. -/
namespace Go.Proofs.Ytglddjbcaknnaaa.Pure
open Go.RowKit Go.Proofs.YtglddjbcaknnaaaW.PrintWords Go.Proofs.YtglddjbcaknnaaaW.PrintLast Go.Proofs.Ytglddjbcaknnaaa.Q
set_option linter.unusedVariables false
set_option linter.unusedSimpArgs false
def NV (l : List Fd) (p : List Int) : Prop := FV l ∧ p.length = l.length ∧ ∀ i, i < p.length → inr (p.getD i 0) 0 999999 = true
theorem bad_need (n : Int) : impl_needsValid.bad n = !inr n 0 999999 := rfl
theorem iNeeds_ok (l : List Fd) (p : List Int) (hl : l.length ≤ 2000000) : Ok (fun k => impl_needsValid.f k l p) (fun r => r = true ↔ NV l p) := by
  unfold impl_needsValid.f
  refine Ok.bind (iFoods_ok l hl) fun b hb => Ok.ite (fun h => Ok.ite (fun h2 => Ok.ret ?_) (fun h2 => Ok.ret ⟨fun h' => (by cases h'), fun h' => absurd h'.2.1 (by omega)⟩)) (fun h => Ok.ret ⟨fun h' => (by cases h'), fun h' => absurd (hb.2 h'.1) h⟩)
  simp only [Bool.not_eq_true', List.any_eq_false, bad_need, Bool.not_eq_false]
  constructor
  · intro h'
    refine ⟨hb.1 h, by omega, fun i hi => ?_⟩
    rw [getD_at _ _ _ hi]
    exact h' _ (List.getElem_mem hi)
  · intro h' x hx
    obtain ⟨i, hi, rfl⟩ := List.mem_iff_getElem.1 hx
    have := h'.2.2 i hi
    rwa [getD_at _ _ _ hi] at this
theorem sNeeds_ok (l : List Fd) (p : List Int) (hl : l.length ≤ 2000000) (hp : p.length ≤ 2000000) : Ok (fun k => spec_l15Needs.f k l p) (fun r => r = true ↔ NV l p) := by
  unfold spec_l15Needs.f
  refine Ok.range (fun (_ : Unit) i k => spec_l15Needs.l0 k l p i) p.length (fun i _ => ∀ j, j < i → inr (p.getD j 0) 0 999999 = true) _ ?_ ?_ () (fun j hj => absurd hj (by omega))
  · intro i _ hi hinv ih
    refine Ok.step (fun k => by simp only [spec_l15Needs.l0]; rfl) (Ok.pos (by omega) (Ok.pos (by omega) ?_))
    rw [rd_nat, l6In_eq, wrap_id (n := (i : Int) + 1) (by omega) (by omega)]
    refine Ok.val (Ok.ite (fun h => ih () fun j hj => ?_) (fun h => Ok.ret ⟨fun h' => (by cases h'), fun h' => absurd (h'.2.2 i hi) h⟩))
    rcases Nat.lt_succ_iff_lt_or_eq.1 hj with h1 | rfl
    · exact hinv j h1
    · exact h
  · intro _ hinv
    refine Ok.step (fun k => by simp only [spec_l15Needs.l0]; rfl) (Ok.neg (by omega) (Ok.bind (sFoods_ok l hl) fun b hb => Ok.ite (fun h => Ok.ret ?_) (fun h => Ok.ret ⟨fun h' => (by cases h'), fun h' => absurd (hb.2 h'.1) h⟩)))
    rw [beq_iff_eq]
    exact ⟨fun h' => ⟨hb.1 h, by omega, hinv⟩, fun h' => by have := h'.2.1; omega⟩
end Go.Proofs.Ytglddjbcaknnaaa.Pure
/- Needs in which missing foods are replaced, step by step: what is known of them. Conditions: valid rules and needs. -/
namespace Go.Proofs.Ytglddjbcaknnaaa.Pure
open Go.RowKit Go.Proofs.YtglddjbcaknnaaaW.PrintWords Go.Proofs.YtglddjbcaknnaaaW.PrintLast Go.Proofs.Ytglddjbcaknnaaa.Q
set_option linter.unusedVariables false
set_option linter.unusedSimpArgs false
def hasI (m : List Int) (x : Int) : Bool := m.any (· == x)
theorem hasI_iff (m : List Int) (x : Int) : hasI m x = true ↔ ∃ i, i < m.length ∧ m.getD i 0 = x := by
  unfold hasI
  rw [List.any_eq_true]
  constructor
  · rintro ⟨y, hy, e⟩
    obtain ⟨i, hi, rfl⟩ := List.mem_iff_getElem.1 hy
    exact ⟨i, hi, by rw [getD_at _ _ _ hi]; simpa using e⟩
  · rintro ⟨i, hi, e⟩
    rw [getD_at _ _ _ hi] at e
    exact ⟨_, List.getElem_mem hi, by simpa using e⟩
theorem hasI_mem (m : List Int) (x : Int) : hasI m x = true ↔ x ∈ m := by
  unfold hasI
  rw [List.any_eq_true]
  exact ⟨fun ⟨y, hy, e⟩ => by have := eq_of_beq e; exact this ▸ hy, fun h => ⟨x, h, by simp⟩⟩
/-- a rule from a food to one that is not missing -/
def pickR (m : List Int) (id : Int) (s : Swp) : Bool := s.f0 == id && !hasI m s.f1
theorem pickR_iff (m : List Int) (id : Int) (s : Swp) : pickR m id s = true ↔ s.f0 = id ∧ hasI m s.f1 = false := by simp [pickR]
def upN (n d : Int) : Int := Int.tdiv (n + d - 1) d
def ruleN (r : List Swp) (m : List Int) (id : Int) : Int := idxOf (pickR m id) r
theorem ruleN_is (r : List Swp) (m : List Int) (id : Int) : (ruleN r m id = -1 ∧ ∀ j, j < r.length → pickR m id (sAt r j) = false) ∨ ∃ k : Nat, ruleN r m id = k ∧ k < r.length ∧ pickR m id (sAt r k) = true ∧ ∀ j, j < k → pickR m id (sAt r j) = false := by
  have key : ∀ d i, i + d = r.length → (∀ j, j < i → pickR m id (sAt r j) = false) → (ruleN r m id = -1 ∧ ∀ j, j < r.length → pickR m id (sAt r j) = false) ∨ ∃ k : Nat, ruleN r m id = k ∧ k < r.length ∧ pickR m id (sAt r k) = true ∧ ∀ j, j < k → pickR m id (sAt r j) = false := by
    intro d
    induction d with
    | zero =>
      intro i hi h
      exact .inl ⟨idxOf_miss _ r z41 fun j hj => h j (by omega), fun j hj => h j (by omega)⟩
    | succ d ih =>
      intro i hi h
      by_cases e : pickR m id (sAt r i) = true
      · exact .inr ⟨i, idxOf_hit _ r z41 i (by omega) e h, by omega, e, h⟩
      · refine ih (i + 1) (by omega) fun j hj => ?_
        rcases Nat.lt_succ_iff_lt_or_eq.1 hj with h1 | rfl
        · exact h j h1
        · exact Bool.eq_false_iff.2 e
  exact key r.length 0 (by omega) fun j hj => absurd hj (by omega)
/-- what food n's turn makes of the needs; none: it has no rule -/
def stepN (r : List Swp) (f : List Fd) (p m : List Int) (n : Nat) (o : List Int) : Option (List Int) :=
  if p.getD n 0 ≠ 0 ∧ hasI m (fAt f n).f0 = true then
    (if ruleN r m (fAt f n).f0 < 0 then none
     else some ((o.set n 0).set (fPl f (sAt r (ruleN r m (fAt f n).f0).toNat).f1).toNat ((o.set n 0).getD (fPl f (sAt r (ruleN r m (fAt f n).f0).toNat).f1).toNat 0 + upN (p.getD n 0 * (sAt r (ruleN r m (fAt f n).f0).toNat).f2) (sAt r (ruleN r m (fAt f n).f0).toNat).f3)))
  else some o
def swpN (r : List Swp) (f : List Fd) (p m : List Int) : Nat → Option (List Int)
  | 0 => some p
  | n + 1 => (swpN r f p m n).bind (stepN r f p m n)
def SwInv (f : List Fd) (p m : List Int) (n : Nat) (o : List Int) : Prop := o.length = p.length ∧ ∀ j, j < p.length → (hasI m (fAt f j).f0 = true → o.getD j 0 = if j < n then 0 else p.getD j 0) ∧ (hasI m (fAt f j).f0 = false → p.getD j 0 ≤ o.getD j 0) ∧ 0 ≤ o.getD j 0 ∧ o.getD j 0 ≤ 999999 + 10000000 * n
/-- the rule that is used, its target and its amount -/
theorem rule_used {r : List Swp} {f : List Fd} {p m : List Int} (v : SV r f) (w : NV f p) {n : Nat} (hn : n < p.length) (h : p.getD n 0 ≠ 0 ∧ hasI m (fAt f n).f0 = true) (hk : ¬ ruleN r m (fAt f n).f0 < 0) :
    ∃ k t : Nat, ruleN r m (fAt f n).f0 = k ∧ k < r.length ∧ (sAt r k).f0 = (fAt f n).f0 ∧ hasI m (sAt r k).f1 = false ∧ fPl f (sAt r k).f1 = t ∧ t < p.length ∧ t ≠ n ∧ hasI m (fAt f t).f0 = false ∧ (fAt f t).f0 = (sAt r k).f1 ∧ (1 ≤ p.getD n 0 * (sAt r k).f2 ∧ p.getD n 0 * (sAt r k).f2 ≤ 8999991) ∧ (1 ≤ (sAt r k).f3 ∧ (sAt r k).f3 ≤ 9) ∧ 0 ≤ upN (p.getD n 0 * (sAt r k).f2) (sAt r k).f3 ∧ upN (p.getD n 0 * (sAt r k).f2) (sAt r k).f3 ≤ 8999999 := by
  rcases ruleN_is r m (fAt f n).f0 with ⟨e, _⟩ | ⟨k, e, hkl, hp, _⟩
  · omega
  have hp' := (pickR_iff _ _ _).1 hp
  have hg := v.2.2 k hkl
  rcases fPl_is f (sAt r k).f1 with ⟨e2, _⟩ | ⟨t, e2, htl, hte, _⟩
  · have := hg.2.2.1; omega
  have hpn := (inr_iff _ _ _).1 (w.2.2 n hn)
  have hn1 : 1 ≤ p.getD n 0 := by have := h.1; omega
  have hm1 : 1 * 1 ≤ p.getD n 0 * (sAt r k).f2 := Int.mul_le_mul hn1 hg.2.2.2.1.1 (by omega) (by omega)
  have hm2 : p.getD n 0 * (sAt r k).f2 ≤ 999999 * 9 := Int.mul_le_mul hpn.2 hg.2.2.2.1.2 (by have := hg.2.2.2.1.1; omega) (by omega)
  have hd := hg.2.2.2.2
  have hu0 : 0 ≤ upN (p.getD n 0 * (sAt r k).f2) (sAt r k).f3 := Int.tdiv_nonneg (by omega) (by omega)
  have hu1 : upN (p.getD n 0 * (sAt r k).f2) (sAt r k).f3 ≤ p.getD n 0 * (sAt r k).f2 + (sAt r k).f3 - 1 := by
    unfold upN
    rw [Int.tdiv_eq_ediv_of_nonneg (by omega)]
    exact Int.ediv_le_self _ (by omega)
  have hx : hasI m (fAt f t).f0 = false := by rw [hte]; exact hp'.2
  refine ⟨k, t, e, hkl, hp'.1, hp'.2, e2, by rw [w.2.1]; exact htl, ?_, hx, hte, ⟨by omega, by omega⟩, hd, hu0, by omega⟩
  rintro rfl
  rw [h.2] at hx
  cases hx
theorem step_inv {r : List Swp} {f : List Fd} {p m : List Int} (v : SV r f) (w : NV f p) {n : Nat} (hn : n < p.length) {o o' : List Int} (hi : SwInv f p m n o) (h : stepN r f p m n o = some o') : SwInv f p m (n + 1) o' := by
  unfold stepN at h
  by_cases hc : p.getD n 0 ≠ 0 ∧ hasI m (fAt f n).f0 = true
  · rw [if_pos hc] at h
    by_cases hk : ruleN r m (fAt f n).f0 < 0
    · rw [if_pos hk] at h; cases h
    · rw [if_neg hk] at h
      obtain ⟨k, t, e1, hkl, hs0, hs1, e2, htl, htn, htm, hte, hx, hd, hu0, hu1⟩ := rule_used v w hn hc hk
      rw [e1, Int.toNat_natCast, e2, Int.toNat_natCast] at h
      have ho := hi.1
      obtain rfl := Option.some.inj h
      refine ⟨by simp [ho], fun j hj => ?_⟩
      have hj' := hi.2 j hj
      rw [getD_set _ _ _ _ _ (by simp; omega), getD_set _ _ _ _ _ (by omega), if_neg htn]
      by_cases ej : j = t
      · subst ej
        rw [if_pos rfl]
        refine ⟨fun h' => (by rw [htm] at h'; cases h'), fun h' => by have := hj'.2.1 h'; omega, by omega, by omega⟩
      · rw [if_neg ej, getD_set _ _ _ _ _ (by omega)]
        by_cases en : j = n
        · subst en
          rw [if_pos rfl]
          refine ⟨fun _ => by rw [if_pos (by omega)], fun h' => (by rw [hc.2] at h'; cases h'), by omega, by omega⟩
        · rw [if_neg en]
          refine ⟨fun h' => ?_, hj'.2.1, hj'.2.2.1, by omega⟩
          rw [hj'.1 h']
          by_cases h1 : j < n
          · rw [if_pos h1, if_pos (by omega)]
          · rw [if_neg h1, if_neg (by omega)]
  · rw [if_neg hc] at h
    obtain rfl := Option.some.inj h
    refine ⟨hi.1, fun j hj => ?_⟩
    have hj' := hi.2 j hj
    refine ⟨fun h' => ?_, hj'.2.1, hj'.2.2.1, by omega⟩
    rw [hj'.1 h']
    by_cases h1 : j < n
    · rw [if_pos h1, if_pos (by omega)]
    · rw [if_neg h1]
      by_cases en : j = n
      · subst en
        rw [if_pos (by omega)]
        exact Classical.byContradiction fun h0 => hc ⟨h0, h'⟩
      · rw [if_neg (by omega)]
theorem inv_zero {f : List Fd} {p : List Int} (w : NV f p) (m : List Int) : SwInv f p m 0 p := by
  refine ⟨rfl, fun j hj => ?_⟩
  have := (inr_iff _ _ _).1 (w.2.2 j hj)
  exact ⟨fun _ => by rw [if_neg (by omega)], fun _ => Int.le_refl _, by omega, by omega⟩
theorem swp_inv {r : List Swp} {f : List Fd} {p : List Int} (m : List Int) (v : SV r f) (w : NV f p) : ∀ (n : Nat), n ≤ p.length → ∀ o, swpN r f p m n = some o → SwInv f p m n o
  | 0, _, o, h => by obtain rfl := Option.some.inj h; exact inv_zero w m
  | n + 1, hn, o, h => by
    obtain ⟨o1, h1, h2⟩ := Option.bind_eq_some_iff.1 h
    exact step_inv v w (by omega) (swp_inv m v w n (by omega) o1 h1) h2
def swpOut (r : List Swp) (f : List Fd) (p m : List Int) : List Int × Bool :=
  match swpN r f p m f.length with
  | none => ([], false)
  | some o => if (∀ j, j < o.length → o.getD j 0 ≤ 999999) then (o, true) else ([], false)
/-- what SwapNeeds answers -/
def SwRes (r : List Swp) (f : List Fd) (p m : List Int) (x : List Int × Bool) : Prop := (SV r f ∧ NV f p → x = swpOut r f p m) ∧ (¬ (SV r f ∧ NV f p) → x = ([], false))
theorem SwRes.eq {r : List Swp} {f : List Fd} {p m : List Int} {a b : List Int × Bool} (h : SwRes r f p m a) (k : SwRes r f p m b) : a = b := by
  by_cases v : SV r f ∧ NV f p
  · rw [h.1 v, k.1 v]
  · rw [h.2 v, k.2 v]
theorem SwRes.ok {r : List Swp} {f : List Fd} {p m o : List Int} (h : SwRes r f p m (o, true)) : SV r f ∧ NV f p ∧ swpN r f p m f.length = some o ∧ NV f o := by
  have v : SV r f ∧ NV f p := Classical.byContradiction fun hn => by have := h.2 hn; cases this
  have e := h.1 v
  unfold swpOut at e
  cases hs : swpN r f p m f.length with
  | none => rw [hs] at e; cases e
  | some o1 =>
    rw [hs] at e
    by_cases hb : ∀ j, j < o1.length → o1.getD j 0 ≤ 999999
    · simp only [if_pos hb] at e
      obtain rfl : o = o1 := congrArg Prod.fst e
      have hi := swp_inv m v.1 v.2 f.length (by rw [v.2.2.1]; exact Nat.le_refl _) o hs
      refine ⟨v.1, v.2, rfl, v.2.1, by rw [hi.1, v.2.2.1], fun i hx => ?_⟩
      have := hi.2 i (by rw [← hi.1]; exact hx)
      exact (inr_iff _ _ _).2 ⟨this.2.2.1, hb i hx⟩
    · simp only [if_neg hb] at e
      cases e
theorem SwRes.len {r : List Swp} {f : List Fd} {p m : List Int} {a : List Int × Bool} (h : SwRes r f p m a) : a.1.length ≤ f.length := by
  obtain ⟨o, b⟩ := a
  cases b with
  | true => have := h.ok.2.2.2.2.1; simp only; omega
  | false =>
    by_cases v : SV r f ∧ NV f p
    · have e := h.1 v
      unfold swpOut at e
      cases hs : swpN r f p m f.length with
      | none => rw [hs] at e; rw [e]; simp
      | some o1 =>
        rw [hs] at e
        by_cases hb : ∀ j, j < o1.length → o1.getD j 0 ≤ 999999
        · simp only [if_pos hb] at e; cases e
        · simp only [if_neg hb] at e; rw [e]; simp
    · rw [h.2 v]; simp
end Go.Proofs.Ytglddjbcaknnaaa.Pure
/- SwapNeeds, in the program and in the reference. Condition: at most 2,000,000 elements each. -/
namespace Go.Proofs.Ytglddjbcaknnaaa.Pure
open Go.RowKit Go.Proofs.YtglddjbcaknnaaaW.PrintWords Go.Proofs.YtglddjbcaknnaaaW.PrintLast Go.Proofs.Ytglddjbcaknnaaa.Q
set_option linter.unusedVariables false
set_option linter.unusedSimpArgs false
theorem up_ok {x d : Int} (h0 : 1 ≤ x) (h1 : x ≤ 8999991) (hd : 1 ≤ d ∧ d ≤ 9) (hu : 0 ≤ upN x d ∧ upN x d ≤ 8999999) : impl_roundedUp.f (wrap64 x) d = some (upN x d) ∧ spec_l1Up.f (wrap64 x) d = some (upN x d) := by
  unfold impl_roundedUp.f spec_l1Up.f
  rw [if_neg (by omega), wrap_id (n := x) (by omega) (by omega), wrap_id (n := x + d) (by omega) (by omega), wrap_id (n := x + d - 1) (by omega) (by omega)]
  have e : Int.tdiv (x + d - 1) d = upN x d := rfl
  rw [e, wrap_id (n := upN x d) (by omega) (by omega)]
  exact ⟨rfl, rfl⟩
theorem put_val {f : List Fd} {p m o : List Int} {n t : Nat} (hi : SwInv f p m n o) (w : NV f p) (hn : n < p.length) (ht : t < p.length) (htn : t ≠ n) {u : Int} (hu0 : 0 ≤ u) (hu1 : u ≤ 8999999) : wrap64 ((o.set n 0).getD t 0 + u) = (o.set n 0).getD t 0 + u := by
  have ho := hi.1
  have h1 := hi.2 t ht
  have h6 : p.length ≤ 6 := by have := w.2.1; have := w.1.1; omega
  rw [getD_set _ _ _ _ _ (by omega), if_neg htn]
  exact wrap_id (by omega) (by omega)
theorem step_eq {r : List Swp} {f : List Fd} {p m o : List Int} (v : SV r f) (w : NV f p) {n : Nat} (hn : n < p.length) (hi : SwInv f p m n o) : impl_SwapNeeds.step r f p m n o = some (stepN r f p m n o) := by
  unfold impl_SwapNeeds.step stepN
  by_cases h0 : p.getD n 0 = 0
  · rw [if_pos h0, if_neg fun h => h.1 h0]
  rw [if_neg h0]
  by_cases h1 : hasI m (fAt f n).f0 = true
  · rw [if_pos (show impl_SwapNeeds.has m (f.getD n z62).f0 = true from h1), if_pos (show p.getD n 0 ≠ 0 ∧ hasI m (fAt f n).f0 = true from ⟨h0, h1⟩)]
    by_cases h2 : ruleN r m (fAt f n).f0 < 0
    · rw [if_pos (show idxOf (impl_SwapNeeds.pick m (f.getD n z62).f0) r < 0 from h2), if_pos h2]
    · rw [if_neg (show ¬ idxOf (impl_SwapNeeds.pick m (f.getD n z62).f0) r < 0 from h2), if_neg h2]
      obtain ⟨k, t, e1, hkl, hs0, hs1, e2, htl, htn, htm, hte, hx, hd, hu0, hu1⟩ := rule_used v w hn ⟨h0, h1⟩ h2
      have e1' : idxOf (impl_SwapNeeds.pick m (f.getD n z62).f0) r = (k : Int) := e1
      rw [e1', e1, Int.toNat_natCast]
      have e2' : idxOf (fun x => x.f0 == (r.getD k z41).f1) f = (t : Int) := e2
      rw [e2', e2, Int.toNat_natCast]
      have ho := hi.1
      rw [if_pos (show 0 ≤ (t : Int) ∧ (t : Int) < (o.length : Int) from ⟨by omega, by omega⟩)]
      have hup := (up_ok hx.1 hx.2 hd ⟨hu0, hu1⟩).1
      have hup' : impl_roundedUp.f (wrap64 (p.getD n 0 * (r.getD k z41).f2)) (r.getD k z41).f3 = some (upN (p.getD n 0 * (sAt r k).f2) (sAt r k).f3) := hup
      rw [hup', Option.bind_some, put_val hi w hn htl htn hu0 hu1]
  · rw [if_neg (show ¬ impl_SwapNeeds.has m (f.getD n z62).f0 = true from h1), if_neg fun h => h1 h.2]
theorem all_eq {r : List Swp} {f : List Fd} {p : List Int} (m : List Int) (v : SV r f) (w : NV f p) : ∀ n, n ≤ p.length → impl_SwapNeeds.all r f p m n = some (swpN r f p m n)
  | 0, _ => rfl
  | n + 1, hn => by
    rw [impl_SwapNeeds.all, all_eq m v w n (by omega), Option.bind_some, swpN]
    cases h : swpN r f p m n with
    | none => rfl
    | some o => exact step_eq v w (by omega) (swp_inv m v w n (by omega) o h)
theorem nv_iff {r : List Swp} {f : List Fd} {p m o : List Int} (w : NV f p) (hi : SwInv f p m f.length o) : NV f o ↔ ∀ j, j < o.length → o.getD j 0 ≤ 999999 := by
  constructor
  · intro h j hj
    exact ((inr_iff _ _ _).1 (h.2.2 j hj)).2
  · intro h
    refine ⟨w.1, by rw [hi.1, w.2.1], fun j hj => (inr_iff _ _ _).2 ⟨(hi.2 j (by rw [← hi.1]; exact hj)).2.2.1, h j hj⟩⟩
theorem iSwap_ok (r : List Swp) (f : List Fd) (p m : List Int) (hf : f.length ≤ 2000000) : Ok (fun k => impl_SwapNeeds.f k r f p m) (SwRes r f p m) := by
  unfold impl_SwapNeeds.f
  refine Ok.bind (iSwaps_ok r f hf) fun b hb => Ok.ite (fun h => ?_) (fun h => Ok.ret ⟨fun h' => absurd (hb.2 h'.1) h, fun _ => rfl⟩)
  refine Ok.bind (iNeeds_ok f p hf) fun b2 hb2 => Ok.ite (fun h2 => ?_) (fun h2 => Ok.ret ⟨fun h' => absurd (hb2.2 h'.2) h2, fun _ => rfl⟩)
  have v := hb.1 h
  have w := hb2.1 h2
  have hl : p.length = f.length := w.2.1
  have hfin : ∀ x, x = swpOut r f p m → SwRes r f p m x := fun x e => ⟨fun _ => e, fun h' => absurd ⟨v, w⟩ h'⟩
  rw [all_eq m v w f.length (by omega)]
  refine Ok.pos ⟨by omega, hl⟩ (Ok.val ?_)
  cases hs : swpN r f p m f.length with
  | none => exact Ok.ret (hfin _ (by rw [swpOut, hs]))
  | some o =>
    have hi := swp_inv m v w f.length (by omega) o hs
    have hn := nv_iff (r := r) w hi
    refine Ok.bind (iNeeds_ok f o hf) fun b3 hb3 => Ok.ite (fun h3 => Ok.ret (hfin _ ?_)) (fun h3 => Ok.ret (hfin _ ?_))
    · rw [swpOut, hs]
      simp only
      rw [if_pos (hn.1 (hb3.1 h3))]
    · rw [swpOut, hs]
      simp only
      rw [if_neg fun h' => h3 (hb3.2 (hn.2 h'))]
theorem sHas_ok (m : List Int) (x : Int) (hm : m.length ≤ 2000000) : Ok (fun k => spec_l15Has.f k m x) (· = hasI m x) := by
  unfold spec_l15Has.f
  refine Ok.range (fun (_ : Unit) i k => spec_l15Has.l0 k m x i) m.length (fun i _ => ∀ j, j < i → m.getD j 0 ≠ x) _ ?_ ?_ () (fun j hj => absurd hj (by omega))
  · intro i _ hi hinv ih
    refine Ok.step (fun k => by simp only [spec_l15Has.l0]; rfl) (Ok.pos (by omega) (Ok.pos (by omega) ?_))
    rw [rd_nat, wrap_id (n := (i : Int) + 1) (by omega) (by omega)]
    refine Ok.ite (fun h => Ok.ret ((hasI_iff m x).2 ⟨i, hi, h⟩).symm) (fun h => ih () fun j hj => ?_)
    rcases Nat.lt_succ_iff_lt_or_eq.1 hj with h1 | rfl
    · exact hinv j h1
    · exact h
  · intro _ hinv
    refine Ok.step (fun k => by simp only [spec_l15Has.l0]; rfl) (Ok.neg (by omega) (Ok.ret (Bool.eq_false_iff.2 fun h => ?_).symm))
    obtain ⟨j, hj, e⟩ := (hasI_iff m x).1 h
    exact hinv j hj e
theorem swp_none {r : List Swp} {f : List Fd} {p m : List Int} {n : Nat} (h : swpN r f p m n = none) : ∀ d, swpN r f p m (n + d) = none
  | 0 => h
  | d + 1 => by rw [← Nat.add_assoc, swpN, swp_none h d]; rfl
theorem sSwap_ok (r : List Swp) (f : List Fd) (p m : List Int) (hr : r.length ≤ 2000000) (hf : f.length ≤ 2000000) (hp : p.length ≤ 2000000) (hm : m.length ≤ 2000000) : Ok (fun k => spec_SwapNeeds.f k r f p m) (SwRes r f p m) := by
  unfold spec_SwapNeeds.f
  have no : ¬ (SV r f ∧ NV f p) → Ok (fun k => spec_SwapNeeds.j0 k r f p m true) (SwRes r f p m) := fun h => Ok.step (fun k => by simp only [spec_SwapNeeds.j0]; rfl) (Ok.pos (by trivial) (Ok.ret ⟨fun h' => absurd h' h, fun _ => rfl⟩))
  refine Ok.bind (sSwaps_ok r f hr hf) fun b hb => Ok.ite (fun h => Ok.bind (sNeeds_ok f p hf hp) fun b2 hb2 => ?_) (fun h => no fun h' => h (hb.2 h'.1))
  cases b2 with
  | false => exact no fun h' => by have := hb2.2 h'.2; cases this
  | true =>
    have v := hb.1 h
    have w := hb2.1 rfl
    have hl : p.length = f.length := w.2.1
    have hfin : ∀ x, x = swpOut r f p m → SwRes r f p m x := fun x e => ⟨fun _ => e, fun h' => absurd ⟨v, w⟩ h'⟩
    refine Ok.step (fun k => by simp only [spec_SwapNeeds.j0]; rfl) (Ok.neg (by simp) (Ok.val (Ok.pos (by simp; omega) ?_)))
    rw [List.nil_append]
    refine Ok.range (fun (o : List Int) i k => spec_SwapNeeds.l0 k r f p m o i) f.length (fun i o => swpN r f p m i = some o) _ ?_ ?_ p rfl
    · intro i o hi hs ih
      have inv := swp_inv m v w i (by omega) o hs
      have ho := inv.1
      have hnext : swpN r f p m (i + 1) = stepN r f p m i o := by rw [swpN, hs]; rfl
      have skip : ¬ (p.getD i 0 ≠ 0 ∧ hasI m (fAt f i).f0 = true) → Ok (fun k => spec_SwapNeeds.j2 k r f p m o (i : Int) false) (SwRes r f p m) := fun hc => by
        refine Ok.step (fun k => by simp only [spec_SwapNeeds.j2]; rfl) (Ok.neg (by simp) ?_)
        rw [wrap_id (n := (i : Int) + 1) (by omega) (by omega)]
        refine ih o ?_
        rw [hnext, stepN, if_neg hc]
      refine Ok.step (fun k => by simp only [spec_SwapNeeds.l0]; rfl) (Ok.pos (by omega) (Ok.pos (by omega) (Ok.bind (sHas_ok m _ hm) ?_)))
      rintro _ rfl
      rw [fAt_rd]
      refine Ok.ite (fun h1 => Ok.pos (by omega) ?_) (fun h1 => skip fun h' => h1 h'.2)
      rw [rd_nat]
      have hpi := (inr_iff _ _ _).1 (w.2.2 i (by omega))
      by_cases h2 : p.getD i 0 > 0
      · rw [decide_eq_true h2]
        have hc : p.getD i 0 ≠ 0 ∧ hasI m (fAt f i).f0 = true := ⟨by omega, h1⟩
        refine Ok.step (fun k => by simp only [spec_SwapNeeds.j2]; rfl) (Ok.pos (by trivial) ?_)
        have scan : ∀ d c : Nat, c + d = r.length → (∀ j, j < c → pickR m (fAt f i).f0 (sAt r j) = false) → Ok (fun k => spec_SwapNeeds.l1 k r f p m o (i : Int) (c : Int)) (SwRes r f p m) := by
          intro d
          induction d with
          | zero =>
            intro c hcd hinv
            refine Ok.step (fun k => by simp only [spec_SwapNeeds.l1]; rfl) (Ok.neg (by omega) ?_)
            refine Ok.step (fun k => by simp only [spec_SwapNeeds.j4]; rfl) (Ok.pos (by omega) (Ok.ret (hfin _ ?_)))
            have hk : ruleN r m (fAt f i).f0 < 0 := by
              rcases ruleN_is r m (fAt f i).f0 with ⟨e, _⟩ | ⟨q, _, hq, hp, _⟩
              · omega
              · rw [hinv q (by omega)] at hp; cases hp
            have hn : swpN r f p m (i + 1) = none := by rw [hnext, stepN, if_pos hc, if_pos hk]
            have := swp_none hn (f.length - (i + 1))
            rw [show i + 1 + (f.length - (i + 1)) = f.length by omega] at this
            rw [swpOut, this]
          | succ d ihd =>
            intro c hcd hinv
            have e1 : ((c : Int) + 1) = ((c + 1 : Nat) : Int) := by omega
            have next : pickR m (fAt f i).f0 (sAt r c) = false → Ok (fun k => spec_SwapNeeds.l1 k r f p m o (i : Int) (wrap64 ((c : Int) + 1))) (SwRes r f p m) := fun hq => by
              rw [wrap_id (n := (c : Int) + 1) (by omega) (by omega), e1]
              refine ihd (c + 1) (by omega) fun j hj => ?_
              rcases Nat.lt_succ_iff_lt_or_eq.1 hj with h3 | rfl
              · exact hinv j h3
              · exact hq
            refine Ok.step (fun k => by simp only [spec_SwapNeeds.l1]; rfl) (Ok.pos (by omega) (Ok.pos (by omega) (Ok.pos (by omega) (Ok.pos (by omega) ?_))))
            rw [sAt_rd, fAt_rd]
            refine Ok.ite (fun h3 => Ok.bind (sHas_ok m _ hm) ?_) (fun h3 => next (Bool.eq_false_iff.2 fun h' => h3 ((pickR_iff _ _ _).1 h').1))
            rintro _ rfl
            refine Ok.ite (fun h4 => next (Bool.eq_false_iff.2 fun h' => by have := ((pickR_iff _ _ _).1 h').2; rw [h4] at this; cases this)) (fun h4 => ?_)
            have hpc : pickR m (fAt f i).f0 (sAt r c) = true := (pickR_iff _ _ _).2 ⟨h3, Bool.eq_false_iff.2 h4⟩
            have hrc : ruleN r m (fAt f i).f0 = (c : Int) := idxOf_hit _ r z41 c (by omega) hpc hinv
            have hk0 : ¬ ruleN r m (fAt f i).f0 < 0 := by omega
            obtain ⟨k, t, g1, hkl, hs0, hs1, e2, htl, htn, htm, hte, hx, hd, hu0, hu1⟩ := rule_used v w (show i < p.length by omega) hc hk0
            obtain rfl : k = c := by omega
            refine Ok.step (fun k => by simp only [spec_SwapNeeds.j4]; rfl) (Ok.neg (by omega) (Ok.pos (by omega) (Ok.pos (by omega) (Ok.bind (l5Find_ok f _ hf) ?_))))
            rintro _ rfl
            rw [sAt_rd, e2]
            refine Ok.pos (by omega) (Ok.pos (by omega) (Ok.val (Ok.pos (by omega) (Ok.pos (by omega) (Ok.pos (by omega) ?_)))))
            rw [rd_nat, (up_ok hx.1 hx.2 hd ⟨hu0, hu1⟩).2]
            refine Ok.val ?_
            rw [Int.toNat_natCast, Int.toNat_natCast, rd_nat, put_val inv w (by omega) htl htn hu0 hu1, wrap_id (n := (i : Int) + 1) (by omega) (by omega)]
            refine ih _ ?_
            rw [hnext, stepN, if_pos hc, if_neg hk0, g1, Int.toNat_natCast, e2, Int.toNat_natCast]
        exact scan r.length 0 (by omega) (fun j hj => absurd hj (by omega))
      · rw [decide_eq_false h2]
        exact skip fun h' => h'.1 (by omega)
    · intro o hs
      have hi := swp_inv m v w f.length (by omega) o hs
      have hn := nv_iff (r := r) w hi
      have ho := hi.1
      refine Ok.step (fun k => by simp only [spec_SwapNeeds.l0]; rfl) (Ok.neg (by omega) (Ok.bind (sNeeds_ok f o hf (by omega)) fun b3 hb3 => Ok.ite (fun h3 => Ok.ret (hfin _ ?_)) (fun h3 => Ok.ret (hfin _ ?_))))
      · rw [swpOut, hs]
        simp only
        rw [if_pos (hn.1 (hb3.1 h3))]
      · rw [swpOut, hs]
        simp only
        rw [if_neg fun h' => h3 (hb3.2 (hn.2 h'))]
end Go.Proofs.Ytglddjbcaknnaaa.Pure
/- The laws' foods and the program's: copied field by field. Condition: at most 2,000,000. -/
namespace Go.Proofs.Ytglddjbcaknnaaa.Pure
open Go.RowKit Go.Proofs.YtglddjbcaknnaaaW.PrintWords Go.Proofs.YtglddjbcaknnaaaW.PrintLast Go.Proofs.Ytglddjbcaknnaaa.Q
set_option linter.unusedVariables false
set_option linter.unusedSimpArgs false

def cvFood (x : S65) : S62 := ⟨x.f0, x.f1, x.f2, x.f3, x.f4, x.f5⟩
theorem toFoodS_ok (l : List S65) (hl : l.length ≤ 2000000) : Ok (fun k => laws_toFoodS.f k l) (· = l.map cvFood) := by
  unfold laws_toFoodS.f
  refine Ok.pos (by omega) (Ok.pos (Nat.le_trans (m := 2000000) (by omega) (by decide)) ?_)
  refine Ok.range (fun (s : List S62) i k => laws_toFoodS.l0 k l s i) l.length (fun i s => s.length = l.length ∧ ∀ j, j < i → s.getD j z62 = (l.map cvFood).getD j z62) _ ?_ ?_ _ ⟨by simp, fun j hj => absurd hj (by omega)⟩
  · rintro i s hi ⟨h1, h2⟩ ih
    have ew : wrap64 ((i : Int) + 1) = (i : Int) + 1 := wrap_id (by omega) (by omega)
    refine Ok.step (fun k => by simp only [laws_toFoodS.l0]; rfl) (Ok.pos (by omega) (Ok.pos (by omega) ?_))
    simp only [laws_toFood.f, Option.bind_some, ew]
    refine Ok.pos (by omega) (ih _ ⟨by simp [h1], fun j hj => ?_⟩)
    simp only [Int.toNat_natCast]
    rw [getD_set _ _ _ _ _ (by omega)]
    split
    · rename_i e; subst e
      rw [getD_at _ _ _ (by simp; omega), List.getElem_map]
      have e : rd_T65 l (j : Int) = l[j] := getD_at l z65 j (by omega)
      rw [e]; rfl
    · exact h2 j (by omega)
  · rintro s ⟨h1, h2⟩
    exact Ok.step (fun k => by simp only [laws_toFoodS.l0]; rfl) (Ok.neg (by omega) (Ok.ret (eq_of_getD z62 (by simp [h1]) (fun i hi => h2 i (by omega)))))
theorem szFoodS_eq (l : List S65) (a : Int) (h0 : 0 ≤ a) (h1 : a ≤ 9223372036854775807) (hl : l.length ≤ maxLen) : laws_szFoodS.f l a = some (if (l.length : Int) ≤ a then a - l.length else -1) := by
  unfold laws_szFoodS.f
  have := len_small hl
  rw [wrap_id (n := a - (l.length : Int)) (by omega) (by omega)]
  by_cases h : (l.length : Int) ≤ a
  · rw [if_neg (by omega), if_pos h]
  · rw [if_pos (by omega), if_neg h]
end Go.Proofs.Ytglddjbcaknnaaa.Pure
/- The laws' comparison of lists of foods: a list is equal to itself. Condition: at most 2,000,000. -/
namespace Go.Proofs.Ytglddjbcaknnaaa.Pure
open Go.RowKit Go.Proofs.YtglddjbcaknnaaaW.PrintWords Go.Proofs.YtglddjbcaknnaaaW.PrintLast Go.Proofs.Ytglddjbcaknnaaa.Q
set_option linter.unusedVariables false
set_option linter.unusedSimpArgs false

theorem eqFoodS_ok (l : List S62) (hl : l.length ≤ 2000000) : Ok (fun k => laws_eqFoodS.f k l l) (· = true) := by
  unfold laws_eqFoodS.f
  refine Ok.pos rfl ?_
  refine Ok.range (fun (_ : Unit) i k => laws_eqFoodS.l0 k l l i) l.length (fun _ _ => True) _ ?_ ?_ () trivial
  · intro i _ hi _ ih
    have ew : wrap64 ((i : Int) + 1) = (i : Int) + 1 := wrap_id (by omega) (by omega)
    refine Ok.step (fun k => by simp only [laws_eqFoodS.l0]; rfl) (Ok.pos (by omega) (Ok.pos (by omega) (Ok.pos (by omega) ?_)))
    simp only [laws_eqFood.f, ew, if_true, Option.bind_some, bne_self_eq_false, Bool.false_eq_true, if_false]
    exact ih () trivial
  · intro _ _
    exact Ok.step (fun k => by simp only [laws_eqFoodS.l0]; rfl) (Ok.neg (by omega) (Ok.ret rfl))
end Go.Proofs.Ytglddjbcaknnaaa.Pure
/- The laws' marks in lists of foods. Condition: at most 2,000,000. -/
namespace Go.Proofs.Ytglddjbcaknnaaa.Pure
open Go.RowKit Go.Proofs.YtglddjbcaknnaaaW.PrintWords Go.Proofs.YtglddjbcaknnaaaW.PrintLast Go.Proofs.Ytglddjbcaknnaaa.Q
set_option linter.unusedVariables false
set_option linter.unusedSimpArgs false

theorem markFoodS_ok (l : List S62) (c0 : Int) (h0 : 0 ≤ c0) (h1 : c0 ≤ 1000000000000) (hl : l.length ≤ 2000000) : Ok (fun k => laws_markFoodS.f k l c0) (fun r => r.1 = c0 + 6 * l.length) := by
  unfold laws_markFoodS.f
  refine Ok.range (fun (s : List S62 × Int) i k => laws_markFoodS.l0 k s.1 s.2 i) l.length (fun i s => s.1.length = l.length ∧ s.2 = c0 + 6 * i) _ ?_ ?_ (l, c0) ⟨rfl, by simp⟩
  · rintro i ⟨xs, c⟩ hi ⟨h2, h3⟩ ih
    simp only at h2 h3
    have ew : wrap64 ((i : Int) + 1) = (i : Int) + 1 := wrap_id (by omega) (by omega)
    have e1 : wrap64 (c + 1) = c + 1 := wrap_id (by omega) (by omega)
    have e2 : wrap64 (c + 1 + 1) = c + 2 := by rw [wrap_id (n := c + 1 + 1) (by omega) (by omega)]; omega
    have e3 : wrap64 (c + 2 + 1) = c + 3 := by rw [wrap_id (n := c + 2 + 1) (by omega) (by omega)]; omega
    have e4 : wrap64 (c + 3 + 1) = c + 4 := by rw [wrap_id (n := c + 3 + 1) (by omega) (by omega)]; omega
    have e5 : wrap64 (c + 4 + 1) = c + 5 := by rw [wrap_id (n := c + 4 + 1) (by omega) (by omega)]; omega
    have e6 : wrap64 (c + 5 + 1) = c + 6 := by rw [wrap_id (n := c + 5 + 1) (by omega) (by omega)]; omega
    refine Ok.step (fun k => by simp only [laws_markFoodS.l0]; rfl) (Ok.pos (by omega) (Ok.pos (by omega) ?_))
    simp only [e1, e2, e3, e4, e5, e6, ew]
    refine Ok.val (Ok.val (Ok.val (Ok.val (Ok.val (ih (_, _) ⟨by simp [h2], by simp only; omega⟩)))))
  · rintro ⟨xs, c⟩ ⟨h2, h3⟩
    simp only at h2 h3
    refine Ok.step (fun k => by simp only [laws_markFoodS.l0]; rfl) (Ok.neg (by omega) (Ok.ret ?_))
    exact h3
end Go.Proofs.Ytglddjbcaknnaaa.Pure
/- The laws' swaps and the program's: copied field by field. Condition: at most 2,000,000. -/
namespace Go.Proofs.Ytglddjbcaknnaaa.Pure
open Go.RowKit Go.Proofs.YtglddjbcaknnaaaW.PrintWords Go.Proofs.YtglddjbcaknnaaaW.PrintLast Go.Proofs.Ytglddjbcaknnaaa.Q
set_option linter.unusedVariables false
set_option linter.unusedSimpArgs false

def cvSwap (x : S77) : S41 := ⟨x.f0, x.f1, x.f2, x.f3⟩
theorem toSwapS_ok (l : List S77) (hl : l.length ≤ 2000000) : Ok (fun k => laws_toSwapS.f k l) (· = l.map cvSwap) := by
  unfold laws_toSwapS.f
  refine Ok.pos (by omega) (Ok.pos (Nat.le_trans (m := 2000000) (by omega) (by decide)) ?_)
  refine Ok.range (fun (s : List S41) i k => laws_toSwapS.l0 k l s i) l.length (fun i s => s.length = l.length ∧ ∀ j, j < i → s.getD j z41 = (l.map cvSwap).getD j z41) _ ?_ ?_ _ ⟨by simp, fun j hj => absurd hj (by omega)⟩
  · rintro i s hi ⟨h1, h2⟩ ih
    have ew : wrap64 ((i : Int) + 1) = (i : Int) + 1 := wrap_id (by omega) (by omega)
    refine Ok.step (fun k => by simp only [laws_toSwapS.l0]; rfl) (Ok.pos (by omega) (Ok.pos (by omega) ?_))
    simp only [laws_toSwap.f, Option.bind_some, ew]
    refine Ok.pos (by omega) (ih _ ⟨by simp [h1], fun j hj => ?_⟩)
    simp only [Int.toNat_natCast]
    rw [getD_set _ _ _ _ _ (by omega)]
    split
    · rename_i e; subst e
      rw [getD_at _ _ _ (by simp; omega), List.getElem_map]
      have e : rd_T77 l (j : Int) = l[j] := getD_at l z77 j (by omega)
      rw [e]; rfl
    · exact h2 j (by omega)
  · rintro s ⟨h1, h2⟩
    exact Ok.step (fun k => by simp only [laws_toSwapS.l0]; rfl) (Ok.neg (by omega) (Ok.ret (eq_of_getD z41 (by simp [h1]) (fun i hi => h2 i (by omega)))))
theorem szSwapS_eq (l : List S77) (a : Int) (h0 : 0 ≤ a) (h1 : a ≤ 9223372036854775807) (hl : l.length ≤ maxLen) : laws_szSwapS.f l a = some (if (l.length : Int) ≤ a then a - l.length else -1) := by
  unfold laws_szSwapS.f
  have := len_small hl
  rw [wrap_id (n := a - (l.length : Int)) (by omega) (by omega)]
  by_cases h : (l.length : Int) ≤ a
  · rw [if_neg (by omega), if_pos h]
  · rw [if_pos (by omega), if_neg h]
end Go.Proofs.Ytglddjbcaknnaaa.Pure
/- The laws' comparison of lists of swaps: a list is equal to itself. Condition: at most 2,000,000. -/
namespace Go.Proofs.Ytglddjbcaknnaaa.Pure
open Go.RowKit Go.Proofs.YtglddjbcaknnaaaW.PrintWords Go.Proofs.YtglddjbcaknnaaaW.PrintLast Go.Proofs.Ytglddjbcaknnaaa.Q
set_option linter.unusedVariables false
set_option linter.unusedSimpArgs false

theorem eqSwapS_ok (l : List S41) (hl : l.length ≤ 2000000) : Ok (fun k => laws_eqSwapS.f k l l) (· = true) := by
  unfold laws_eqSwapS.f
  refine Ok.pos rfl ?_
  refine Ok.range (fun (_ : Unit) i k => laws_eqSwapS.l0 k l l i) l.length (fun _ _ => True) _ ?_ ?_ () trivial
  · intro i _ hi _ ih
    have ew : wrap64 ((i : Int) + 1) = (i : Int) + 1 := wrap_id (by omega) (by omega)
    refine Ok.step (fun k => by simp only [laws_eqSwapS.l0]; rfl) (Ok.pos (by omega) (Ok.pos (by omega) (Ok.pos (by omega) ?_)))
    simp only [laws_eqSwap.f, ew, if_true, Option.bind_some, bne_self_eq_false, Bool.false_eq_true, if_false]
    exact ih () trivial
  · intro _ _
    exact Ok.step (fun k => by simp only [laws_eqSwapS.l0]; rfl) (Ok.neg (by omega) (Ok.ret rfl))
end Go.Proofs.Ytglddjbcaknnaaa.Pure
/- The laws' marks in lists of swaps. Condition: at most 2,000,000. -/
namespace Go.Proofs.Ytglddjbcaknnaaa.Pure
open Go.RowKit Go.Proofs.YtglddjbcaknnaaaW.PrintWords Go.Proofs.YtglddjbcaknnaaaW.PrintLast Go.Proofs.Ytglddjbcaknnaaa.Q
set_option linter.unusedVariables false
set_option linter.unusedSimpArgs false

theorem markSwapS_ok (l : List S41) (c0 : Int) (h0 : 0 ≤ c0) (h1 : c0 ≤ 1000000000000) (hl : l.length ≤ 2000000) : Ok (fun k => laws_markSwapS.f k l c0) (fun r => r.1 = c0 + 4 * l.length) := by
  unfold laws_markSwapS.f
  refine Ok.range (fun (s : List S41 × Int) i k => laws_markSwapS.l0 k s.1 s.2 i) l.length (fun i s => s.1.length = l.length ∧ s.2 = c0 + 4 * i) _ ?_ ?_ (l, c0) ⟨rfl, by simp⟩
  · rintro i ⟨xs, c⟩ hi ⟨h2, h3⟩ ih
    simp only at h2 h3
    have ew : wrap64 ((i : Int) + 1) = (i : Int) + 1 := wrap_id (by omega) (by omega)
    have e1 : wrap64 (c + 1) = c + 1 := wrap_id (by omega) (by omega)
    have e2 : wrap64 (c + 1 + 1) = c + 2 := by rw [wrap_id (n := c + 1 + 1) (by omega) (by omega)]; omega
    have e3 : wrap64 (c + 2 + 1) = c + 3 := by rw [wrap_id (n := c + 2 + 1) (by omega) (by omega)]; omega
    have e4 : wrap64 (c + 3 + 1) = c + 4 := by rw [wrap_id (n := c + 3 + 1) (by omega) (by omega)]; omega
    refine Ok.step (fun k => by simp only [laws_markSwapS.l0]; rfl) (Ok.pos (by omega) (Ok.pos (by omega) ?_))
    simp only [e1, e2, e3, e4, ew]
    refine Ok.val (Ok.val (Ok.val (ih (_, _) ⟨by simp [h2], by simp only; omega⟩)))
  · rintro ⟨xs, c⟩ ⟨h2, h3⟩
    simp only at h2 h3
    refine Ok.step (fun k => by simp only [laws_markSwapS.l0]; rfl) (Ok.neg (by omega) (Ok.ret ?_))
    exact h3
end Go.Proofs.Ytglddjbcaknnaaa.Pure
/- Lists of whole numbers. Condition: at most 2,000,000 elements. -/
namespace Go.Proofs.Ytglddjbcaknnaaa.Pure
open Go.RowKit Go.Proofs.YtglddjbcaknnaaaW.PrintWords Go.Proofs.YtglddjbcaknnaaaW.PrintLast Go.Proofs.Ytglddjbcaknnaaa.Q
set_option linter.unusedVariables false
set_option linter.unusedSimpArgs false

theorem toIntS_ok (l : List Int) (hl : l.length ≤ 2000000) : Ok (fun k => laws_toIntS.f k l) (· = l) := by
  unfold laws_toIntS.f
  refine Ok.pos (by omega) (Ok.pos (by omega) ?_)
  refine Ok.range (fun (s : List Int) i k => laws_toIntS.l0 k l s i) l.length (fun i s => s.length = l.length ∧ ∀ j, j < i → s.getD j 0 = l.getD j 0) _ ?_ ?_ _ ⟨by simp, fun j hj => absurd hj (by omega)⟩
  · rintro i s hi ⟨h1, h2⟩ ih
    have ew : wrap64 ((i : Int) + 1) = (i : Int) + 1 := wrap_id (by omega) (by omega)
    refine Ok.step (fun k => by simp only [laws_toIntS.l0]; rfl) (Ok.pos (by omega) (Ok.pos (by omega) (Ok.pos (by omega) ?_)))
    rw [ew]
    refine ih _ ⟨by simp [h1], fun j hj => ?_⟩
    simp only [Int.toNat_natCast]
    rw [getD_set _ _ _ _ _ (by omega)]
    split
    · rename_i e; subst e; rfl
    · exact h2 j (by omega)
  · rintro s ⟨h1, h2⟩
    exact Ok.step (fun k => by simp only [laws_toIntS.l0]; rfl) (Ok.neg (by omega) (Ok.ret (eq_of_getD 0 h1 (fun i hi => h2 i (by omega)))))
end Go.Proofs.Ytglddjbcaknnaaa.Pure
/- Lists of whole numbers. Condition: at most 2,000,000 elements. -/
namespace Go.Proofs.Ytglddjbcaknnaaa.Pure
open Go.RowKit Go.Proofs.YtglddjbcaknnaaaW.PrintWords Go.Proofs.YtglddjbcaknnaaaW.PrintLast Go.Proofs.Ytglddjbcaknnaaa.Q
set_option linter.unusedVariables false
set_option linter.unusedSimpArgs false

theorem eqIntS_ok (a b : List Int) (hl : a.length ≤ 2000000) : Ok (fun k => laws_eqIntS.f k a b) (fun r => r = true ↔ a = b) := by
  unfold laws_eqIntS.f
  by_cases h : a.length = b.length
  · refine Ok.pos (by omega) ?_
    refine Ok.range (fun (_ : Unit) i k => laws_eqIntS.l0 k a b i) a.length (fun i _ => ∀ j, j < i → a.getD j 0 = b.getD j 0) _ ?_ ?_ () (fun j hj => absurd hj (by omega))
    · intro i _ hi hinv ih
      have ew : wrap64 ((i : Int) + 1) = (i : Int) + 1 := wrap_id (by omega) (by omega)
      refine Ok.step (fun k => by simp only [laws_eqIntS.l0]; rfl) (Ok.pos (by omega) (Ok.pos (by omega) (Ok.pos (by omega) ?_)))
      rw [ew, rd_nat, rd_nat]
      refine Ok.ite (fun h1 => ih () fun j hj => ?_) (fun h1 => Ok.ret ⟨fun h' => (by cases h'), fun h' => absurd (by rw [h']) h1⟩)
      rcases Nat.lt_succ_iff_lt_or_eq.1 hj with h2 | rfl
      · exact hinv j h2
      · exact h1
    · intro _ hinv
      exact Ok.step (fun k => by simp only [laws_eqIntS.l0]; rfl) (Ok.neg (by omega) (Ok.ret ⟨fun _ => eq_of_getD 0 h hinv, fun _ => rfl⟩))
  · exact Ok.neg (by omega) (Ok.ret ⟨fun h' => (by cases h'), fun h' => absurd (by rw [h']) h⟩)
end Go.Proofs.Ytglddjbcaknnaaa.Pure
/- Lists of whole numbers. Condition: at most 2,000,000 elements. -/
namespace Go.Proofs.Ytglddjbcaknnaaa.Pure
open Go.RowKit Go.Proofs.YtglddjbcaknnaaaW.PrintWords Go.Proofs.YtglddjbcaknnaaaW.PrintLast Go.Proofs.Ytglddjbcaknnaaa.Q
set_option linter.unusedVariables false
set_option linter.unusedSimpArgs false

theorem markIntS_ok (l : List Int) (hl : l.length ≤ 2000000) : Ok (fun k => laws_markIntS.f k l 1) (fun r => r.1 = (l.length : Int) + 1 ∧ r.2.length = l.length ∧ ∀ j, j < l.length → r.2.getD j 0 = (j : Int) + 1) := by
  unfold laws_markIntS.f
  refine Ok.range (fun (s : List Int × Int) i k => laws_markIntS.l0 k s.1 s.2 i) l.length (fun i s => s.1.length = l.length ∧ s.2 = (i : Int) + 1 ∧ ∀ j, j < i → s.1.getD j 0 = (j : Int) + 1) _ ?_ ?_ (l, 1) ⟨rfl, rfl, fun j hj => absurd hj (by omega)⟩
  · rintro i ⟨xs, c⟩ hi ⟨h1, h2, h3⟩ ih
    simp only at h1 h2 h3
    subst h2
    have ew : wrap64 ((i : Int) + 1) = (i : Int) + 1 := wrap_id (by omega) (by omega)
    have ew2 : wrap64 ((i : Int) + 1 + 1) = ((i : Int) + 1) + 1 := wrap_id (by omega) (by omega)
    refine Ok.step (fun k => by simp only [laws_markIntS.l0]; rfl) (Ok.pos (by omega) (Ok.pos (by omega) ?_))
    rw [ew2, ew]
    refine ih (_, _) ⟨by simp [h1], by simp, fun j hj => ?_⟩
    simp only [Int.toNat_natCast]
    rw [getD_set _ _ _ _ _ (by omega)]
    split
    · rename_i e; subst e; rfl
    · exact h3 j (by omega)
  · rintro ⟨xs, c⟩ ⟨h1, h2, h3⟩
    simp only at h1 h2 h3
    exact Ok.step (fun k => by simp only [laws_markIntS.l0]; rfl) (Ok.neg (by omega) (Ok.ret ⟨h2, h1, h3⟩))
theorem heldIntS_ok (l : List Int) (hl : l.length ≤ 2000000) (h : ∀ j, j < l.length → l.getD j 0 = (j : Int) + 1) : Ok (fun k => laws_heldIntS.f k l 1) (· = (l.length : Int) + 1) := by
  unfold laws_heldIntS.f
  refine Ok.range (fun (c : Int) i k => laws_heldIntS.l0 k l c i) l.length (fun i c => c = (i : Int) + 1) _ ?_ ?_ 1 rfl
  · rintro i _ hi rfl ih
    have ew : wrap64 ((i : Int) + 1) = (i : Int) + 1 := wrap_id (by omega) (by omega)
    have ew2 : wrap64 ((i : Int) + 1 + 1) = ((i : Int) + 1) + 1 := wrap_id (by omega) (by omega)
    refine Ok.step (fun k => by simp only [laws_heldIntS.l0]; rfl) (Ok.pos (by omega) (Ok.pos (by omega) (Ok.pos (by rw [rd_nat, h i hi]) ?_)))
    rw [ew2, ew]
    exact ih _ (by simp)
  · rintro _ rfl
    exact Ok.step (fun k => by simp only [laws_heldIntS.l0]; rfl) (Ok.neg (by omega) (Ok.ret rfl))
end Go.Proofs.Ytglddjbcaknnaaa.Pure
/- The laws' marks in lists of whole numbers, from any number on. Condition: at most 2,000,000 elements. -/
namespace Go.Proofs.Ytglddjbcaknnaaa.Pure
open Go.RowKit Go.Proofs.YtglddjbcaknnaaaW.PrintWords Go.Proofs.YtglddjbcaknnaaaW.PrintLast Go.Proofs.Ytglddjbcaknnaaa.Q
set_option linter.unusedVariables false
set_option linter.unusedSimpArgs false
theorem markIntSc_ok (l : List Int) (c0 : Int) (h0 : 0 ≤ c0) (h1 : c0 ≤ 1000000000000) (hl : l.length ≤ 2000000) : Ok (fun k => laws_markIntS.f k l c0) (fun r => r.1 = c0 + l.length) := by
  unfold laws_markIntS.f
  refine Ok.range (fun (s : List Int × Int) i k => laws_markIntS.l0 k s.1 s.2 i) l.length (fun i s => s.1.length = l.length ∧ s.2 = c0 + i) _ ?_ ?_ (l, c0) ⟨rfl, by simp⟩
  · rintro i ⟨xs, c⟩ hi ⟨h2, h3⟩ ih
    simp only at h2 h3
    subst h3
    refine Ok.step (fun k => by simp only [laws_markIntS.l0]; rfl) (Ok.pos (by omega) (Ok.pos (by omega) ?_))
    rw [wrap_id (n := c0 + (i : Int) + 1) (by omega) (by omega), wrap_id (n := (i : Int) + 1) (by omega) (by omega)]
    exact ih (_, _) ⟨by simp [h2], by simp only; omega⟩
  · rintro ⟨xs, c⟩ ⟨h2, h3⟩
    simp only at h2 h3
    exact Ok.step (fun k => by simp only [laws_markIntS.l0]; rfl) (Ok.neg (by omega) (Ok.ret h3))
end Go.Proofs.Ytglddjbcaknnaaa.Pure
/- The program's SwapNeeds returns what the reference's returns, for all arguments. No conditions. -/
namespace Go.Proofs.Ytglddjbcaknnaaa.Pure
open Go.RowKit Go.Proofs.YtglddjbcaknnaaaW.PrintWords Go.Proofs.YtglddjbcaknnaaaW.PrintLast Go.Proofs.Ytglddjbcaknnaaa.Q
set_option linter.unusedVariables false
set_option linter.unusedSimpArgs false
theorem FnExactSwapNeeds (l : List S77) (hm : l.length ≤ maxLen) (l' : List S65) (hm' : l'.length ≤ maxLen) (p : List Int) (hmp : p.length ≤ maxLen) (q : List Int) (hmq : q.length ≤ maxLen) : ∃ k, laws_FnExactSwapNeeds.f k l l' p q = some true := by
  apply Ok.rounds
  unfold laws_FnExactSwapNeeds.f
  refine Ok.ite (fun _ => Ok.ret rfl) fun hp0 => Ok.ite (fun _ => Ok.ret rfl) fun hq0 => ?_
  have hp : p.length ≤ 2000000 := by omega
  have hq : q.length ≤ 2000000 := by omega
  rw [szSwapS_eq l _ (by omega) (by omega) hm]
  refine Ok.val (Ok.ite (fun _ => Ok.ret rfl) fun h => ?_)
  have hl : l.length ≤ 1048576 ∧ (if (l.length : Int) ≤ 1048576 then (1048576 : Int) - l.length else -1) = 1048576 - l.length := by
    by_cases h0 : (l.length : Int) ≤ 1048576
    · exact ⟨by omega, if_pos h0⟩
    · rw [if_neg h0] at h; omega
  rw [hl.2]
  rw [szFoodS_eq l' _ (by omega) (by omega) hm']
  refine Ok.val (Ok.ite (fun _ => Ok.ret rfl) fun h' => ?_)
  have hc : l'.length ≤ 2000000 := by
    split at h' <;> omega
  have hl' : (l.map cvSwap).length ≤ 2000000 := by simpa using Nat.le_trans hl.1 (by omega)
  have hc' : (l'.map cvFood).length ≤ 2000000 := by simpa using hc
  have hg : l.length ≤ 2000000 := Nat.le_trans hl.1 (by omega)
  refine Ok.bind (toSwapS_ok l hg) ?_
  rintro _ rfl
  refine Ok.bind (toFoodS_ok l' hc) ?_
  rintro _ rfl
  refine Ok.bind (toIntS_ok p hp) fun p1 e1 => Ok.bind (toIntS_ok q hq) fun q1 e2 => ?_
  rw [e1, e2]
  refine Ok.bind (sSwap_ok _ _ p q hl' hc' hp hq) ?_
  rintro ⟨r1, b1⟩ h1
  refine Ok.bind (toSwapS_ok l hg) ?_
  rintro _ rfl
  refine Ok.bind (toFoodS_ok l' hc) ?_
  rintro _ rfl
  refine Ok.bind (toIntS_ok p hp) fun p2 e3 => Ok.bind (toIntS_ok q hq) fun q2 e4 => ?_
  rw [e3, e4]
  have two : ∀ r, SwRes (l.map cvSwap) (l'.map cvFood) p q r → r = (r1, b1) := fun r h => h.eq h1
  have hr : r1.length ≤ 2000000 := Nat.le_trans h1.len hc'
  refine Ok.bind (iSwap_ok _ _ p q hc') fun r2 h2 => ?_
  rw [two r2 h2]
  simp only
  refine Ok.bind (eqIntS_ok r1 r1 hr) fun b hb => Ok.pos (hb.2 rfl) ?_
  rw [show (b1 != b1) = false by simp]
  refine Ok.step (fun k => by simp only [laws_FnExactSwapNeeds.j0]; rfl) (Ok.neg (by simp) (Ok.bind (toSwapS_ok l hg) ?_))
  rintro _ rfl
  refine Ok.bind (eqSwapS_ok _ hl') ?_
  rintro _ rfl
  refine Ok.pos (by trivial) (Ok.bind (toFoodS_ok l' hc) ?_)
  rintro _ rfl
  refine Ok.bind (eqFoodS_ok _ hc') ?_
  rintro _ rfl
  refine Ok.pos (by trivial) (Ok.bind (toIntS_ok p hp) fun p3 e5 => ?_)
  rw [e5]
  refine Ok.bind (eqIntS_ok p p hp) fun b hb => Ok.pos (hb.2 rfl) (Ok.bind (toIntS_ok q hq) fun q3 e6 => ?_)
  rw [e6]
  refine Ok.bind (eqIntS_ok q q hq) fun b hb => Ok.pos (hb.2 rfl) (Ok.bind (markSwapS_ok _ 1 (by omega) (by omega) hl') fun m hmk => Ok.bind (markFoodS_ok _ m.1 (by omega) (by omega) hc') fun m2 hmk2 => Ok.bind (markIntSc_ok p m2.1 (by omega) (by omega) hp) fun m3 hmk3 => Ok.bind (markIntSc_ok q m3.1 (by omega) (by omega) hq) fun m4 hmk4 => Ok.neg (by omega) (Ok.bind (eqIntS_ok r1 r1 hr) fun b hb => Ok.pos (hb.2 rfl) ?_))
  rw [show (b1 != b1) = false by simp]
  refine Ok.step (fun k => by simp only [laws_FnExactSwapNeeds.j1]; rfl) (Ok.neg (by simp) (Ok.bind (markIntS_ok r1 hr) ?_))
  rintro ⟨c, ys⟩ ⟨f1, f2, f3⟩
  simp only at f1 f2 f3 ⊢
  have held := heldIntS_ok ys (by omega) (by rw [f2]; exact f3)
  rw [f2, ← f1] at held
  refine Ok.bind held ?_
  rintro _ rfl
  refine Ok.neg (by omega) (Ok.pos rfl (Ok.bind (toSwapS_ok l hg) ?_))
  rintro _ rfl
  refine Ok.bind (toFoodS_ok l' hc) ?_
  rintro _ rfl
  refine Ok.bind (toIntS_ok p hp) fun p4 e7 => Ok.bind (toIntS_ok q hq) fun q4 e8 => ?_
  rw [e7, e8]
  refine Ok.bind (iSwap_ok _ _ p q hc') fun r3 h3 => ?_
  rw [two r3 h3]
  simp only
  refine Ok.bind (eqIntS_ok r1 r1 hr) fun b hb => Ok.pos (hb.2 rfl) ?_
  rw [show (b1 != b1) = false by simp]
  refine Ok.step (fun k => by simp only [laws_FnExactSwapNeeds.j2]; rfl) (Ok.neg (by simp) (Ok.bind held ?_))
  rintro _ rfl
  exact Ok.neg (by omega) (Ok.pos rfl (Ok.ret rfl))
end Go.Proofs.Ytglddjbcaknnaaa.Pure
