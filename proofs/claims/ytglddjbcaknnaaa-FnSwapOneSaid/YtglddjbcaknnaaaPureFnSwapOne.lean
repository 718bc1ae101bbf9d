/- The first rule counts: the law comes to true for every input. No conditions. -/
import Derived.Test.YtglddjbcaknnaaaWMore
import Derived.Test.YtglddjbcaknnaaaQx2
import Derived.Test.YtglddjbcaknnaaaQx3
import Derived.Test.YtglddjbcaknnaaaQx14
import Derived.Test.YtglddjbcaknnaaaQx4
import Derived.Test.YtglddjbcaknnaaaQx26
import Derived.Test.YtglddjbcaknnaaaQx27
import Derived.Test.YtglddjbcaknnaaaQx19
import Derived.Test.YtglddjbcaknnaaaQx20
import Derived.Test.YtglddjbcaknnaaaQx9
import Derived.Test.YtglddjbcaknnaaaQx12
import Derived.Test.YtglddjbcaknnaaaQx10
import Derived.Test.YtglddjbcaknnaaaQx25
import Derived.Test.YtglddjbcaknnaaaQx21
import Derived.Test.YtglddjbcaknnaaaQx30
/- Plain logic for printed functions: from some number of rounds on a function answers, and its answer fits. No conditions. -/
namespace Go.Proofs.Ytglddjbcaknnaaa.Pure
open Go.RowKit Go.Proofs.YtglddjbcaknnaaaW.PrintWords Go.Proofs.YtglddjbcaknnaaaW.PrintLast

/-- g answers from some number of rounds on, and the answer is as Q says. -/
def Ok {α : Type} (g : Nat → Option α) (Q : α → Prop) : Prop := ∃ r, Ev g r ∧ Q r
theorem Ok.ret {α : Type} {r : α} {Q : α → Prop} (h : Q r) : Ok (fun _ => some r) Q := ⟨r, Ev.now r, h⟩
theorem Ok.of_eq {α : Type} {o : Option α} {r : α} {Q : α → Prop} (e : o = some r) (h : Q r) : Ok (fun _ => o) Q := by subst e; exact Ok.ret h
theorem Ok.bind {α β : Type} {g : Nat → Option α} {f : Nat → α → Option β} {P : α → Prop} {Q : β → Prop} (h : Ok g P) (k : ∀ a, P a → Ok (fun n => f n a) Q) : Ok (fun n => (g n).bind (f n)) Q := by
  obtain ⟨a, ha, hp⟩ := h
  obtain ⟨r, hr, hq⟩ := k a hp
  exact ⟨r, Ev.bind ha hr, hq⟩
theorem Ok.val {α β : Type} {a : α} {f : Nat → α → Option β} {Q : β → Prop} (h : Ok (fun n => f n a) Q) : Ok (fun n => (some a).bind (f n)) Q := h
theorem Ok.pos {α : Type} {c : Prop} [Decidable c] {t e : Nat → Option α} {Q : α → Prop} (hc : c) (h : Ok t Q) : Ok (fun n => if c then t n else e n) Q := by simpa only [if_pos hc] using h
theorem Ok.neg {α : Type} {c : Prop} [Decidable c] {t e : Nat → Option α} {Q : α → Prop} (hc : ¬ c) (h : Ok e Q) : Ok (fun n => if c then t n else e n) Q := by simpa only [if_neg hc] using h
theorem Ok.ite {α : Type} {c : Prop} [Decidable c] {t e : Nat → Option α} {Q : α → Prop} (h : c → Ok t Q) (k : ¬ c → Ok e Q) : Ok (fun n => if c then t n else e n) Q := by
  by_cases hc : c
  · exact Ok.pos hc (h hc)
  · exact Ok.neg hc (k hc)
theorem Ok.step {α : Type} {g f : Nat → Option α} {Q : α → Prop} (h : ∀ k, g (k + 1) = f k) (k : Ok f Q) : Ok g Q := by
  obtain ⟨r, hr, hq⟩ := k
  exact ⟨r, Ev.step h hr, hq⟩
theorem Ok.congr {α : Type} {g f : Nat → Option α} {Q : α → Prop} (h : ∀ k, g k = f k) (k : Ok f Q) : Ok g Q := by
  obtain ⟨r, hr, hq⟩ := k
  exact ⟨r, Ev.congr h hr, hq⟩
theorem Ok.mono {α : Type} {g : Nat → Option α} {P Q : α → Prop} (h : Ok g P) (k : ∀ a, P a → Q a) : Ok g Q := by
  obtain ⟨r, hr, hp⟩ := h
  exact ⟨r, hr, k r hp⟩
theorem Ok.and {α : Type} {g : Nat → Option α} {P Q : α → Prop} (h : Ok g P) (k : Ok g Q) : Ok g (fun a => P a ∧ Q a) := by
  obtain ⟨r, ⟨K, hr⟩, hp⟩ := h
  obtain ⟨r', ⟨K', hr'⟩, hq⟩ := k
  have h1 := hr (max K K') (by omega)
  have h2 := hr' (max K K') (by omega)
  obtain rfl : r = r' := by rw [h1] at h2; injection h2
  exact ⟨r, ⟨K, hr⟩, hp, hq⟩
theorem Ok.rounds {α : Type} {g : Nat → Option α} {r : α} (h : Ok g (· = r)) : ∃ k, g k = some r := by
  obtain ⟨_, hr, rfl⟩ := h
  exact hr.rounds
theorem Ok.eq {α : Type} {g : Nat → Option α} {r : α} {Q : α → Prop} (h : Ok g (· = r)) (q : Q r) : Ok g Q := h.mono fun _ e => by subst e; exact q
theorem wrap_id {n : Int} (h0 : -9223372036854775808 ≤ n) (h1 : n ≤ 9223372036854775807) : wrap64 n = n := by unfold wrap64; omega
theorem wf64 {n : Int} (h : (Lit.int .i64 n).wf = true) : -9223372036854775808 ≤ n ∧ n ≤ 9223372036854775807 := by
  simp [Lit.wf, IntKind.min, IntKind.max, IntKind.signed, IntKind.bits] at h
  omega
theorem wfu8 {n : Int} (h : (Lit.int .u8 n).wf = true) : 0 ≤ n ∧ n ≤ 255 := by
  simp [Lit.wf, IntKind.min, IntKind.max, IntKind.signed, IntKind.bits] at h
  omega
/-- A loop that counts an index up to n, with what else it carries in s. -/
theorem Ok.range {σ ρ : Type} (L : σ → Int → Nat → Option ρ) (n : Nat) (Inv : Nat → σ → Prop) (Q : ρ → Prop)
    (step : ∀ (i : Nat) (s : σ), i < n → Inv i s → (∀ s', Inv (i + 1) s' → Ok (L s' ((i : Int) + 1)) Q) → Ok (L s (i : Int)) Q)
    (last : ∀ s, Inv n s → Ok (L s (n : Int)) Q) : ∀ s, Inv 0 s → Ok (L s 0) Q := by
  have key : ∀ d i, i + d = n → ∀ s, Inv i s → Ok (L s (i : Int)) Q := by
    intro d
    induction d with
    | zero => intro i hi s hs; obtain rfl : i = n := (by omega); exact last s hs
    | succ d ih =>
      intro i hi s hs
      refine step i s (by omega) hs fun s' hs' => ?_
      have := ih (i + 1) (by omega) s' hs'
      rwa [show ((i + 1 : Nat) : Int) = (i : Int) + 1 by omega] at this
  exact fun s hs => key n 0 (by omega) s hs
/-- The same for a loop that counts down from n - 1. -/
theorem Ok.down {σ ρ : Type} (L : σ → Int → Nat → Option ρ) (n : Nat) (Inv : Nat → σ → Prop) (Q : ρ → Prop)
    (step : ∀ (i : Nat) (s : σ), i < n → Inv (i + 1) s → (∀ s', Inv i s' → Ok (L s' ((i : Int) - 1)) Q) → Ok (L s (i : Int)) Q)
    (last : ∀ s, Inv 0 s → Ok (L s (-1)) Q) : ∀ s, Inv n s → Ok (L s ((n : Int) - 1)) Q := by
  have key : ∀ i, i ≤ n → ∀ s, Inv i s → Ok (L s ((i : Int) - 1)) Q := by
    intro i
    induction i with
    | zero => intro _ s hs; exact last s hs
    | succ i ih =>
      intro hi s hs
      have := step i s (by omega) hs fun s' hs' => ih (by omega) s' hs'
      rwa [show ((i + 1 : Nat) : Int) - 1 = (i : Int) by omega]
  exact fun s hs => key n (Nat.le_refl _) s hs
theorem bool_of_iff {a b : Bool} {P : Prop} (h : a = true ↔ P) (k : b = true ↔ P) : a = b := by
  cases a <;> cases b <;> simp_all
theorem take_next {α : Type} {l : List α} {i : Nat} (d : α) (h : i < l.length) : l.take (i + 1) = l.take i ++ [l.getD i d] := by
  rw [List.take_succ_eq_append_getElem h, List.getD_eq_getElem?_getD, List.getElem?_eq_getElem h, Option.getD_some]
theorem getD_at {α : Type} (l : List α) (d : α) (i : Nat) (h : i < l.length) : l.getD i d = l[i] := by
  rw [List.getD_eq_getElem?_getD, List.getElem?_eq_getElem h, Option.getD_some]
theorem len_small {α : Type} {l : List α} (h : l.length ≤ maxLen) : (l.length : Int) ≤ 9223372036854775807 := by unfold maxLen at h; omega
end Go.Proofs.Ytglddjbcaknnaaa.Pure
/- Ranges, and the bits of sets. No conditions. -/
namespace Go.Proofs.Ytglddjbcaknnaaa.Pure
open Go.RowKit Go.Proofs.YtglddjbcaknnaaaW.PrintWords Go.Proofs.YtglddjbcaknnaaaW.PrintLast
set_option linter.unusedVariables false
set_option linter.unusedSimpArgs false

def inr (a lo hi : Int) : Bool := decide (lo ≤ a ∧ a ≤ hi)
theorem inr_iff (a lo hi : Int) : inr a lo hi = true ↔ lo ≤ a ∧ a ≤ hi := by simp [inr]
theorem bits_nat64 (a b : Nat) (ha : a < 256) (hb : b < 256) : Go.bits .and .i64 (a : Int) (b : Int) = ((a &&& b : Nat) : Int) ∧ Go.bits .or .i64 (a : Int) (b : Int) = ((a ||| b : Nat) : Int) :=
  Go.bits_nat .i64 8 (by decide) (fun n h0 h1 => by rw [IntKind.wrap_i64]; omega) a b ha hb
theorem set_nat {a : Int} (h : 0 ≤ a ∧ a ≤ 255) : ∃ n : Nat, a = (n : Int) ∧ n < 256 := ⟨a.toNat, by omega, by omega⟩
end Go.Proofs.Ytglddjbcaknnaaa.Pure
/- The reference's ranges and sets. No conditions. -/
namespace Go.Proofs.Ytglddjbcaknnaaa.Pure
open Go.RowKit Go.Proofs.YtglddjbcaknnaaaW.PrintWords Go.Proofs.YtglddjbcaknnaaaW.PrintLast Go.Proofs.Ytglddjbcaknnaaa.Q
set_option linter.unusedVariables false
set_option linter.unusedSimpArgs false

theorem l6In_eq (a lo hi : Int) : spec_l6In.f a lo hi = some (inr a lo hi) := by
  unfold spec_l6In.f inr
  by_cases h : a ≥ lo
  · rw [if_pos h]; simp [h]
  · rw [if_neg h]; simp; omega
theorem l3Set_eq (a : Int) : spec_l3Set.f a = some (inr a 0 255) := by simp only [spec_l3Set.f, l6In_eq, Option.bind_some]
end Go.Proofs.Ytglddjbcaknnaaa.Pure
/- The program's ranges, sets and kinds. No conditions. -/
namespace Go.Proofs.Ytglddjbcaknnaaa.Pure
open Go.RowKit Go.Proofs.YtglddjbcaknnaaaW.PrintWords Go.Proofs.YtglddjbcaknnaaaW.PrintLast Go.Proofs.Ytglddjbcaknnaaa.Q
set_option linter.unusedVariables false
set_option linter.unusedSimpArgs false

theorem within_eq (a lo hi : Int) : impl_within.f a lo hi = some (inr a lo hi) := by
  unfold impl_within.f inr
  by_cases h : a ≥ lo
  · rw [if_pos h]; simp [h]
  · rw [if_neg h]; simp; omega
theorem isSet_eq (a : Int) : impl_isSet.f a = some (inr a 0 255) := by simp only [impl_isSet.f, within_eq, Option.bind_some]
theorem isKind_eq (a : Int) : impl_isKind.f a = some (inr a 1 5) := by simp only [impl_isKind.f, within_eq, Option.bind_some]
end Go.Proofs.Ytglddjbcaknnaaa.Pure
/- When foods are valid, in the program and in the reference. Condition: at most 2,000,000. -/
namespace Go.Proofs.Ytglddjbcaknnaaa.Pure
open Go.RowKit Go.Proofs.YtglddjbcaknnaaaW.PrintWords Go.Proofs.YtglddjbcaknnaaaW.PrintLast Go.Proofs.Ytglddjbcaknnaaa.Q
set_option linter.unusedVariables false
set_option linter.unusedSimpArgs false
abbrev Fd := S62
def fAt (l : List Fd) (i : Nat) : Fd := l.getD i z62
theorem fAt_rd (l : List Fd) (i : Nat) : rd_T62 l (i : Int) = fAt l i := rfl
theorem fAt_prev (l : List Fd) (i : Nat) (h : 0 < i) : rd_T62 l ((i : Int) - 1) = fAt l (i - 1) := by
  unfold rd_T62 fAt
  rw [show ((i : Int) - 1).toNat = i - 1 by omega]
def fB (x : Fd) : Bool := inr x.f0 1 20 && inr x.f1 1 3 && inr x.f2 0 255 && inr x.f3 1 5 && inr x.f4 0 999 && inr x.f5 0 999
theorem fB_iff (x : Fd) : fB x = true ↔ (1 ≤ x.f0 ∧ x.f0 ≤ 20) ∧ (1 ≤ x.f1 ∧ x.f1 ≤ 3) ∧ (0 ≤ x.f2 ∧ x.f2 ≤ 255) ∧ (1 ≤ x.f3 ∧ x.f3 ≤ 5) ∧ (0 ≤ x.f4 ∧ x.f4 ≤ 999) ∧ 0 ≤ x.f5 ∧ x.f5 ≤ 999 := by simp [fB, inr_iff, and_assoc]
/-- element i is as it must be -/
def fGood (l : List Fd) (i : Nat) : Prop := fB (fAt l i) = true ∧ (0 < i → (fAt l (i - 1)).f0 < (fAt l i).f0)
/-- foods are valid -/
def FV (l : List Fd) : Prop := l.length ≤ 6 ∧ ∀ i, i < l.length → fGood l i
theorem isId_eq (a : Int) : impl_isId.f a = some (inr a 1 20) := by simp only [impl_isId.f, within_eq, Option.bind_some]
theorem sFoods_ok (l : List Fd) (hl : l.length ≤ 2000000) : Ok (fun k => spec_FoodsValid.f k l) (fun r => r = true ↔ FV l) := by
  unfold spec_FoodsValid.f
  refine Ok.range (fun (_ : Unit) i k => spec_FoodsValid.l0 k l i) l.length (fun i _ => ∀ j, j < i → fGood l j) _ ?_ ?_ () (fun j hj => absurd hj (by omega))
  · intro i _ hi hinv ih
    refine Ok.step (fun k => by simp only [spec_FoodsValid.l0]; rfl) (Ok.pos (by omega) (Ok.pos (by omega) ?_))
    simp only [l6In_eq, l3Set_eq, Option.bind_some, fAt_rd]
    have bad : ¬ fGood l i → Ok (fun k => spec_FoodsValid.j1 k l (i : Int) true (fAt l i).f0 (fAt l i).f1 (fAt l i).f2 (fAt l i).f3 (fAt l i).f4 (fAt l i).f5) (fun r : Bool => r = true ↔ FV l) := fun h => Ok.step (fun k => by simp only [spec_FoodsValid.j1]; rfl) (Ok.pos (by trivial) (Ok.ret ⟨fun h' => (by cases h'), fun h' => absurd (h'.2 i hi) h⟩))
    have good : fGood l i → Ok (fun k => spec_FoodsValid.l0 k l ((i : Int) + 1)) (fun r : Bool => r = true ↔ FV l) := fun h => ih () (fun j hj => by
      rcases Nat.lt_succ_iff_lt_or_eq.1 hj with h1 | rfl
      · exact hinv j h1
      · exact h)
    have fb : inr (fAt l i).f0 1 20 = true → inr (fAt l i).f1 1 3 = true → inr (fAt l i).f2 0 255 = true → inr (fAt l i).f3 1 5 = true → inr (fAt l i).f4 0 999 = true → inr (fAt l i).f5 0 999 = true → fB (fAt l i) = true := fun h1 h2 h3 h4 h5 h6 => by simp [fB, h1, h2, h3, h4, h5, h6]
    refine Ok.ite (fun h1 => Ok.ite (fun h2 => Ok.ite (fun h3 => Ok.ite (fun h4 => Ok.ite (fun h5 => ?_) (fun h => bad fun g => h (by have := (fB_iff _).1 g.1; exact (inr_iff _ _ _).2 (by omega)))) (fun h => bad fun g => h (by have := (fB_iff _).1 g.1; exact (inr_iff _ _ _).2 (by omega)))) (fun h => bad fun g => h (by have := (fB_iff _).1 g.1; exact (inr_iff _ _ _).2 (by omega)))) (fun h => bad fun g => h (by have := (fB_iff _).1 g.1; exact (inr_iff _ _ _).2 (by omega)))) (fun h => bad fun g => h (by have := (fB_iff _).1 g.1; exact (inr_iff _ _ _).2 (by omega)))
    cases h6 : inr (fAt l i).f5 0 999 with
    | false => exact bad fun g => by have := (fB_iff _).1 g.1; rw [(inr_iff _ _ _).2 this.2.2.2.2.2] at h6; cases h6
    | true =>
      refine Ok.step (fun k => by simp only [spec_FoodsValid.j1]; rfl) (Ok.neg (by simp) ?_)
      rw [wrap_id (n := (i : Int) + 1) (by omega) (by omega), wrap_id (n := (i : Int) - 1) (by omega) (by omega)]
      refine Ok.ite (fun h7 => Ok.pos (by omega) (Ok.pos (by omega) ?_)) (fun h7 => good ⟨fb h1 h2 h3 h4 h5 h6, fun h => absurd h (by omega)⟩)
      rw [fAt_prev l i (by omega)]
      exact Ok.ite (fun h8 => Ok.ret ⟨fun h' => (by cases h'), fun h' => by have := (h'.2 i hi).2 (by omega); omega⟩) (fun h8 => good ⟨fb h1 h2 h3 h4 h5 h6, fun _ => by omega⟩)
  · intro _ hinv
    refine Ok.step (fun k => by simp only [spec_FoodsValid.l0]; rfl) (Ok.neg (by omega) (Ok.ret ?_))
    rw [decide_eq_true_iff]
    exact ⟨fun h => ⟨by omega, hinv⟩, fun h => by have := h.1; omega⟩
theorem iFoods_ok (l : List Fd) (hl : l.length ≤ 2000000) : Ok (fun k => impl_FoodsValid.f k l) (fun r => r = true ↔ FV l) := by
  unfold impl_FoodsValid.f
  refine Ok.range (fun (_ : Unit) i k => impl_FoodsValid.l0 k l l (l.length : Int) i) l.length (fun i _ => ∀ j, j < i → fGood l j) _ ?_ ?_ () (fun j hj => absurd hj (by omega))
  · intro i _ hi hinv ih
    refine Ok.step (fun k => by simp only [impl_FoodsValid.l0]; rfl) (Ok.pos (by omega) (Ok.pos (by omega) (Ok.pos (by omega) ?_)))
    have ew : wrap64 ((i : Int) + 1) = (i : Int) + 1 := wrap_id (by omega) (by omega)
    have ew' : wrap64 ((i : Int) - 1) = (i : Int) - 1 := wrap_id (by omega) (by omega)
    simp only [isId_eq, within_eq, isSet_eq, isKind_eq, Option.bind_some, ew, ew', fAt_rd]
    have bad : ¬ fGood l i → Ok (fun _ => some false) (fun r : Bool => r = true ↔ FV l) := fun h => Ok.ret ⟨fun h' => (by cases h'), fun h' => absurd (h'.2 i hi) h⟩
    have good : fGood l i → Ok (fun k => impl_FoodsValid.l0 k l l (l.length : Int) ((i : Int) + 1)) (fun r : Bool => r = true ↔ FV l) := fun h => ih () (fun j hj => by
      rcases Nat.lt_succ_iff_lt_or_eq.1 hj with h1 | rfl
      · exact hinv j h1
      · exact h)
    have fb : inr (fAt l i).f0 1 20 = true → inr (fAt l i).f1 1 3 = true → inr (fAt l i).f2 0 255 = true → inr (fAt l i).f3 1 5 = true → inr (fAt l i).f4 0 999 = true → inr (fAt l i).f5 0 999 = true → fB (fAt l i) = true := fun h1 h2 h3 h4 h5 h6 => by simp [fB, h1, h2, h3, h4, h5, h6]
    refine Ok.ite (fun h1 => Ok.ite (fun h2 => Ok.ite (fun h3 => Ok.ite (fun h4 => Ok.ite (fun h5 => Ok.ite (fun h6 => Ok.ite (fun h7 => ?_) (fun h7 => good ⟨fb h1 h2 h3 h4 h5 h6, fun h => absurd h (by omega)⟩)) (fun h => bad fun g => h (by have := (fB_iff _).1 g.1; exact (inr_iff _ _ _).2 (by omega)))) (fun h => bad fun g => h (by have := (fB_iff _).1 g.1; exact (inr_iff _ _ _).2 (by omega)))) (fun h => bad fun g => h (by have := (fB_iff _).1 g.1; exact (inr_iff _ _ _).2 (by omega)))) (fun h => bad fun g => h (by have := (fB_iff _).1 g.1; exact (inr_iff _ _ _).2 (by omega)))) (fun h => bad fun g => h (by have := (fB_iff _).1 g.1; exact (inr_iff _ _ _).2 (by omega)))) (fun h => bad fun g => h (by have := (fB_iff _).1 g.1; exact (inr_iff _ _ _).2 (by omega)))
    refine Ok.pos (by omega) (Ok.pos (by omega) ?_)
    simp only [fAt_prev l i (by omega)]
    exact Ok.ite (fun h8 => bad fun h => by have := h.2 (by omega); omega) (fun h8 => good ⟨fb h1 h2 h3 h4 h5 h6, fun _ => by omega⟩)
  · intro _ hinv
    refine Ok.step (fun k => by simp only [impl_FoodsValid.l0]; rfl) (Ok.neg (by omega) (Ok.ret ?_))
    rw [decide_eq_true_iff]
    exact ⟨fun h => ⟨by omega, hinv⟩, fun h => by have := h.1; omega⟩
end Go.Proofs.Ytglddjbcaknnaaa.Pure
/- Lists, read and written element by element. No conditions. -/
namespace Go.Proofs.Ytglddjbcaknnaaa.Pure
open Go.RowKit Go.Proofs.YtglddjbcaknnaaaW.PrintWords Go.Proofs.YtglddjbcaknnaaaW.PrintLast
set_option linter.unusedVariables false
set_option linter.unusedSimpArgs false

theorem rd_nat (l : List Int) (i : Nat) : rd l (i : Int) = l.getD i 0 := rfl
theorem eq_of_getD {α : Type} {a b : List α} (d : α) (h : a.length = b.length) (k : ∀ i, i < a.length → a.getD i d = b.getD i d) : a = b := by
  refine List.ext_getElem h fun i h1 h2 => ?_
  have := k i h1
  rwa [getD_at _ _ _ h1, getD_at _ _ _ h2] at this
theorem getD_set {α : Type} (l : List α) (d v : α) (i j : Nat) (hi : i < l.length) : (l.set i v).getD j d = if j = i then v else l.getD j d := by
  rw [List.getD_eq_getElem?_getD, List.getElem?_set]
  by_cases h : i = j
  · subst h; simp [hi]
  · rw [if_neg h, if_neg (fun e => h e.symm), ← List.getD_eq_getElem?_getD]
theorem getD_snoc {α : Type} (l : List α) (d v : α) (j : Nat) : (l ++ [v]).getD j d = if j = l.length then v else l.getD j d := by
  rw [List.getD_eq_getElem?_getD, List.getElem?_append]
  by_cases h : j < l.length
  · rw [if_pos h, if_neg (by omega), ← List.getD_eq_getElem?_getD]
  · rw [if_neg h]
    by_cases e : j = l.length
    · subst e; simp
    · rw [if_neg e, List.getElem?_eq_none (by simp; omega), List.getD_eq_getElem?_getD, List.getElem?_eq_none (by omega)]
theorem skip_getD {α : Type} (l : List α) (d : α) (k i : Nat) (hk : k < l.length) : (l.take k ++ l.drop (k + 1)).getD i d = if i < k then l.getD i d else l.getD (i + 1) d := by
  simp only [List.getD_eq_getElem?_getD, List.getElem?_append, List.length_take]
  by_cases h : i < k
  · rw [if_pos h, if_pos (by omega), List.getElem?_take, if_pos h]
  · rw [if_neg h, if_neg (by omega), List.getElem?_drop, show k + 1 + (i - min k l.length) = i + 1 by omega]
theorem skip_len {α : Type} (l : List α) (k : Nat) (hk : k < l.length) : (l.take k ++ l.drop (k + 1)).length = l.length - 1 := by simp; omega
end Go.Proofs.Ytglddjbcaknnaaa.Pure
/- The place of a food, in the program and in the reference. Condition: at most 2,000,000 foods. -/
namespace Go.Proofs.Ytglddjbcaknnaaa.Pure
open Go.RowKit Go.Proofs.YtglddjbcaknnaaaW.PrintWords Go.Proofs.YtglddjbcaknnaaaW.PrintLast Go.Proofs.Ytglddjbcaknnaaa.Q
set_option linter.unusedVariables false
set_option linter.unusedSimpArgs false
def fPl (l : List Fd) (id : Int) : Int := idxOf (fun x => x.f0 == id) l
theorem foodPlace_eq (l : List Fd) (id : Int) : impl_foodPlace.f l id = some (fPl l id) := rfl
theorem fPl_none {l : List Fd} {id : Int} (h : ∀ j, j < l.length → (fAt l j).f0 ≠ id) : fPl l id = -1 := idxOf_miss _ l z62 fun j hj => beq_eq_false_iff_ne.2 (h j hj)
theorem fPl_hit {l : List Fd} {id : Int} {k : Nat} (hk : k < l.length) (h : (fAt l k).f0 = id) (hn : ∀ j, j < k → (fAt l j).f0 ≠ id) : fPl l id = (k : Int) := idxOf_hit _ l z62 k hk (beq_iff_eq.2 h) fun j hj => beq_eq_false_iff_ne.2 (hn j hj)
theorem fPl_is (l : List Fd) (id : Int) : (fPl l id = -1 ∧ ∀ j, j < l.length → (fAt l j).f0 ≠ id) ∨ ∃ k : Nat, fPl l id = k ∧ k < l.length ∧ (fAt l k).f0 = id ∧ ∀ j, j < k → (fAt l j).f0 ≠ id := by
  have key : ∀ d i, i + d = l.length → (∀ j, j < i → (fAt l j).f0 ≠ id) → (fPl l id = -1 ∧ ∀ j, j < l.length → (fAt l j).f0 ≠ id) ∨ ∃ k : Nat, fPl l id = k ∧ k < l.length ∧ (fAt l k).f0 = id ∧ ∀ j, j < k → (fAt l j).f0 ≠ id := by
    intro d
    induction d with
    | zero =>
      intro i hi h
      exact .inl ⟨fPl_none fun j hj => h j (by omega), fun j hj => h j (by omega)⟩
    | succ d ih =>
      intro i hi h
      by_cases e : (fAt l i).f0 = id
      · exact .inr ⟨i, fPl_hit (by omega) e h, by omega, e, h⟩
      · refine ih (i + 1) (by omega) fun j hj => ?_
        rcases Nat.lt_succ_iff_lt_or_eq.1 hj with h1 | rfl
        · exact h j h1
        · exact e
  exact key l.length 0 (by omega) fun j hj => absurd hj (by omega)
theorem l5Find_ok (l : List Fd) (id : Int) (hl : l.length ≤ 2000000) : Ok (fun k => spec_l5Find.f k l id) (· = fPl l id) := by
  unfold spec_l5Find.f
  refine Ok.range (fun (_ : Unit) i k => spec_l5Find.l0 k l id i) l.length (fun i _ => ∀ j, j < i → (fAt l j).f0 ≠ id) _ ?_ ?_ () (fun j hj => absurd hj (by omega))
  · intro i _ hi hinv ih
    refine Ok.step (fun k => by simp only [spec_l5Find.l0]; rfl) (Ok.pos (by omega) (Ok.pos (by omega) ?_))
    rw [fAt_rd, wrap_id (n := (i : Int) + 1) (by omega) (by omega)]
    refine Ok.ite (fun h => Ok.ret (fPl_hit hi h hinv).symm) (fun h => ih () fun j hj => ?_)
    rcases Nat.lt_succ_iff_lt_or_eq.1 hj with h1 | rfl
    · exact hinv j h1
    · exact h
  · intro _ hinv
    exact Ok.step (fun k => by simp only [spec_l5Find.l0]; rfl) (Ok.neg (by omega) (Ok.ret (fPl_none hinv).symm))
/-- valid foods: one place for each number -/
theorem food_lt {l : List Fd} (v : FV l) : ∀ j i, i < j → j < l.length → (fAt l i).f0 < (fAt l j).f0
  | 0, i, h, _ => absurd h (by omega)
  | j + 1, i, h, hj => by
    have h1 := (v.2 (j + 1) hj).2 (by omega)
    rw [Nat.add_sub_cancel] at h1
    rcases Nat.lt_succ_iff_lt_or_eq.1 h with h2 | rfl
    · exact Int.lt_trans (food_lt v j i h2 (by omega)) h1
    · exact h1
theorem food_at {l : List Fd} (v : FV l) (k : Nat) (hk : k < l.length) : fPl l (fAt l k).f0 = (k : Int) :=
  fPl_hit hk rfl fun j hj => Int.ne_of_lt (food_lt v k j hj hk)
end Go.Proofs.Ytglddjbcaknnaaa.Pure
/- When rules are valid, in the program and in the reference. Condition: at most 2,000,000. -/
namespace Go.Proofs.Ytglddjbcaknnaaa.Pure
open Go.RowKit Go.Proofs.YtglddjbcaknnaaaW.PrintWords Go.Proofs.YtglddjbcaknnaaaW.PrintLast Go.Proofs.Ytglddjbcaknnaaa.Q
set_option linter.unusedVariables false
set_option linter.unusedSimpArgs false
abbrev Swp := S41
def sAt (l : List Swp) (i : Nat) : Swp := l.getD i z41
theorem sAt_rd (l : List Swp) (i : Nat) : rd_T41 l (i : Int) = sAt l i := rfl
def sGood (l : List Fd) (x : Swp) : Prop := x.f0 ≠ x.f1 ∧ 0 ≤ fPl l x.f0 ∧ 0 ≤ fPl l x.f1 ∧ (1 ≤ x.f2 ∧ x.f2 ≤ 9) ∧ 1 ≤ x.f3 ∧ x.f3 ≤ 9
def SV (r : List Swp) (l : List Fd) : Prop := FV l ∧ r.length ≤ 6 ∧ ∀ i, i < r.length → sGood l (sAt r i)
theorem bad_swap (l : List Fd) (x : Swp) : impl_SwapsValid.bad l x = false ↔ sGood l x := by
  unfold impl_SwapsValid.bad sGood fPl
  by_cases h1 : x.f0 = x.f1
  · rw [if_pos h1]; simp [h1]
  rw [if_neg h1]
  by_cases h2 : idxOf (fun y => y.f0 == x.f0) l < 0
  · rw [if_pos h2]; simp; omega
  rw [if_neg h2]
  by_cases h3 : idxOf (fun y => y.f0 == x.f1) l < 0
  · rw [if_pos h3]; simp; omega
  rw [if_neg h3]
  by_cases h4 : 1 ≤ x.f2 ∧ x.f2 ≤ 9
  · rw [if_pos h4]; simp; omega
  · rw [if_neg h4]; simp; omega
theorem iSwaps_ok (r : List Swp) (l : List Fd) (hl : l.length ≤ 2000000) : Ok (fun k => impl_SwapsValid.f k r l) (fun b => b = true ↔ SV r l) := by
  unfold impl_SwapsValid.f
  refine Ok.bind (iFoods_ok l hl) fun b hb => Ok.ite (fun h => Ok.ite (fun h2 => Ok.ret ?_) (fun h2 => Ok.ret ⟨fun h' => (by cases h'), fun h' => absurd h'.2.1 (by omega)⟩)) (fun h => Ok.ret ⟨fun h' => (by cases h'), fun h' => absurd (hb.2 h'.1) h⟩)
  simp only [Bool.not_eq_true', List.any_eq_false, Bool.not_eq_true, bad_swap]
  constructor
  · intro h'
    refine ⟨hb.1 h, by omega, fun i hi => ?_⟩
    unfold sAt
    rw [getD_at _ _ _ hi]
    exact h' _ (List.getElem_mem hi)
  · intro h' x hx
    obtain ⟨i, hi, rfl⟩ := List.mem_iff_getElem.1 hx
    have := h'.2.2 i hi
    unfold sAt at this
    rwa [getD_at _ _ _ hi] at this
theorem sSwaps_ok (r : List Swp) (l : List Fd) (hr : r.length ≤ 2000000) (hl : l.length ≤ 2000000) : Ok (fun k => spec_SwapsValid.f k r l) (fun b => b = true ↔ SV r l) := by
  unfold spec_SwapsValid.f
  refine Ok.range (fun (_ : Unit) i k => spec_SwapsValid.l0 k r l i) r.length (fun i _ => ∀ j, j < i → sGood l (sAt r j)) _ ?_ ?_ () (fun j hj => absurd hj (by omega))
  · intro i _ hi hinv ih
    have bad : ¬ sGood l (sAt r i) → Ok (fun _ => some false) (fun b : Bool => b = true ↔ SV r l) := fun h => Ok.ret ⟨fun h' => (by cases h'), fun h' => absurd (h'.2.2 i hi) h⟩
    refine Ok.step (fun k => by simp only [spec_SwapsValid.l0]; rfl) (Ok.pos (by omega) (Ok.pos (by omega) ?_))
    rw [sAt_rd, wrap_id (n := (i : Int) + 1) (by omega) (by omega)]
    refine Ok.bind (l5Find_ok l _ hl) ?_
    rintro _ rfl
    refine Ok.ite (fun h1 => bad fun h => by have := h.2.1; omega) (fun h1 => Ok.bind (l5Find_ok l _ hl) ?_)
    rintro _ rfl
    refine Ok.ite (fun h2 => bad fun h => by have := h.2.2.1; omega) (fun h2 => Ok.ite (fun h3 => bad fun h => h.1 h3) (fun h3 => ?_))
    rw [l6In_eq, l6In_eq]
    refine Ok.val (Ok.ite (fun h4 => Ok.val (Ok.ite (fun h5 => ih () fun j hj => ?_) (fun h5 => bad fun h => h5 ((inr_iff _ _ _).2 h.2.2.2.2)))) (fun h4 => bad fun h => h4 ((inr_iff _ _ _).2 h.2.2.2.1)))
    rcases Nat.lt_succ_iff_lt_or_eq.1 hj with h6 | rfl
    · exact hinv j h6
    · exact ⟨h3, by omega, by omega, (inr_iff _ _ _).1 h4, (inr_iff _ _ _).1 h5⟩
  · intro _ hinv
    refine Ok.step (fun k => by simp only [spec_SwapsValid.l0]; rfl) (Ok.neg (by omega) (Ok.bind (sFoods_ok l hl) fun b hb => Ok.ite (fun h => Ok.ret ?_) (fun h => Ok.ret ⟨fun h' => (by cases h'), fun h' => absurd (hb.2 h'.1) h⟩)))
    rw [decide_eq_true_iff]
    exact ⟨fun h' => ⟨hb.1 h, by omega, hinv⟩, fun h' => by have := h'.2.1; omega⟩
end Go.Proofs.Ytglddjbcaknnaaa.Pure
/- When needs are valid, in the program and in the reference. Condition: at most 2,000,000. -/
namespace Go.Proofs.Ytglddjbcaknnaaa.Pure
open Go.RowKit Go.Proofs.YtglddjbcaknnaaaW.PrintWords Go.Proofs.YtglddjbcaknnaaaW.PrintLast Go.Proofs.Ytglddjbcaknnaaa.Q
set_option linter.unusedVariables false
set_option linter.unusedSimpArgs false
def NV (l : List Fd) (p : List Int) : Prop := FV l ∧ p.length = l.length ∧ ∀ i, i < p.length → inr (p.getD i 0) 0 999999 = true
theorem bad_need (n : Int) : impl_needsValid.bad n = !inr n 0 999999 := rfl
theorem iNeeds_ok (l : List Fd) (p : List Int) (hl : l.length ≤ 2000000) : Ok (fun k => impl_needsValid.f k l p) (fun r => r = true ↔ NV l p) := by
  unfold impl_needsValid.f
  refine Ok.bind (iFoods_ok l hl) fun b hb => Ok.ite (fun h => Ok.ite (fun h2 => Ok.ret ?_) (fun h2 => Ok.ret ⟨fun h' => (by cases h'), fun h' => absurd h'.2.1 (by omega)⟩)) (fun h => Ok.ret ⟨fun h' => (by cases h'), fun h' => absurd (hb.2 h'.1) h⟩)
  simp only [Bool.not_eq_true', List.any_eq_false, bad_need, Bool.not_eq_false]
  constructor
  · intro h'
    refine ⟨hb.1 h, by omega, fun i hi => ?_⟩
    rw [getD_at _ _ _ hi]
    exact h' _ (List.getElem_mem hi)
  · intro h' x hx
    obtain ⟨i, hi, rfl⟩ := List.mem_iff_getElem.1 hx
    have := h'.2.2 i hi
    rwa [getD_at _ _ _ hi] at this
theorem sNeeds_ok (l : List Fd) (p : List Int) (hl : l.length ≤ 2000000) (hp : p.length ≤ 2000000) : Ok (fun k => spec_l15Needs.f k l p) (fun r => r = true ↔ NV l p) := by
  unfold spec_l15Needs.f
  refine Ok.range (fun (_ : Unit) i k => spec_l15Needs.l0 k l p i) p.length (fun i _ => ∀ j, j < i → inr (p.getD j 0) 0 999999 = true) _ ?_ ?_ () (fun j hj => absurd hj (by omega))
  · intro i _ hi hinv ih
    refine Ok.step (fun k => by simp only [spec_l15Needs.l0]; rfl) (Ok.pos (by omega) (Ok.pos (by omega) ?_))
    rw [rd_nat, l6In_eq, wrap_id (n := (i : Int) + 1) (by omega) (by omega)]
    refine Ok.val (Ok.ite (fun h => ih () fun j hj => ?_) (fun h => Ok.ret ⟨fun h' => (by cases h'), fun h' => absurd (h'.2.2 i hi) h⟩))
    rcases Nat.lt_succ_iff_lt_or_eq.1 hj with h1 | rfl
    · exact hinv j h1
    · exact h
  · intro _ hinv
    refine Ok.step (fun k => by simp only [spec_l15Needs.l0]; rfl) (Ok.neg (by omega) (Ok.bind (sFoods_ok l hl) fun b hb => Ok.ite (fun h => Ok.ret ?_) (fun h => Ok.ret ⟨fun h' => (by cases h'), fun h' => absurd (hb.2 h'.1) h⟩)))
    rw [beq_iff_eq]
    exact ⟨fun h' => ⟨hb.1 h, by omega, hinv⟩, fun h' => by have := h'.2.1; omega⟩
end Go.Proofs.Ytglddjbcaknnaaa.Pure
/- Needs in which missing foods are replaced, step by step: what is known of them. Conditions: valid rules and needs. -/
namespace Go.Proofs.Ytglddjbcaknnaaa.Pure
open Go.RowKit Go.Proofs.YtglddjbcaknnaaaW.PrintWords Go.Proofs.YtglddjbcaknnaaaW.PrintLast Go.Proofs.Ytglddjbcaknnaaa.Q
set_option linter.unusedVariables false
set_option linter.unusedSimpArgs false
def hasI (m : List Int) (x : Int) : Bool := m.any (· == x)
theorem hasI_iff (m : List Int) (x : Int) : hasI m x = true ↔ ∃ i, i < m.length ∧ m.getD i 0 = x := by
  unfold hasI
  rw [List.any_eq_true]
  constructor
  · rintro ⟨y, hy, e⟩
    obtain ⟨i, hi, rfl⟩ := List.mem_iff_getElem.1 hy
    exact ⟨i, hi, by rw [getD_at _ _ _ hi]; simpa using e⟩
  · rintro ⟨i, hi, e⟩
    rw [getD_at _ _ _ hi] at e
    exact ⟨_, List.getElem_mem hi, by simpa using e⟩
theorem hasI_mem (m : List Int) (x : Int) : hasI m x = true ↔ x ∈ m := by
  unfold hasI
  rw [List.any_eq_true]
  exact ⟨fun ⟨y, hy, e⟩ => by have := eq_of_beq e; exact this ▸ hy, fun h => ⟨x, h, by simp⟩⟩
/-- a rule from a food to one that is not missing -/
def pickR (m : List Int) (id : Int) (s : Swp) : Bool := s.f0 == id && !hasI m s.f1
theorem pickR_iff (m : List Int) (id : Int) (s : Swp) : pickR m id s = true ↔ s.f0 = id ∧ hasI m s.f1 = false := by simp [pickR]
def upN (n d : Int) : Int := Int.tdiv (n + d - 1) d
def ruleN (r : List Swp) (m : List Int) (id : Int) : Int := idxOf (pickR m id) r
theorem ruleN_is (r : List Swp) (m : List Int) (id : Int) : (ruleN r m id = -1 ∧ ∀ j, j < r.length → pickR m id (sAt r j) = false) ∨ ∃ k : Nat, ruleN r m id = k ∧ k < r.length ∧ pickR m id (sAt r k) = true ∧ ∀ j, j < k → pickR m id (sAt r j) = false := by
  have key : ∀ d i, i + d = r.length → (∀ j, j < i → pickR m id (sAt r j) = false) → (ruleN r m id = -1 ∧ ∀ j, j < r.length → pickR m id (sAt r j) = false) ∨ ∃ k : Nat, ruleN r m id = k ∧ k < r.length ∧ pickR m id (sAt r k) = true ∧ ∀ j, j < k → pickR m id (sAt r j) = false := by
    intro d
    induction d with
    | zero =>
      intro i hi h
      exact .inl ⟨idxOf_miss _ r z41 fun j hj => h j (by omega), fun j hj => h j (by omega)⟩
    | succ d ih =>
      intro i hi h
      by_cases e : pickR m id (sAt r i) = true
      · exact .inr ⟨i, idxOf_hit _ r z41 i (by omega) e h, by omega, e, h⟩
      · refine ih (i + 1) (by omega) fun j hj => ?_
        rcases Nat.lt_succ_iff_lt_or_eq.1 hj with h1 | rfl
        · exact h j h1
        · exact Bool.eq_false_iff.2 e
  exact key r.length 0 (by omega) fun j hj => absurd hj (by omega)
/-- what food n's turn makes of the needs; none: it has no rule -/
def stepN (r : List Swp) (f : List Fd) (p m : List Int) (n : Nat) (o : List Int) : Option (List Int) :=
  if p.getD n 0 ≠ 0 ∧ hasI m (fAt f n).f0 = true then
    (if ruleN r m (fAt f n).f0 < 0 then none
     else some ((o.set n 0).set (fPl f (sAt r (ruleN r m (fAt f n).f0).toNat).f1).toNat ((o.set n 0).getD (fPl f (sAt r (ruleN r m (fAt f n).f0).toNat).f1).toNat 0 + upN (p.getD n 0 * (sAt r (ruleN r m (fAt f n).f0).toNat).f2) (sAt r (ruleN r m (fAt f n).f0).toNat).f3)))
  else some o
def swpN (r : List Swp) (f : List Fd) (p m : List Int) : Nat → Option (List Int)
  | 0 => some p
  | n + 1 => (swpN r f p m n).bind (stepN r f p m n)
def SwInv (f : List Fd) (p m : List Int) (n : Nat) (o : List Int) : Prop := o.length = p.length ∧ ∀ j, j < p.length → (hasI m (fAt f j).f0 = true → o.getD j 0 = if j < n then 0 else p.getD j 0) ∧ (hasI m (fAt f j).f0 = false → p.getD j 0 ≤ o.getD j 0) ∧ 0 ≤ o.getD j 0 ∧ o.getD j 0 ≤ 999999 + 10000000 * n
/-- the rule that is used, its target and its amount -/
theorem rule_used {r : List Swp} {f : List Fd} {p m : List Int} (v : SV r f) (w : NV f p) {n : Nat} (hn : n < p.length) (h : p.getD n 0 ≠ 0 ∧ hasI m (fAt f n).f0 = true) (hk : ¬ ruleN r m (fAt f n).f0 < 0) :
    ∃ k t : Nat, ruleN r m (fAt f n).f0 = k ∧ k < r.length ∧ (sAt r k).f0 = (fAt f n).f0 ∧ hasI m (sAt r k).f1 = false ∧ fPl f (sAt r k).f1 = t ∧ t < p.length ∧ t ≠ n ∧ hasI m (fAt f t).f0 = false ∧ (fAt f t).f0 = (sAt r k).f1 ∧ (1 ≤ p.getD n 0 * (sAt r k).f2 ∧ p.getD n 0 * (sAt r k).f2 ≤ 8999991) ∧ (1 ≤ (sAt r k).f3 ∧ (sAt r k).f3 ≤ 9) ∧ 0 ≤ upN (p.getD n 0 * (sAt r k).f2) (sAt r k).f3 ∧ upN (p.getD n 0 * (sAt r k).f2) (sAt r k).f3 ≤ 8999999 := by
  rcases ruleN_is r m (fAt f n).f0 with ⟨e, _⟩ | ⟨k, e, hkl, hp, _⟩
  · omega
  have hp' := (pickR_iff _ _ _).1 hp
  have hg := v.2.2 k hkl
  rcases fPl_is f (sAt r k).f1 with ⟨e2, _⟩ | ⟨t, e2, htl, hte, _⟩
  · have := hg.2.2.1; omega
  have hpn := (inr_iff _ _ _).1 (w.2.2 n hn)
  have hn1 : 1 ≤ p.getD n 0 := by have := h.1; omega
  have hm1 : 1 * 1 ≤ p.getD n 0 * (sAt r k).f2 := Int.mul_le_mul hn1 hg.2.2.2.1.1 (by omega) (by omega)
  have hm2 : p.getD n 0 * (sAt r k).f2 ≤ 999999 * 9 := Int.mul_le_mul hpn.2 hg.2.2.2.1.2 (by have := hg.2.2.2.1.1; omega) (by omega)
  have hd := hg.2.2.2.2
  have hu0 : 0 ≤ upN (p.getD n 0 * (sAt r k).f2) (sAt r k).f3 := Int.tdiv_nonneg (by omega) (by omega)
  have hu1 : upN (p.getD n 0 * (sAt r k).f2) (sAt r k).f3 ≤ p.getD n 0 * (sAt r k).f2 + (sAt r k).f3 - 1 := by
    unfold upN
    rw [Int.tdiv_eq_ediv_of_nonneg (by omega)]
    exact Int.ediv_le_self _ (by omega)
  have hx : hasI m (fAt f t).f0 = false := by rw [hte]; exact hp'.2
  refine ⟨k, t, e, hkl, hp'.1, hp'.2, e2, by rw [w.2.1]; exact htl, ?_, hx, hte, ⟨by omega, by omega⟩, hd, hu0, by omega⟩
  rintro rfl
  rw [h.2] at hx
  cases hx
theorem step_inv {r : List Swp} {f : List Fd} {p m : List Int} (v : SV r f) (w : NV f p) {n : Nat} (hn : n < p.length) {o o' : List Int} (hi : SwInv f p m n o) (h : stepN r f p m n o = some o') : SwInv f p m (n + 1) o' := by
  unfold stepN at h
  by_cases hc : p.getD n 0 ≠ 0 ∧ hasI m (fAt f n).f0 = true
  · rw [if_pos hc] at h
    by_cases hk : ruleN r m (fAt f n).f0 < 0
    · rw [if_pos hk] at h; cases h
    · rw [if_neg hk] at h
      obtain ⟨k, t, e1, hkl, hs0, hs1, e2, htl, htn, htm, hte, hx, hd, hu0, hu1⟩ := rule_used v w hn hc hk
      rw [e1, Int.toNat_natCast, e2, Int.toNat_natCast] at h
      have ho := hi.1
      obtain rfl := Option.some.inj h
      refine ⟨by simp [ho], fun j hj => ?_⟩
      have hj' := hi.2 j hj
      rw [getD_set _ _ _ _ _ (by simp; omega), getD_set _ _ _ _ _ (by omega), if_neg htn]
      by_cases ej : j = t
      · subst ej
        rw [if_pos rfl]
        refine ⟨fun h' => (by rw [htm] at h'; cases h'), fun h' => by have := hj'.2.1 h'; omega, by omega, by omega⟩
      · rw [if_neg ej, getD_set _ _ _ _ _ (by omega)]
        by_cases en : j = n
        · subst en
          rw [if_pos rfl]
          refine ⟨fun _ => by rw [if_pos (by omega)], fun h' => (by rw [hc.2] at h'; cases h'), by omega, by omega⟩
        · rw [if_neg en]
          refine ⟨fun h' => ?_, hj'.2.1, hj'.2.2.1, by omega⟩
          rw [hj'.1 h']
          by_cases h1 : j < n
          · rw [if_pos h1, if_pos (by omega)]
          · rw [if_neg h1, if_neg (by omega)]
  · rw [if_neg hc] at h
    obtain rfl := Option.some.inj h
    refine ⟨hi.1, fun j hj => ?_⟩
    have hj' := hi.2 j hj
    refine ⟨fun h' => ?_, hj'.2.1, hj'.2.2.1, by omega⟩
    rw [hj'.1 h']
    by_cases h1 : j < n
    · rw [if_pos h1, if_pos (by omega)]
    · rw [if_neg h1]
      by_cases en : j = n
      · subst en
        rw [if_pos (by omega)]
        exact Classical.byContradiction fun h0 => hc ⟨h0, h'⟩
      · rw [if_neg (by omega)]
theorem inv_zero {f : List Fd} {p : List Int} (w : NV f p) (m : List Int) : SwInv f p m 0 p := by
  refine ⟨rfl, fun j hj => ?_⟩
  have := (inr_iff _ _ _).1 (w.2.2 j hj)
  exact ⟨fun _ => by rw [if_neg (by omega)], fun _ => Int.le_refl _, by omega, by omega⟩
theorem swp_inv {r : List Swp} {f : List Fd} {p : List Int} (m : List Int) (v : SV r f) (w : NV f p) : ∀ (n : Nat), n ≤ p.length → ∀ o, swpN r f p m n = some o → SwInv f p m n o
  | 0, _, o, h => by obtain rfl := Option.some.inj h; exact inv_zero w m
  | n + 1, hn, o, h => by
    obtain ⟨o1, h1, h2⟩ := Option.bind_eq_some_iff.1 h
    exact step_inv v w (by omega) (swp_inv m v w n (by omega) o1 h1) h2
def swpOut (r : List Swp) (f : List Fd) (p m : List Int) : List Int × Bool :=
  match swpN r f p m f.length with
  | none => ([], false)
  | some o => if (∀ j, j < o.length → o.getD j 0 ≤ 999999) then (o, true) else ([], false)
/-- what SwapNeeds answers -/
def SwRes (r : List Swp) (f : List Fd) (p m : List Int) (x : List Int × Bool) : Prop := (SV r f ∧ NV f p → x = swpOut r f p m) ∧ (¬ (SV r f ∧ NV f p) → x = ([], false))
theorem SwRes.eq {r : List Swp} {f : List Fd} {p m : List Int} {a b : List Int × Bool} (h : SwRes r f p m a) (k : SwRes r f p m b) : a = b := by
  by_cases v : SV r f ∧ NV f p
  · rw [h.1 v, k.1 v]
  · rw [h.2 v, k.2 v]
theorem SwRes.ok {r : List Swp} {f : List Fd} {p m o : List Int} (h : SwRes r f p m (o, true)) : SV r f ∧ NV f p ∧ swpN r f p m f.length = some o ∧ NV f o := by
  have v : SV r f ∧ NV f p := Classical.byContradiction fun hn => by have := h.2 hn; cases this
  have e := h.1 v
  unfold swpOut at e
  cases hs : swpN r f p m f.length with
  | none => rw [hs] at e; cases e
  | some o1 =>
    rw [hs] at e
    by_cases hb : ∀ j, j < o1.length → o1.getD j 0 ≤ 999999
    · simp only [if_pos hb] at e
      obtain rfl : o = o1 := congrArg Prod.fst e
      have hi := swp_inv m v.1 v.2 f.length (by rw [v.2.2.1]; exact Nat.le_refl _) o hs
      refine ⟨v.1, v.2, rfl, v.2.1, by rw [hi.1, v.2.2.1], fun i hx => ?_⟩
      have := hi.2 i (by rw [← hi.1]; exact hx)
      exact (inr_iff _ _ _).2 ⟨this.2.2.1, hb i hx⟩
    · simp only [if_neg hb] at e
      cases e
theorem SwRes.len {r : List Swp} {f : List Fd} {p m : List Int} {a : List Int × Bool} (h : SwRes r f p m a) : a.1.length ≤ f.length := by
  obtain ⟨o, b⟩ := a
  cases b with
  | true => have := h.ok.2.2.2.2.1; simp only; omega
  | false =>
    by_cases v : SV r f ∧ NV f p
    · have e := h.1 v
      unfold swpOut at e
      cases hs : swpN r f p m f.length with
      | none => rw [hs] at e; rw [e]; simp
      | some o1 =>
        rw [hs] at e
        by_cases hb : ∀ j, j < o1.length → o1.getD j 0 ≤ 999999
        · simp only [if_pos hb] at e; cases e
        · simp only [if_neg hb] at e; rw [e]; simp
    · rw [h.2 v]; simp
end Go.Proofs.Ytglddjbcaknnaaa.Pure
/- SwapNeeds, in the program and in the reference. Condition: at most 2,000,000 elements each. -/
namespace Go.Proofs.Ytglddjbcaknnaaa.Pure
open Go.RowKit Go.Proofs.YtglddjbcaknnaaaW.PrintWords Go.Proofs.YtglddjbcaknnaaaW.PrintLast Go.Proofs.Ytglddjbcaknnaaa.Q
set_option linter.unusedVariables false
set_option linter.unusedSimpArgs false
theorem up_ok {x d : Int} (h0 : 1 ≤ x) (h1 : x ≤ 8999991) (hd : 1 ≤ d ∧ d ≤ 9) (hu : 0 ≤ upN x d ∧ upN x d ≤ 8999999) : impl_roundedUp.f (wrap64 x) d = some (upN x d) ∧ spec_l1Up.f (wrap64 x) d = some (upN x d) := by
  unfold impl_roundedUp.f spec_l1Up.f
  rw [if_neg (by omega), wrap_id (n := x) (by omega) (by omega), wrap_id (n := x + d) (by omega) (by omega), wrap_id (n := x + d - 1) (by omega) (by omega)]
  have e : Int.tdiv (x + d - 1) d = upN x d := rfl
  rw [e, wrap_id (n := upN x d) (by omega) (by omega)]
  exact ⟨rfl, rfl⟩
theorem put_val {f : List Fd} {p m o : List Int} {n t : Nat} (hi : SwInv f p m n o) (w : NV f p) (hn : n < p.length) (ht : t < p.length) (htn : t ≠ n) {u : Int} (hu0 : 0 ≤ u) (hu1 : u ≤ 8999999) : wrap64 ((o.set n 0).getD t 0 + u) = (o.set n 0).getD t 0 + u := by
  have ho := hi.1
  have h1 := hi.2 t ht
  have h6 : p.length ≤ 6 := by have := w.2.1; have := w.1.1; omega
  rw [getD_set _ _ _ _ _ (by omega), if_neg htn]
  exact wrap_id (by omega) (by omega)
theorem step_eq {r : List Swp} {f : List Fd} {p m o : List Int} (v : SV r f) (w : NV f p) {n : Nat} (hn : n < p.length) (hi : SwInv f p m n o) : impl_SwapNeeds.step r f p m n o = some (stepN r f p m n o) := by
  unfold impl_SwapNeeds.step stepN
  by_cases h0 : p.getD n 0 = 0
  · rw [if_pos h0, if_neg fun h => h.1 h0]
  rw [if_neg h0]
  by_cases h1 : hasI m (fAt f n).f0 = true
  · rw [if_pos (show impl_SwapNeeds.has m (f.getD n z62).f0 = true from h1), if_pos (show p.getD n 0 ≠ 0 ∧ hasI m (fAt f n).f0 = true from ⟨h0, h1⟩)]
    by_cases h2 : ruleN r m (fAt f n).f0 < 0
    · rw [if_pos (show idxOf (impl_SwapNeeds.pick m (f.getD n z62).f0) r < 0 from h2), if_pos h2]
    · rw [if_neg (show ¬ idxOf (impl_SwapNeeds.pick m (f.getD n z62).f0) r < 0 from h2), if_neg h2]
      obtain ⟨k, t, e1, hkl, hs0, hs1, e2, htl, htn, htm, hte, hx, hd, hu0, hu1⟩ := rule_used v w hn ⟨h0, h1⟩ h2
      have e1' : idxOf (impl_SwapNeeds.pick m (f.getD n z62).f0) r = (k : Int) := e1
      rw [e1', e1, Int.toNat_natCast]
      have e2' : idxOf (fun x => x.f0 == (r.getD k z41).f1) f = (t : Int) := e2
      rw [e2', e2, Int.toNat_natCast]
      have ho := hi.1
      rw [if_pos (show 0 ≤ (t : Int) ∧ (t : Int) < (o.length : Int) from ⟨by omega, by omega⟩)]
      have hup := (up_ok hx.1 hx.2 hd ⟨hu0, hu1⟩).1
      have hup' : impl_roundedUp.f (wrap64 (p.getD n 0 * (r.getD k z41).f2)) (r.getD k z41).f3 = some (upN (p.getD n 0 * (sAt r k).f2) (sAt r k).f3) := hup
      rw [hup', Option.bind_some, put_val hi w hn htl htn hu0 hu1]
  · rw [if_neg (show ¬ impl_SwapNeeds.has m (f.getD n z62).f0 = true from h1), if_neg fun h => h1 h.2]
theorem all_eq {r : List Swp} {f : List Fd} {p : List Int} (m : List Int) (v : SV r f) (w : NV f p) : ∀ n, n ≤ p.length → impl_SwapNeeds.all r f p m n = some (swpN r f p m n)
  | 0, _ => rfl
  | n + 1, hn => by
    rw [impl_SwapNeeds.all, all_eq m v w n (by omega), Option.bind_some, swpN]
    cases h : swpN r f p m n with
    | none => rfl
    | some o => exact step_eq v w (by omega) (swp_inv m v w n (by omega) o h)
theorem nv_iff {r : List Swp} {f : List Fd} {p m o : List Int} (w : NV f p) (hi : SwInv f p m f.length o) : NV f o ↔ ∀ j, j < o.length → o.getD j 0 ≤ 999999 := by
  constructor
  · intro h j hj
    exact ((inr_iff _ _ _).1 (h.2.2 j hj)).2
  · intro h
    refine ⟨w.1, by rw [hi.1, w.2.1], fun j hj => (inr_iff _ _ _).2 ⟨(hi.2 j (by rw [← hi.1]; exact hj)).2.2.1, h j hj⟩⟩
theorem iSwap_ok (r : List Swp) (f : List Fd) (p m : List Int) (hf : f.length ≤ 2000000) : Ok (fun k => impl_SwapNeeds.f k r f p m) (SwRes r f p m) := by
  unfold impl_SwapNeeds.f
  refine Ok.bind (iSwaps_ok r f hf) fun b hb => Ok.ite (fun h => ?_) (fun h => Ok.ret ⟨fun h' => absurd (hb.2 h'.1) h, fun _ => rfl⟩)
  refine Ok.bind (iNeeds_ok f p hf) fun b2 hb2 => Ok.ite (fun h2 => ?_) (fun h2 => Ok.ret ⟨fun h' => absurd (hb2.2 h'.2) h2, fun _ => rfl⟩)
  have v := hb.1 h
  have w := hb2.1 h2
  have hl : p.length = f.length := w.2.1
  have hfin : ∀ x, x = swpOut r f p m → SwRes r f p m x := fun x e => ⟨fun _ => e, fun h' => absurd ⟨v, w⟩ h'⟩
  rw [all_eq m v w f.length (by omega)]
  refine Ok.pos ⟨by omega, hl⟩ (Ok.val ?_)
  cases hs : swpN r f p m f.length with
  | none => exact Ok.ret (hfin _ (by rw [swpOut, hs]))
  | some o =>
    have hi := swp_inv m v w f.length (by omega) o hs
    have hn := nv_iff (r := r) w hi
    refine Ok.bind (iNeeds_ok f o hf) fun b3 hb3 => Ok.ite (fun h3 => Ok.ret (hfin _ ?_)) (fun h3 => Ok.ret (hfin _ ?_))
    · rw [swpOut, hs]
      simp only
      rw [if_pos (hn.1 (hb3.1 h3))]
    · rw [swpOut, hs]
      simp only
      rw [if_neg fun h' => h3 (hb3.2 (hn.2 h'))]
theorem sHas_ok (m : List Int) (x : Int) (hm : m.length ≤ 2000000) : Ok (fun k => spec_l15Has.f k m x) (· = hasI m x) := by
  unfold spec_l15Has.f
  refine Ok.range (fun (_ : Unit) i k => spec_l15Has.l0 k m x i) m.length (fun i _ => ∀ j, j < i → m.getD j 0 ≠ x) _ ?_ ?_ () (fun j hj => absurd hj (by omega))
  · intro i _ hi hinv ih
    refine Ok.step (fun k => by simp only [spec_l15Has.l0]; rfl) (Ok.pos (by omega) (Ok.pos (by omega) ?_))
    rw [rd_nat, wrap_id (n := (i : Int) + 1) (by omega) (by omega)]
    refine Ok.ite (fun h => Ok.ret ((hasI_iff m x).2 ⟨i, hi, h⟩).symm) (fun h => ih () fun j hj => ?_)
    rcases Nat.lt_succ_iff_lt_or_eq.1 hj with h1 | rfl
    · exact hinv j h1
    · exact h
  · intro _ hinv
    refine Ok.step (fun k => by simp only [spec_l15Has.l0]; rfl) (Ok.neg (by omega) (Ok.ret (Bool.eq_false_iff.2 fun h => ?_).symm))
    obtain ⟨j, hj, e⟩ := (hasI_iff m x).1 h
    exact hinv j hj e
theorem swp_none {r : List Swp} {f : List Fd} {p m : List Int} {n : Nat} (h : swpN r f p m n = none) : ∀ d, swpN r f p m (n + d) = none
  | 0 => h
  | d + 1 => by rw [← Nat.add_assoc, swpN, swp_none h d]; rfl
theorem sSwap_ok (r : List Swp) (f : List Fd) (p m : List Int) (hr : r.length ≤ 2000000) (hf : f.length ≤ 2000000) (hp : p.length ≤ 2000000) (hm : m.length ≤ 2000000) : Ok (fun k => spec_SwapNeeds.f k r f p m) (SwRes r f p m) := by
  unfold spec_SwapNeeds.f
  have no : ¬ (SV r f ∧ NV f p) → Ok (fun k => spec_SwapNeeds.j0 k r f p m true) (SwRes r f p m) := fun h => Ok.step (fun k => by simp only [spec_SwapNeeds.j0]; rfl) (Ok.pos (by trivial) (Ok.ret ⟨fun h' => absurd h' h, fun _ => rfl⟩))
  refine Ok.bind (sSwaps_ok r f hr hf) fun b hb => Ok.ite (fun h => Ok.bind (sNeeds_ok f p hf hp) fun b2 hb2 => ?_) (fun h => no fun h' => h (hb.2 h'.1))
  cases b2 with
  | false => exact no fun h' => by have := hb2.2 h'.2; cases this
  | true =>
    have v := hb.1 h
    have w := hb2.1 rfl
    have hl : p.length = f.length := w.2.1
    have hfin : ∀ x, x = swpOut r f p m → SwRes r f p m x := fun x e => ⟨fun _ => e, fun h' => absurd ⟨v, w⟩ h'⟩
    refine Ok.step (fun k => by simp only [spec_SwapNeeds.j0]; rfl) (Ok.neg (by simp) (Ok.val (Ok.pos (by simp; omega) ?_)))
    rw [List.nil_append]
    refine Ok.range (fun (o : List Int) i k => spec_SwapNeeds.l0 k r f p m o i) f.length (fun i o => swpN r f p m i = some o) _ ?_ ?_ p rfl
    · intro i o hi hs ih
      have inv := swp_inv m v w i (by omega) o hs
      have ho := inv.1
      have hnext : swpN r f p m (i + 1) = stepN r f p m i o := by rw [swpN, hs]; rfl
      have skip : ¬ (p.getD i 0 ≠ 0 ∧ hasI m (fAt f i).f0 = true) → Ok (fun k => spec_SwapNeeds.j2 k r f p m o (i : Int) false) (SwRes r f p m) := fun hc => by
        refine Ok.step (fun k => by simp only [spec_SwapNeeds.j2]; rfl) (Ok.neg (by simp) ?_)
        rw [wrap_id (n := (i : Int) + 1) (by omega) (by omega)]
        refine ih o ?_
        rw [hnext, stepN, if_neg hc]
      refine Ok.step (fun k => by simp only [spec_SwapNeeds.l0]; rfl) (Ok.pos (by omega) (Ok.pos (by omega) (Ok.bind (sHas_ok m _ hm) ?_)))
      rintro _ rfl
      rw [fAt_rd]
      refine Ok.ite (fun h1 => Ok.pos (by omega) ?_) (fun h1 => skip fun h' => h1 h'.2)
      rw [rd_nat]
      have hpi := (inr_iff _ _ _).1 (w.2.2 i (by omega))
      by_cases h2 : p.getD i 0 > 0
      · rw [decide_eq_true h2]
        have hc : p.getD i 0 ≠ 0 ∧ hasI m (fAt f i).f0 = true := ⟨by omega, h1⟩
        refine Ok.step (fun k => by simp only [spec_SwapNeeds.j2]; rfl) (Ok.pos (by trivial) ?_)
        have scan : ∀ d c : Nat, c + d = r.length → (∀ j, j < c → pickR m (fAt f i).f0 (sAt r j) = false) → Ok (fun k => spec_SwapNeeds.l1 k r f p m o (i : Int) (c : Int)) (SwRes r f p m) := by
          intro d
          induction d with
          | zero =>
            intro c hcd hinv
            refine Ok.step (fun k => by simp only [spec_SwapNeeds.l1]; rfl) (Ok.neg (by omega) ?_)
            refine Ok.step (fun k => by simp only [spec_SwapNeeds.j4]; rfl) (Ok.pos (by omega) (Ok.ret (hfin _ ?_)))
            have hk : ruleN r m (fAt f i).f0 < 0 := by
              rcases ruleN_is r m (fAt f i).f0 with ⟨e, _⟩ | ⟨q, _, hq, hp, _⟩
              · omega
              · rw [hinv q (by omega)] at hp; cases hp
            have hn : swpN r f p m (i + 1) = none := by rw [hnext, stepN, if_pos hc, if_pos hk]
            have := swp_none hn (f.length - (i + 1))
            rw [show i + 1 + (f.length - (i + 1)) = f.length by omega] at this
            rw [swpOut, this]
          | succ d ihd =>
            intro c hcd hinv
            have e1 : ((c : Int) + 1) = ((c + 1 : Nat) : Int) := by omega
            have next : pickR m (fAt f i).f0 (sAt r c) = false → Ok (fun k => spec_SwapNeeds.l1 k r f p m o (i : Int) (wrap64 ((c : Int) + 1))) (SwRes r f p m) := fun hq => by
              rw [wrap_id (n := (c : Int) + 1) (by omega) (by omega), e1]
              refine ihd (c + 1) (by omega) fun j hj => ?_
              rcases Nat.lt_succ_iff_lt_or_eq.1 hj with h3 | rfl
              · exact hinv j h3
              · exact hq
            refine Ok.step (fun k => by simp only [spec_SwapNeeds.l1]; rfl) (Ok.pos (by omega) (Ok.pos (by omega) (Ok.pos (by omega) (Ok.pos (by omega) ?_))))
            rw [sAt_rd, fAt_rd]
            refine Ok.ite (fun h3 => Ok.bind (sHas_ok m _ hm) ?_) (fun h3 => next (Bool.eq_false_iff.2 fun h' => h3 ((pickR_iff _ _ _).1 h').1))
            rintro _ rfl
            refine Ok.ite (fun h4 => next (Bool.eq_false_iff.2 fun h' => by have := ((pickR_iff _ _ _).1 h').2; rw [h4] at this; cases this)) (fun h4 => ?_)
            have hpc : pickR m (fAt f i).f0 (sAt r c) = true := (pickR_iff _ _ _).2 ⟨h3, Bool.eq_false_iff.2 h4⟩
            have hrc : ruleN r m (fAt f i).f0 = (c : Int) := idxOf_hit _ r z41 c (by omega) hpc hinv
            have hk0 : ¬ ruleN r m (fAt f i).f0 < 0 := by omega
            obtain ⟨k, t, g1, hkl, hs0, hs1, e2, htl, htn, htm, hte, hx, hd, hu0, hu1⟩ := rule_used v w (show i < p.length by omega) hc hk0
            obtain rfl : k = c := by omega
            refine Ok.step (fun k => by simp only [spec_SwapNeeds.j4]; rfl) (Ok.neg (by omega) (Ok.pos (by omega) (Ok.pos (by omega) (Ok.bind (l5Find_ok f _ hf) ?_))))
            rintro _ rfl
            rw [sAt_rd, e2]
            refine Ok.pos (by omega) (Ok.pos (by omega) (Ok.val (Ok.pos (by omega) (Ok.pos (by omega) (Ok.pos (by omega) ?_)))))
            rw [rd_nat, (up_ok hx.1 hx.2 hd ⟨hu0, hu1⟩).2]
            refine Ok.val ?_
            rw [Int.toNat_natCast, Int.toNat_natCast, rd_nat, put_val inv w (by omega) htl htn hu0 hu1, wrap_id (n := (i : Int) + 1) (by omega) (by omega)]
            refine ih _ ?_
            rw [hnext, stepN, if_pos hc, if_neg hk0, g1, Int.toNat_natCast, e2, Int.toNat_natCast]
        exact scan r.length 0 (by omega) (fun j hj => absurd hj (by omega))
      · rw [decide_eq_false h2]
        exact skip fun h' => h'.1 (by omega)
    · intro o hs
      have hi := swp_inv m v w f.length (by omega) o hs
      have hn := nv_iff (r := r) w hi
      have ho := hi.1
      refine Ok.step (fun k => by simp only [spec_SwapNeeds.l0]; rfl) (Ok.neg (by omega) (Ok.bind (sNeeds_ok f o hf (by omega)) fun b3 hb3 => Ok.ite (fun h3 => Ok.ret (hfin _ ?_)) (fun h3 => Ok.ret (hfin _ ?_))))
      · rw [swpOut, hs]
        simp only
        rw [if_pos (hn.1 (hb3.1 h3))]
      · rw [swpOut, hs]
        simp only
        rw [if_neg fun h' => h3 (hb3.2 (hn.2 h'))]
end Go.Proofs.Ytglddjbcaknnaaa.Pure
/- The rules from a food, in the program and in the reference. Condition: at most 2,000,000 rules and foods. -/
namespace Go.Proofs.Ytglddjbcaknnaaa.Pure
open Go.RowKit Go.Proofs.YtglddjbcaknnaaaW.PrintWords Go.Proofs.YtglddjbcaknnaaaW.PrintLast Go.Proofs.Ytglddjbcaknnaaa.Q
set_option linter.unusedVariables false
set_option linter.unusedSimpArgs false
def forR (r : List Swp) (id : Int) : Nat → List Int
  | 0 => []
  | n + 1 => forR r id n ++ (if (sAt r n).f0 = id then [(n : Int)] else [])
theorem forR_len (r : List Swp) (id : Int) : ∀ n, (forR r id n).length ≤ n
  | 0 => Nat.le_refl _
  | n + 1 => by
    have := forR_len r id n
    unfold forR
    rw [List.length_append]
    split <;> simp <;> omega
theorem forR_mem (r : List Swp) (id : Int) : ∀ n (x : Int), x ∈ forR r id n ↔ ∃ i : Nat, i < n ∧ x = i ∧ (sAt r i).f0 = id
  | 0, x => ⟨fun h => (by cases h), fun ⟨i, h, _⟩ => absurd h (by omega)⟩
  | n + 1, x => by
    unfold forR
    rw [List.mem_append, forR_mem r id n x]
    constructor
    · rintro (⟨i, h1, h2, h3⟩ | h)
      · exact ⟨i, by omega, h2, h3⟩
      · by_cases e : (sAt r n).f0 = id
        · rw [if_pos e] at h
          exact ⟨n, by omega, by simpa using h, e⟩
        · rw [if_neg e] at h; cases h
    · rintro ⟨i, h1, h2, h3⟩
      rcases Nat.lt_succ_iff_lt_or_eq.1 h1 with h4 | rfl
      · exact .inl ⟨i, h4, h2, h3⟩
      · right; rw [if_pos h3]; simp [h2]
/-- the first of them -/
theorem forR_first (r : List Swp) (id : Int) (k : Nat) (h : (sAt r k).f0 = id) (hn : ∀ j, j < k → (sAt r j).f0 ≠ id) : ∀ n, k < n → ∃ t, forR r id n = (k : Int) :: t
  | 0, h => absurd h (by omega)
  | n + 1, hk => by
    rcases Nat.lt_succ_iff_lt_or_eq.1 hk with h1 | rfl
    · obtain ⟨t, e⟩ := forR_first r id k h hn n h1
      exact ⟨t ++ (if (sAt r n).f0 = id then [(n : Int)] else []), by rw [forR, e]; rfl⟩
    · have e0 : forR r id k = [] := by
        refine List.eq_nil_iff_forall_not_mem.2 fun x hx => ?_
        obtain ⟨i, h1, _, h3⟩ := (forR_mem r id k x).1 hx
        exact hn i h1 h3
      exact ⟨[], by rw [forR, e0, if_pos h]; rfl⟩
def ForR (r : List Swp) (f : List Fd) (id : Int) (o : List Int) : Prop := (SV r f → o = forR r id r.length) ∧ (¬ SV r f → o = [])
theorem ForR.eq {r : List Swp} {f : List Fd} {id : Int} {a b : List Int} (h : ForR r f id a) (k : ForR r f id b) : a = b := by
  by_cases v : SV r f
  · rw [h.1 v, k.1 v]
  · rw [h.2 v, k.2 v]
theorem ForR.len {r : List Swp} {f : List Fd} {id : Int} {a : List Int} (h : ForR r f id a) : a.length ≤ r.length := by
  by_cases v : SV r f
  · rw [h.1 v]; exact forR_len r id _
  · rw [h.2 v]; simp
theorem iFor_ok (r : List Swp) (f : List Fd) (id : Int) (hr : r.length ≤ 2000000) (hf : f.length ≤ 2000000) : Ok (fun k => impl_SwapsFor.f k r f id) (ForR r f id) := by
  unfold impl_SwapsFor.f
  simp only [Option.bind_some]
  refine Ok.bind (iSwaps_ok r f hf) fun b hb => Ok.ite (fun h => ?_) (fun h => Ok.ret ⟨fun h' => absurd (hb.2 h') h, fun _ => rfl⟩)
  refine Ok.range (fun (a : List Int) i k => impl_SwapsFor.l0 k id a r (r.length : Int) i) r.length (fun i a => a = forR r id i) _ ?_ ?_ [] rfl
  · rintro i _ hi rfl ih
    have hl := forR_len r id i
    refine Ok.step (fun k => by simp only [impl_SwapsFor.l0]; rfl) (Ok.pos (by omega) (Ok.pos (by omega) (Ok.pos (by omega) ?_)))
    rw [sAt_rd, wrap_id (n := (i : Int) + 1) (by omega) (by omega)]
    refine Ok.ite (fun h => Ok.pos (by omega) (ih _ ?_)) (fun h => ih _ ?_)
    · rw [forR, if_pos h]
    · rw [forR, if_neg h, List.append_nil]
  · rintro _ rfl
    exact Ok.step (fun k => by simp only [impl_SwapsFor.l0]; rfl) (Ok.neg (by omega) (Ok.ret ⟨fun _ => rfl, fun h' => absurd (hb.1 h) h'⟩))
theorem sFor_ok (r : List Swp) (f : List Fd) (id : Int) (hr : r.length ≤ 2000000) (hf : f.length ≤ 2000000) : Ok (fun k => spec_SwapsFor.f k r f id) (ForR r f id) := by
  unfold spec_SwapsFor.f
  by_cases v : SV r f
  · refine Ok.range (fun (a : List Int) i k => spec_SwapsFor.l0 k r f id a i) r.length (fun i a => a = forR r id i) _ ?_ ?_ [] rfl
    · rintro i _ hi rfl ih
      have hl := forR_len r id i
      refine Ok.step (fun k => by simp only [spec_SwapsFor.l0]; rfl) (Ok.pos (by omega) (Ok.bind (sSwaps_ok r f hr hf) fun b hb => ?_))
      refine Ok.step (fun k => by simp only [spec_SwapsFor.j1]; rfl) (Ok.pos (hb.2 v) (Ok.pos (by omega) (Ok.pos (by omega) ?_)))
      rw [sAt_rd, wrap_id (n := (i : Int) + 1) (by omega) (by omega)]
      refine Ok.ite (fun h => Ok.pos (by omega) (ih _ ?_)) (fun h => ih _ ?_)
      · rw [forR, if_pos h]
      · rw [forR, if_neg h, List.append_nil]
    · rintro _ rfl
      refine Ok.step (fun k => by simp only [spec_SwapsFor.l0]; rfl) (Ok.neg (by omega) ?_)
      exact Ok.step (fun k => by simp only [spec_SwapsFor.j1]; rfl) (Ok.neg (by simp) (Ok.ret ⟨fun _ => rfl, fun h => absurd v h⟩))
  · refine Ok.step (fun k => by simp only [spec_SwapsFor.l0]; rfl) (Ok.ite (fun h => Ok.bind (sSwaps_ok r f hr hf) fun b hb => ?_) (fun h => ?_))
    · exact Ok.step (fun k => by simp only [spec_SwapsFor.j1]; rfl) (Ok.neg (fun h => v (hb.1 h)) (Ok.ret ⟨fun h' => absurd h' v, fun _ => rfl⟩))
    · exact Ok.step (fun k => by simp only [spec_SwapsFor.j1]; rfl) (Ok.neg (by simp) (Ok.ret ⟨fun h' => absurd h' v, fun _ => rfl⟩))
end Go.Proofs.Ytglddjbcaknnaaa.Pure
/- Needs in which missing foods are replaced: none missing, one missing. Conditions: valid rules and needs. -/
namespace Go.Proofs.Ytglddjbcaknnaaa.Pure
open Go.RowKit Go.Proofs.YtglddjbcaknnaaaW.PrintWords Go.Proofs.YtglddjbcaknnaaaW.PrintLast Go.Proofs.Ytglddjbcaknnaaa.Q
set_option linter.unusedVariables false
set_option linter.unusedSimpArgs false
theorem swp_skip (r : List Swp) (f : List Fd) (p m : List Int) : ∀ n, (∀ j, j < n → p.getD j 0 = 0 ∨ hasI m (fAt f j).f0 = false) → swpN r f p m n = some p
  | 0, _ => rfl
  | n + 1, h => by
    rw [swpN, swp_skip r f p m n fun j hj => h j (by omega)]
    show stepN r f p m n p = some p
    unfold stepN
    rw [if_neg]
    rintro ⟨h1, h2⟩
    rcases h n (by omega) with h3 | h3
    · exact h1 h3
    · rw [h2] at h3; cases h3
theorem res_skip {r : List Swp} {f : List Fd} {p m : List Int} (v : SV r f) (w : NV f p) (h : ∀ j, j < f.length → p.getD j 0 = 0 ∨ hasI m (fAt f j).f0 = false) {x : List Int × Bool} (hx : SwRes r f p m x) : x = (p, true) := by
  rw [hx.1 ⟨v, w⟩, swpOut, swp_skip r f p m f.length h]
  simp only
  rw [if_pos fun j hj => ((inr_iff _ _ _).1 (w.2.2 j hj)).2]
/-- a later step leaves a place alone that is neither its own nor its target -/
theorem swp_after (r : List Swp) (f : List Fd) (p m : List Int) (k : Nat) (o : List Int) (h0 : swpN r f p m (k + 1) = some o) : ∀ n, k + 1 ≤ n → (∀ j, k + 1 ≤ j → j < n → hasI m (fAt f j).f0 = false) → swpN r f p m n = some o
  | 0, h, _ => absurd h (by omega)
  | n + 1, h, hm => by
    rcases Nat.eq_or_lt_of_le h with e | h1
    · rw [← e]; exact h0
    · rw [swpN, swp_after r f p m k o h0 n (by omega) fun j h2 h3 => hm j h2 (by omega)]
      show stepN r f p m n o = some o
      unfold stepN
      rw [if_neg]
      rintro ⟨_, h2⟩
      rw [hm n (by omega) (by omega)] at h2
      cases h2
theorem swp_pre {r : List Swp} {f : List Fd} {p m : List Int} {n : Nat} {o : List Int} (h : swpN r f p m n = some o) (i : Nat) (hi : i < n) : ∃ o1 o2, swpN r f p m i = some o1 ∧ stepN r f p m i o1 = some o2 := by
  induction n generalizing o with
  | zero => omega
  | succ n ih =>
    obtain ⟨o1, h1, h2⟩ := Option.bind_eq_some_iff.1 h
    rcases Nat.lt_succ_iff_lt_or_eq.1 hi with h3 | rfl
    · exact ih h1 h3
    · exact ⟨o1, o, h1, h2⟩
theorem up_is (x d : Int) (hx : 1 ≤ x) (hd : 1 ≤ d) : upN x d * d ≥ x ∧ (upN x d - 1) * d < x := by
  unfold upN
  rw [Int.tdiv_eq_ediv_of_nonneg (by omega)]
  have h1 := Int.mul_ediv_add_emod (x + d - 1) d
  have h2 := Int.emod_nonneg (x + d - 1) (show d ≠ 0 by omega)
  have h3 := Int.emod_lt_of_pos (x + d - 1) (show 0 < d by omega)
  rw [Int.sub_mul, Int.one_mul, Int.mul_comm]
  omega
/-- one food is missing: its first rule counts -/
theorem swp_one {r : List Swp} {f : List Fd} {p : List Int} {m0 : Int} (v : SV r f) (w : NV f p) {o : List Int} (h : swpN r f p [m0] f.length = some o) (k : Nat) (hk : k < f.length) (ek : (fAt f k).f0 = m0) (hp : p.getD k 0 ≠ 0) :
    ∃ q t : Nat, q < r.length ∧ (sAt r q).f0 = m0 ∧ (∀ j, j < q → (sAt r j).f0 ≠ m0) ∧ fPl f (sAt r q).f1 = t ∧ t < p.length ∧ o.getD t 0 = p.getD t 0 + upN (p.getD k 0 * (sAt r q).f2) (sAt r q).f3 ∧ 1 ≤ p.getD k 0 * (sAt r q).f2 ∧ p.getD k 0 * (sAt r q).f2 ≤ 8999991 ∧ (1 ≤ (sAt r q).f3 ∧ (sAt r q).f3 ≤ 9) ∧ upN (p.getD k 0 * (sAt r q).f2) (sAt r q).f3 ≤ 8999999 ∧ 0 ≤ upN (p.getD k 0 * (sAt r q).f2) (sAt r q).f3 := by
  have hh : ∀ x, hasI [m0] x = true ↔ x = m0 := fun x => by rw [hasI_mem]; simp
  have hne : ∀ j, j < f.length → j ≠ k → hasI [m0] (fAt f j).f0 = false := fun j hj hjk => Bool.eq_false_iff.2 fun h' => by
    have e := (hh _).1 h'
    rcases Nat.lt_or_gt_of_ne hjk with h1 | h1
    · have := food_lt v.1 k j h1 hk; omega
    · have := food_lt v.1 j k h1 hj; omega
  have hkp : k < p.length := by rw [w.2.1]; exact hk
  have hmk : hasI [m0] (fAt f k).f0 = true := (hh _).2 ek
  obtain ⟨o1, o2, h1, h2⟩ := swp_pre h k hk
  have e1 : swpN r f p [m0] k = some p := swp_skip r f p [m0] k fun j hj => .inr (hne j (by omega) (by omega))
  obtain rfl : o1 = p := by rw [e1] at h1; exact (Option.some.inj h1).symm
  have h3 : swpN r f o1 [m0] (k + 1) = some o2 := by rw [swpN, e1]; exact h2
  have h4 := swp_after r f o1 [m0] k o2 h3 f.length (by omega) fun j hj hj' => hne j hj' (by omega)
  obtain rfl : o2 = o := by rw [h] at h4; exact (Option.some.inj h4).symm
  have hc : o1.getD k 0 ≠ 0 ∧ hasI [m0] (fAt f k).f0 = true := ⟨hp, hmk⟩
  have hk0 : ¬ ruleN r [m0] (fAt f k).f0 < 0 := fun h' => by
    unfold stepN at h2
    rw [if_pos hc, if_pos h'] at h2
    cases h2
  obtain ⟨q, t, e2, hq, hs0, hs1, e3, htl, htn, htm, hte, hx, hd, hu0, hu1⟩ := rule_used v w hkp hc hk0
  refine ⟨q, t, hq, by rw [hs0, ek], fun j hj e => ?_, e3, htl, ?_, hx.1, hx.2, hd, hu1, hu0⟩
  · rcases ruleN_is r [m0] (fAt f k).f0 with ⟨e4, _⟩ | ⟨q2, e4, hq2, hp2, hn2⟩
    · omega
    · obtain rfl : q = q2 := by omega
      have := hn2 j hj
      have hg := (v.2.2 j (by omega)).1
      have hp3 : pickR [m0] (fAt f k).f0 (sAt r j) = true := (pickR_iff _ _ _).2 ⟨by rw [e, ek], Bool.eq_false_iff.2 fun h' => hg (by rw [e]; exact ((hh _).1 h').symm)⟩
      rw [hp3] at this
      cases this
  · unfold stepN at h2
    rw [if_pos hc, if_neg hk0, e2, Int.toNat_natCast, e3, Int.toNat_natCast] at h2
    obtain rfl := Option.some.inj h2
    rw [getD_set _ _ _ _ _ (by simp; omega), if_pos rfl, getD_set _ _ _ _ _ hkp, if_neg htn]
/-- a missing food that is needed has a rule to one that is not -/
theorem swp_some {r : List Swp} {f : List Fd} {p m : List Int} {o : List Int} (h : swpN r f p m f.length = some o) (i : Nat) (hi : i < f.length) (hp : p.getD i 0 ≠ 0) (hm : hasI m (fAt f i).f0 = true) : ∃ q : Nat, q < r.length ∧ (sAt r q).f0 = (fAt f i).f0 ∧ hasI m (sAt r q).f1 = false := by
  obtain ⟨o1, o2, h1, h2⟩ := swp_pre h i hi
  unfold stepN at h2
  rw [if_pos ⟨hp, hm⟩] at h2
  by_cases hk : ruleN r m (fAt f i).f0 < 0
  · rw [if_pos hk] at h2; cases h2
  · rcases ruleN_is r m (fAt f i).f0 with ⟨e, _⟩ | ⟨q, _, hq, hpq, _⟩
    · omega
    · exact ⟨q, hq, (pickR_iff _ _ _).1 hpq⟩
end Go.Proofs.Ytglddjbcaknnaaa.Pure
/- The reader of draws: each pick answers a number in its range and goes one place on. Condition: the bytes are bytes. -/
namespace Go.Proofs.Ytglddjbcaknnaaa.Pure
open Go.RowKit Go.Proofs.YtglddjbcaknnaaaW.PrintWords Go.Proofs.YtglddjbcaknnaaaW.PrintLast Go.Proofs.Ytglddjbcaknnaaa.Q
set_option linter.unusedVariables false
set_option linter.unusedSimpArgs false

def Bytes (b : List Int) : Prop := ∀ x ∈ b, 0 ≤ x ∧ x ≤ 255
theorem rd_byte {b : List Int} (h : Bytes b) (i : Int) : 0 ≤ rd b i ∧ rd b i ≤ 255 := by
  unfold rd
  rw [List.getD_eq_getElem?_getD]
  by_cases hi : i.toNat < b.length
  · rw [List.getElem?_eq_getElem hi]
    exact h _ (List.getElem_mem hi)
  · rw [List.getElem?_eq_none (by omega)]
    simp
theorem xor_nonneg (x y : Int) (hx : 0 ≤ x) (hx' : x < 4611686018427387904) (hy : 0 ≤ y) (hy' : y < 4611686018427387904) : 0 ≤ Go.bits .xor .i64 x y := by
  obtain ⟨a, rfl⟩ := Int.eq_ofNat_of_zero_le hx
  obtain ⟨b, rfl⟩ := Int.eq_ofNat_of_zero_le hy
  have ha : a < 2 ^ 62 := by omega
  have hb : b < 2 ^ 62 := by omega
  have hx := Nat.xor_lt_two_pow ha hb
  have ha' : a % 2 ^ 64 = a := Nat.mod_eq_of_lt (by omega)
  have hb' : b % 2 ^ 64 = b := Nat.mod_eq_of_lt (by omega)
  show 0 ≤ IntKind.i64.wrap ((BitVec.ofInt 64 (a : Int) ^^^ BitVec.ofInt 64 (b : Int)).toNat : Int)
  rw [IntKind.wrap_i64]
  simp only [BitVec.ofInt_natCast, BitVec.toNat_xor, BitVec.toNat_ofNat, ha', hb']
  omega
theorem mix_range (r1 r2 p t : Int) (h1 : 0 ≤ r1 ∧ r1 ≤ 255) (h2 : 0 ≤ r2 ∧ r2 ≤ 255) (hp : 0 ≤ p ∧ p ≤ 1099511627776) (ht : 0 ≤ t ∧ t ≤ 1099511627776) :
    wrap64 ((wrap64 ((wrap64 ((wrap64 ((wrap64 r1) * 131)) + (wrap64 ((wrap64 r2) * 1117)))) + (wrap64 (p * 29)))) + (wrap64 ((wrap64 t) * 53))) = r1 * 131 + r2 * 1117 + p * 29 + t * 53 := by
  rw [wrap_id (n := r1) (by omega) (by omega), wrap_id (n := r2) (by omega) (by omega), wrap_id (n := t) (by omega) (by omega)]
  rw [wrap_id (n := r1 * 131) (by omega) (by omega), wrap_id (n := r2 * 1117) (by omega) (by omega), wrap_id (n := p * 29) (by omega) (by omega), wrap_id (n := t * 53) (by omega) (by omega)]
  rw [wrap_id (n := r1 * 131 + r2 * 1117) (by omega) (by omega), wrap_id (n := r1 * 131 + r2 * 1117 + p * 29) (by omega) (by omega), wrap_id (by omega) (by omega)]
theorem tmod_range (x n : Int) (hx : 0 ≤ x) (hn : 1 ≤ n) : 0 ≤ Int.tmod x n ∧ Int.tmod x n < n :=
  ⟨Int.tmod_nonneg _ hx, Int.tmod_lt_of_pos _ (by omega)⟩
theorem tdiv_range (x n : Int) (hx : 0 ≤ x) (hn : 1 ≤ n) : 0 ≤ Int.tdiv x n ∧ Int.tdiv x n ≤ x := by
  refine ⟨Int.tdiv_nonneg hx (by omega), ?_⟩
  rw [Int.tdiv_eq_ediv_of_nonneg hx]
  exact Int.ediv_le_self _ hx

/-- What a pick says. -/
def Picked (p n : Int) (r : Int × Int) : Prop := r.2 = p + 1 ∧ 0 ≤ r.1 ∧ (1 ≤ n → r.1 < n) ∧ (n < 1 → r.1 = 0)
theorem pick_ok (b : List Int) (p n : Int) (hb : Bytes b) (hp : 0 ≤ p) (hp' : p ≤ 1099511627776) (hn : n ≤ 1000000000) : Ok (fun k => spec_l6Rd_pick.f k b p n) (Picked p n) := by
  unfold spec_l6Rd_pick.f
  rw [wrap_id (n := p + 1) (by omega) (by omega)]
  by_cases h1 : n < 1
  · refine Ok.pos h1 (Ok.step (fun k => by simp only [spec_l6Rd_pick.j0, if_true]; rfl) (Ok.ret ⟨rfl, by simp, fun h => absurd h (by omega), fun _ => rfl⟩))
  refine Ok.neg h1 ?_
  by_cases hl : (b.length : Int) = 0
  · rw [show ((b.length : Int) == 0) = true by simpa using hl]
    refine Ok.step (fun k => by simp only [spec_l6Rd_pick.j0, if_true]; rfl) (Ok.ret ⟨rfl, by simp, fun h => by omega, fun _ => rfl⟩)
  rw [show ((b.length : Int) == 0) = false by simpa using hl]
  have hlp : 1 ≤ (b.length : Int) := by omega
  refine Ok.step (f := _) (fun k => by simp only [spec_l6Rd_pick.j0]; rfl) ?_
  refine Ok.neg (by simp) ?_
  rw [show p + 1 - 1 = p by omega, wrap_id (n := p) (by omega) (by omega)]
  by_cases hlt : p < (b.length : Int)
  · refine Ok.pos hlt (Ok.pos hp (Ok.neg (by omega) (Ok.ret ?_)))
    have hr := rd_byte hb p
    rw [wrap_id (n := rd b p) (by omega) (by omega)]
    have := tmod_range (rd b p) n hr.1 (by omega)
    exact ⟨rfl, this.1, fun _ => this.2, fun h => absurd h h1⟩
  · have hm := tmod_range p b.length hp hlp
    have hq : wrap64 ((wrap64 (p * 7)) + 3) = p * 7 + 3 := by
      rw [wrap_id (n := p * 7) (by omega) (by omega), wrap_id (by omega) (by omega)]
    have hm2 := tmod_range (p * 7 + 3) b.length (by omega) hlp
    have ht := tdiv_range p b.length hp hlp
    rw [hq]
    refine Ok.neg hlt (Ok.neg hl (Ok.pos hm.1 (Ok.pos hm.2 (Ok.pos hm2.1 (Ok.pos hm2.2 (Ok.neg (by omega) (Ok.ret ?_)))))))
    rw [mix_range _ _ p _ (rd_byte hb _) (rd_byte hb _) ⟨hp, hp'⟩ ⟨ht.1, by omega⟩]
    have a1 := rd_byte hb (Int.tmod p b.length)
    have a2 := rd_byte hb (Int.tmod (p * 7 + 3) b.length)
    generalize rd b (Int.tmod p b.length) = r1 at *
    generalize rd b (Int.tmod (p * 7 + 3) b.length) = r2 at *
    generalize Int.tdiv p b.length = t at *
    have hx : 0 ≤ r1 * 131 + r2 * 1117 + p * 29 + t * 53 := by omega
    have hx' : r1 * 131 + r2 * 1117 + p * 29 + t * 53 < 4611686018427387904 := by omega
    generalize r1 * 131 + r2 * 1117 + p * 29 + t * 53 = x at *
    have h64 := tdiv_range x 64 hx (by omega)
    rw [wrap_id (n := Int.tdiv x 64) (by omega) (by omega)]
    have := tmod_range (Go.bits .xor .i64 x (Int.tdiv x 64)) n (xor_nonneg _ _ hx hx' h64.1 (by omega)) (by omega)
    exact ⟨rfl, this.1, fun _ => this.2, fun h => absurd h h1⟩
/-- The same, the number of answers at least one. -/
def Pk (p n : Int) (r : Int × Int) : Prop := r.2 = p + 1 ∧ 0 ≤ r.1 ∧ r.1 < n
theorem pick_in (b : List Int) (p n : Int) (hb : Bytes b) (hp : 0 ≤ p) (hp' : p ≤ 1099511627776) (hn : 1 ≤ n) (hn' : n ≤ 1000000000) : Ok (fun k => spec_l6Rd_pick.f k b p n) (Pk p n) :=
  (pick_ok b p n hb hp hp' hn').mono fun _ h => ⟨h.1, h.2.1, h.2.2.1 hn⟩
/-- a place that went on by some, not far -/
def On (p : Int) (m : Int) (q : Int) : Prop := p ≤ q ∧ q ≤ p + m
theorem open_ok (l : List Int) (hl : ∀ x ∈ l, (Lit.int .u8 x).wf = true) : ∃ b, spec_l6Open.f l = some (b, 0) ∧ Bytes b := by
  have hb : Bytes l := fun x hx => wfu8 (hl x hx)
  unfold spec_l6Open.f
  by_cases h : (l.length : Int) > 2000
  · rw [if_pos h, if_pos (by omega)]
    exact ⟨_, rfl, fun x hx => hb x (List.mem_of_mem_take hx)⟩
  · rw [if_neg h]
    exact ⟨_, rfl, hb⟩
end Go.Proofs.Ytglddjbcaknnaaa.Pure
/- The weight of an allergen: two to the power of its number, up to 8. -/
namespace Go.Proofs.Ytglddjbcaknnaaa.Pure
open Go.RowKit Go.Proofs.YtglddjbcaknnaaaW.PrintWords Go.Proofs.YtglddjbcaknnaaaW.PrintLast Go.Proofs.Ytglddjbcaknnaaa.Q
set_option linter.unusedVariables false
set_option linter.unusedSimpArgs false

theorem pow_le (i : Nat) (h : i ≤ 8) : (1 : Int) ≤ 2 ^ i ∧ (2 : Int) ^ i ≤ 256 := by
  have h1 : 2 ^ i ≤ 2 ^ 8 := Nat.pow_le_pow_right (by decide) h
  have h2 : 0 < 2 ^ i := Nat.two_pow_pos i
  constructor
  · have : ((2 ^ i : Nat) : Int) = (2 : Int) ^ i := by simp
    omega
  · have : ((2 ^ i : Nat) : Int) = (2 : Int) ^ i := by simp
    omega
theorem weight_ok (n : Nat) (h : n ≤ 8) : Ok (fun k => spec_l3Weight.f k (n : Int)) (· = (2 : Int) ^ n) := by
  unfold spec_l3Weight.f
  refine Ok.range (fun (s : Int) i k => spec_l3Weight.l0 k (n : Int) s i) n (fun i s => s = 2 ^ i) _ ?_ ?_ 1 rfl
  · rintro i _ hi rfl ih
    have hp := pow_le i (by omega)
    refine Ok.step (fun k => by simp only [spec_l3Weight.l0]; rfl) (Ok.pos (by omega) ?_)
    rw [wrap_id (n := (i : Int) + 1) (by omega) (by omega), wrap_id (n := 2 * 2 ^ i) (by omega) (by omega)]
    exact ih _ (by rw [Int.pow_succ, Int.mul_comm])
  · rintro _ rfl
    exact Ok.step (fun k => by simp only [spec_l3Weight.l0]; rfl) (Ok.neg (by omega) (Ok.ret rfl))
end Go.Proofs.Ytglddjbcaknnaaa.Pure
/- Drawn foods: at most 7. Condition: the bytes are bytes. -/
namespace Go.Proofs.Ytglddjbcaknnaaa.Pure
open Go.RowKit Go.Proofs.YtglddjbcaknnaaaW.PrintWords Go.Proofs.YtglddjbcaknnaaaW.PrintLast Go.Proofs.Ytglddjbcaknnaaa.Q
set_option linter.unusedVariables false
set_option linter.unusedSimpArgs false
theorem l91Food_ok (b : List Int) (p a : Int) (hB : Bytes b) (hp : 0 ≤ p) (hp' : p ≤ 1000000) : Ok (fun k => spec_l91Food.f k b p a) (fun r => On p 16 r.2.2.2.2.2.2) := by
  unfold spec_l91Food.f
  refine Ok.bind (pick_in b p 3 hB (by omega) (by omega) (by omega) (by omega)) ?_
  rintro ⟨v, q⟩ ⟨rfl, h0, h1⟩
  simp only at h0 h1 ⊢
  refine Ok.bind (pick_in b _ 5 hB (by omega) (by omega) (by omega) (by omega)) ?_
  rintro ⟨v2, q⟩ ⟨rfl, h2, h3⟩
  simp only at h2 h3 ⊢
  refine Ok.bind (pick_in b _ 200 hB (by omega) (by omega) (by omega) (by omega)) ?_
  rintro ⟨v3, q⟩ ⟨rfl, h4, h5⟩
  simp only at h4 h5 ⊢
  refine Ok.bind (pick_in b _ 250 hB (by omega) (by omega) (by omega) (by omega)) ?_
  rintro ⟨v4, q⟩ ⟨rfl, h6, h7⟩
  simp only at h6 h7 ⊢
  have key := Ok.range (fun (s : Int × Int × Int × Int × Int × Int × Int) i k => spec_l91Food.l0 k i b s.1 s.2.1 s.2.2.1 s.2.2.2.1 s.2.2.2.2.1 s.2.2.2.2.2.1 s.2.2.2.2.2.2) 8 (fun i s => p + 4 ≤ s.1 ∧ s.1 ≤ p + 4 + i) (fun r => On p 16 r.2.2.2.2.2.2) ?_ ?_ (p + 1 + 1 + 1 + 1, a, wrap64 (1 + v), 0, wrap64 (1 + v2), wrap64 (v3 * 4), v4) ⟨by simp only; omega, by simp only; omega⟩
  · exact key
  · rintro i ⟨q, x0, x1, x2, x3, x4, x5⟩ hi hs ih
    simp only at hs ih ⊢
    refine Ok.step (fun k => by simp only [spec_l91Food.l0]; rfl) (Ok.pos (by omega) (Ok.bind (pick_in b q 6 hB (by omega) (by omega) (by omega) (by omega)) ?_))
    rintro ⟨w, q2⟩ ⟨rfl, h8, h9⟩
    simp only at h8 h9 ⊢
    rw [wrap_id (n := (i : Int) + 1) (by omega) (by omega)]
    exact Ok.ite (fun _ => Ok.bind (weight_ok i (by omega)) fun w _ => ih (q + 1, _, _, _, _, _, _) (by simp only; omega)) (fun _ => ih (q + 1, _, _, _, _, _, _) (by simp only; omega))
  · rintro ⟨q, x0, x1, x2, x3, x4, x5⟩ hs
    simp only at hs ⊢
    refine Ok.step (fun k => by simp only [spec_l91Food.l0]; rfl) (Ok.neg (by omega) (Ok.bind (pick_in b q 60 hB (by omega) (by omega) (by omega) (by omega)) ?_))
    rintro ⟨w, q2⟩ ⟨rfl, h8, h9⟩
    simp only [Option.bind_some] at h8 h9 ⊢
    refine Ok.ite (fun _ => Ok.bind (pick_in b _ 2 hB (by omega) (by omega) (by omega) (by omega)) ?_) (fun _ => Ok.ite (fun _ => Ok.bind (pick_in b _ 2 hB (by omega) (by omega) (by omega) (by omega)) ?_) (fun _ => Ok.ite (fun _ => Ok.bind (pick_in b _ 3 hB (by omega) (by omega) (by omega) (by omega)) ?_) (fun _ => Ok.ret ⟨by simp only; omega, by simp only; omega⟩)))
    · rintro ⟨w2, q3⟩ ⟨rfl, h10, h11⟩
      exact Ok.ret ⟨by simp only; omega, by simp only; omega⟩
    · rintro ⟨w2, q3⟩ ⟨rfl, h10, h11⟩
      exact Ok.ret ⟨by simp only; omega, by simp only; omega⟩
    · rintro ⟨w2, q3⟩ ⟨rfl, h10, h11⟩
      simp only at h10 h11 ⊢
      exact Ok.pos h10 (Ok.pos (by simpa using h11) (Ok.ret ⟨by simp only; omega, by simp only; omega⟩))
theorem l91Foods_ok (b : List Int) (p : Int) (hB : Bytes b) (hp : 0 ≤ p) (hp' : p ≤ 100000) : Ok (fun k => spec_l91Foods.f k b p) (fun r => r.1.length ≤ 7 ∧ On p 200 r.2) := by
  unfold spec_l91Foods.f
  have key : ∀ d i : Nat, i + d = 8 → ∀ (xs : List S62) (q : Int), xs.length ≤ 6 → p ≤ q → q ≤ p + 18 * i → Ok (fun k => spec_l91Foods.l0 k xs ((i : Int) + 1) b q) (fun r => r.1.length ≤ 7 ∧ On p 200 r.2) := by
    intro d
    induction d with
    | zero =>
      intro i hi xs q hx h0 h1
      refine Ok.step (fun k => by simp only [spec_l91Foods.l0]; rfl) (Ok.neg (by omega) (Ok.ite (fun hpos => Ok.bind (pick_in b q 30 hB (by omega) (by omega) (by omega) (by omega)) ?_) (fun _ => Ok.ret ⟨by simp only; omega, by constructor <;> simp only <;> omega⟩)))
      rintro ⟨v, q2⟩ ⟨rfl, h2, h3⟩
      simp only at h2 h3 ⊢
      exact Ok.ite (fun _ => Ok.pos (by omega) (Ok.pos (by omega) (Ok.ret ⟨by simp; omega, by constructor <;> simp only <;> omega⟩))) (fun _ => Ok.ret ⟨by simp only; omega, by constructor <;> simp only <;> omega⟩)
    | succ d ih =>
      intro i hi xs q hx h0 h1
      refine Ok.step (fun k => by simp only [spec_l91Foods.l0]; rfl) (Ok.pos (by omega) (Ok.bind (pick_in b q 3 hB (by omega) (by omega) (by omega) (by omega)) ?_))
      rintro ⟨v, q2⟩ ⟨rfl, h2, h3⟩
      simp only at h2 h3 ⊢
      rw [wrap_id (n := (i : Int) + 1 + 1) (by omega) (by omega)]
      have e : ((i : Int) + 1 + 1) = (((i + 1 : Nat) : Int) + 1) := by omega
      rw [e]
      refine Ok.ite (fun _ => Ok.ite (fun h6 => Ok.bind (l91Food_ok b _ _ hB (by omega) (by omega)) ?_) (fun _ => ih (i + 1) (by omega) _ _ hx (by omega) (by omega))) (fun _ => ih (i + 1) (by omega) _ _ hx (by omega) (by omega))
      rintro ⟨x0, x1, x2, x3, x4, x5, q3⟩ ⟨h4, h5⟩
      simp only at h4 h5 ⊢
      exact Ok.pos (by omega) (ih (i + 1) (by omega) _ _ (by simp; omega) (by omega) (by omega))
  exact key 8 0 rfl [] p (by simp) (by omega) (by omega)
end Go.Proofs.Ytglddjbcaknnaaa.Pure
/- Drawn rules: at most 5. Condition: the bytes are bytes. -/
namespace Go.Proofs.Ytglddjbcaknnaaa.Pure
open Go.RowKit Go.Proofs.YtglddjbcaknnaaaW.PrintWords Go.Proofs.YtglddjbcaknnaaaW.PrintLast Go.Proofs.Ytglddjbcaknnaaa.Q
set_option linter.unusedVariables false
set_option linter.unusedSimpArgs false
theorem l91Rules_ok (b : List Int) (p : Int) (f : List S62) (hB : Bytes b) (hp : 0 ≤ p) (hp' : p ≤ 100000) (hf : f.length ≤ 7) : Ok (fun k => spec_l91Rules.f k b p f) (fun r => r.1.length ≤ 5 ∧ On p 40 r.2) := by
  unfold spec_l91Rules.f
  refine Ok.bind (pick_in b p 6 hB (by omega) (by omega) (by omega) (by omega)) ?_
  rintro ⟨v, q⟩ ⟨rfl, h0, h1⟩
  simp only at h0 h1 ⊢
  obtain ⟨n, rfl⟩ : ∃ n : Nat, v = (n : Int) := ⟨v.toNat, by omega⟩
  have last : ∀ (xs : List S41) (i : Int) (q : Int), xs.length ≤ 5 → p + 1 ≤ q → q ≤ p + 21 → Ok (fun k => spec_l91Rules.j1 k f xs (n : Int) i false b q) (fun r => r.1.length ≤ 5 ∧ On p 40 r.2) := by
    intro xs i q hx h2 h3
    refine Ok.step (fun k => by simp only [spec_l91Rules.j1]; rfl) (Ok.neg (by simp) (Ok.ite (fun hpos => Ok.bind (pick_in b q 24 hB (by omega) (by omega) (by omega) (by omega)) ?_) (fun _ => Ok.ret ⟨by simp only; omega, by constructor <;> simp only <;> omega⟩)))
    rintro ⟨v, q2⟩ ⟨rfl, h4, h5⟩
    simp only at h4 h5 ⊢
    refine Ok.ite (fun _ => Ok.bind (pick_in b _ 2 hB (by omega) (by omega) (by omega) (by omega)) ?_) (fun _ => Ok.ret ⟨by simp only; omega, by constructor <;> simp only <;> omega⟩)
    rintro ⟨v2, q3⟩ ⟨rfl, h6, h7⟩
    simp only at h6 h7 ⊢
    exact Ok.pos (by omega) (Ok.ret ⟨by simp only [List.length_set]; omega, by constructor <;> simp only <;> omega⟩)
  refine Ok.range (fun (s : List S41 × Int) i k => spec_l91Rules.l0 k f s.1 (n : Int) i b s.2) n (fun i s => s.1.length = i ∧ p + 1 ≤ s.2 ∧ s.2 ≤ p + 1 + 4 * i) _ ?_ ?_ ([], p + 1) (by simp)
  · rintro i ⟨xs, q⟩ hi ⟨h2, h3, h4⟩ ih
    simp only at h2 h3 h4 ih ⊢
    refine Ok.step (fun k => by simp only [spec_l91Rules.l0]; rfl) (Ok.pos (by omega) ?_)
    by_cases hf1 : (f.length : Int) > 1
    · rw [decide_eq_true hf1]
      refine Ok.step (fun k => by simp only [spec_l91Rules.j1]; rfl) (Ok.pos (by trivial) (Ok.bind (pick_in b q f.length hB (by omega) (by omega) (by omega) (by omega)) ?_))
      rintro ⟨v, q2⟩ ⟨rfl, h5, h6⟩
      simp only at h5 h6 ⊢
      rw [wrap_id (n := (f.length : Int) - 1) (by omega) (by omega)]
      refine Ok.bind (pick_in b _ ((f.length : Int) - 1) hB (by omega) (by omega) (by omega) (by omega)) ?_
      rintro ⟨v2, q2⟩ ⟨rfl, h7, h8⟩
      simp only at h7 h8 ⊢
      rw [wrap_id (n := v + 1) (by omega) (by omega), wrap_id (n := v + 1 + v2) (by omega) (by omega)]
      have ht := tmod_range (v + 1 + v2) f.length (by omega) (by omega)
      refine Ok.neg (by omega) (Ok.pos h5 (Ok.pos h6 (Ok.pos ht.1 (Ok.pos ht.2 (Ok.bind (pick_in b _ 9 hB (by omega) (by omega) (by omega) (by omega)) ?_)))))
      rintro ⟨v3, q3⟩ ⟨rfl, h9, h10⟩
      simp only at h9 h10 ⊢
      refine Ok.bind (pick_in b _ 9 hB (by omega) (by omega) (by omega) (by omega)) ?_
      rintro ⟨v4, q4⟩ ⟨rfl, h11, h12⟩
      simp only at h11 h12 ⊢
      rw [wrap_id (n := (i : Int) + 1) (by omega) (by omega)]
      exact Ok.pos (by omega) (ih (_, _) ⟨by simp [h2], by simp only; omega, by simp only; omega⟩)
    · rw [decide_eq_false hf1]
      exact last xs _ q (by omega) (by omega) (by omega)
  · rintro ⟨xs, q⟩ ⟨h2, h3, h4⟩
    simp only at h2 h3 h4 ⊢
    exact Ok.step (fun k => by simp only [spec_l91Rules.l0]; rfl) (Ok.neg (by omega) (last xs _ q (by omega) (by omega) (by omega)))
end Go.Proofs.Ytglddjbcaknnaaa.Pure
/- Drawn needs: at most one more than foods. Condition: the bytes are bytes. -/
namespace Go.Proofs.Ytglddjbcaknnaaa.Pure
open Go.RowKit Go.Proofs.YtglddjbcaknnaaaW.PrintWords Go.Proofs.YtglddjbcaknnaaaW.PrintLast Go.Proofs.Ytglddjbcaknnaaa.Q
set_option linter.unusedVariables false
set_option linter.unusedSimpArgs false
theorem l91Needs_ok (b : List Int) (p : Int) (f : List S62) (hB : Bytes b) (hp : 0 ≤ p) (hp' : p ≤ 100000) (hf : f.length ≤ 7) : Ok (fun k => spec_l91Needs.f k b p f) (fun r => r.1.length ≤ 8 ∧ On p 40 r.2) := by
  unfold spec_l91Needs.f
  refine Ok.range (fun (s : List Int × Int) i k => spec_l91Needs.l0 k f s.1 i b s.2) f.length (fun i s => s.1.length = i ∧ p ≤ s.2 ∧ s.2 ≤ p + 2 * i) _ ?_ ?_ ([], p) (by simp)
  · rintro i ⟨xs, q⟩ hi ⟨h2, h3, h4⟩ ih
    simp only at h2 h3 h4 ih ⊢
    refine Ok.step (fun k => by simp only [spec_l91Needs.l0]; rfl) (Ok.pos (by omega) (Ok.bind (pick_in b q 3 hB (by omega) (by omega) (by omega) (by omega)) ?_))
    rintro ⟨v, q2⟩ ⟨rfl, h5, h6⟩
    simp only at h5 h6 ⊢
    refine Ok.bind (pick_in b _ 250 hB (by omega) (by omega) (by omega) (by omega)) ?_
    rintro ⟨v2, q2⟩ ⟨rfl, h7, h8⟩
    simp only at h7 h8 ⊢
    rw [wrap_id (n := (i : Int) + 1) (by omega) (by omega)]
    exact Ok.pos (by omega) (ih (_, _) ⟨by simp [h2], by simp only; omega, by simp only; omega⟩)
  · rintro ⟨xs, q⟩ ⟨h2, h3, h4⟩
    simp only at h2 h3 h4 ⊢
    refine Ok.step (fun k => by simp only [spec_l91Needs.l0]; rfl) (Ok.neg (by omega) (Ok.bind (pick_in b q 30 hB (by omega) (by omega) (by omega) (by omega)) ?_))
    rintro ⟨v, q2⟩ ⟨rfl, h5, h6⟩
    simp only [Option.bind_some] at h5 h6 ⊢
    refine Ok.ite (fun _ => Ok.pos (by omega) (Ok.ret ⟨by simp; omega, by constructor <;> simp only <;> omega⟩)) (fun _ => Ok.ite (fun _ => Ok.ite (fun hpos => Ok.bind (pick_in b _ xs.length hB (by omega) (by omega) (by omega) (by omega)) ?_) (fun _ => Ok.ret ⟨by simp only; omega, by constructor <;> simp only <;> omega⟩)) (fun _ => Ok.ret ⟨by simp only; omega, by constructor <;> simp only <;> omega⟩))
    rintro ⟨v2, q3⟩ ⟨rfl, h7, h8⟩
    simp only at h7 h8 ⊢
    refine Ok.bind (pick_in b _ 3 hB (by omega) (by omega) (by omega) (by omega)) ?_
    rintro ⟨v3, q4⟩ ⟨rfl, h9, h10⟩
    simp only at h9 h10 ⊢
    exact Ok.pos h9 (Ok.pos (by simpa using h10) (Ok.pos h7 (Ok.pos h8 (Ok.ret ⟨by simp only [List.length_set]; omega, by constructor <;> simp only <;> omega⟩))))
end Go.Proofs.Ytglddjbcaknnaaa.Pure
/- Drawn rules, foods, needs and missing foods. Condition: the bytes are bytes. -/
namespace Go.Proofs.Ytglddjbcaknnaaa.Pure
open Go.RowKit Go.Proofs.YtglddjbcaknnaaaW.PrintWords Go.Proofs.YtglddjbcaknnaaaW.PrintLast Go.Proofs.Ytglddjbcaknnaaa.Q
set_option linter.unusedVariables false
set_option linter.unusedSimpArgs false
theorem drawSwapNeeds_ok (l : List Int) (hl : ∀ x ∈ l, (Lit.int .u8 x).wf = true) : Ok (fun k => spec_DrawSwapNeeds.f k l) (fun r => r.1.length ≤ 5 ∧ r.2.1.length ≤ 7 ∧ r.2.2.1.length ≤ 8 ∧ r.2.2.2.length ≤ 7) := by
  unfold spec_DrawSwapNeeds.f
  obtain ⟨b, hb, hB⟩ := open_ok l hl
  simp only [hb, Option.bind_some]
  refine Ok.bind (l91Foods_ok b 0 hB (by omega) (by omega)) ?_
  rintro ⟨f, p⟩ ⟨hf, hp⟩
  have hp1 := hp.1
  have hp2 := hp.2
  simp only at hf hp1 hp2 ⊢
  refine Ok.bind (l91Rules_ok b p f hB hp1 (by omega) hf) ?_
  rintro ⟨r, q⟩ ⟨hr, hq⟩
  have hq1 := hq.1
  have hq2 := hq.2
  simp only at hr hq1 hq2 ⊢
  refine Ok.bind (l91Needs_ok b q f hB (by omega) (by omega) hf) ?_
  rintro ⟨n, q'⟩ ⟨hn, hq'⟩
  have hq3 := hq'.1
  have hq4 := hq'.2
  simp only at hn hq3 hq4 ⊢
  refine Ok.range (fun (s : List Int × Int) i k => spec_DrawSwapNeeds.l0 k f r n s.1 i b s.2) f.length (fun i s => s.1.length ≤ i ∧ 0 ≤ s.2 ∧ s.2 ≤ 1000 + i) _ ?_ ?_ ([], q') ⟨by simp, by simp only; omega, by simp only; omega⟩
  · rintro i ⟨a, q⟩ hi ⟨h1, h2, h3⟩ ih
    simp only at h1 h2 h3 ih ⊢
    refine Ok.step (fun k => by simp only [spec_DrawSwapNeeds.l0]; rfl) (Ok.pos (by omega) (Ok.bind (pick_in b q 4 hB (by omega) (by omega) (by omega) (by omega)) ?_))
    rintro ⟨v, q2⟩ ⟨rfl, h4, h5⟩
    simp only at h4 h5 ⊢
    rw [wrap_id (n := (i : Int) + 1) (by omega) (by omega)]
    exact Ok.ite (fun _ => Ok.pos (by omega) (Ok.pos (by omega) (ih (_, _) ⟨by simp; omega, by simp only; omega, by simp only; omega⟩))) (fun _ => ih (_, _) ⟨by simp only; omega, by simp only; omega, by simp only; omega⟩)
  · rintro ⟨a, q⟩ ⟨h1, h2, h3⟩
    simp only at h1 h2 h3 ⊢
    exact Ok.step (fun k => by simp only [spec_DrawSwapNeeds.l0]; rfl) (Ok.neg (by omega) (Ok.ret ⟨hr, hf, hn, by simp only; omega⟩))
end Go.Proofs.Ytglddjbcaknnaaa.Pure
/- Lists of whole numbers. Condition: at most 2,000,000 elements. -/
namespace Go.Proofs.Ytglddjbcaknnaaa.Pure
open Go.RowKit Go.Proofs.YtglddjbcaknnaaaW.PrintWords Go.Proofs.YtglddjbcaknnaaaW.PrintLast Go.Proofs.Ytglddjbcaknnaaa.Q
set_option linter.unusedVariables false
set_option linter.unusedSimpArgs false

theorem sameInts_ok (a b : List Int) (hl : a.length ≤ 2000000) : Ok (fun k => laws_sameInts.f k a b) (fun r => r = true ↔ a = b) := by
  unfold laws_sameInts.f
  by_cases h : a.length = b.length
  · refine Ok.pos (by omega) ?_
    refine Ok.range (fun (_ : Unit) i k => laws_sameInts.l0 k a b i) a.length (fun i _ => ∀ j, j < i → a.getD j 0 = b.getD j 0) _ ?_ ?_ () (fun j hj => absurd hj (by omega))
    · intro i _ hi hinv ih
      have ew : wrap64 ((i : Int) + 1) = (i : Int) + 1 := wrap_id (by omega) (by omega)
      refine Ok.step (fun k => by simp only [laws_sameInts.l0]; rfl) (Ok.pos (by omega) (Ok.pos (by omega) (Ok.pos (by omega) ?_)))
      rw [ew, rd_nat, rd_nat]
      refine Ok.ite (fun h1 => ih () fun j hj => ?_) (fun h1 => Ok.ret ⟨fun h' => (by cases h'), fun h' => absurd (by rw [h']) h1⟩)
      rcases Nat.lt_succ_iff_lt_or_eq.1 hj with h2 | rfl
      · exact hinv j h2
      · exact h1
    · intro _ hinv
      exact Ok.step (fun k => by simp only [laws_sameInts.l0]; rfl) (Ok.neg (by omega) (Ok.ret ⟨fun _ => eq_of_getD 0 h hinv, fun _ => rfl⟩))
  · exact Ok.neg (by omega) (Ok.ret ⟨fun h' => (by cases h'), fun h' => absurd (by rw [h']) h⟩)
end Go.Proofs.Ytglddjbcaknnaaa.Pure
/- The first rule counts: the law comes to true for every input. No conditions. -/
namespace Go.Proofs.Ytglddjbcaknnaaa.Pure
open Go.RowKit Go.Proofs.YtglddjbcaknnaaaW.PrintWords Go.Proofs.YtglddjbcaknnaaaW.PrintLast Go.Proofs.Ytglddjbcaknnaaa.Q
set_option linter.unusedVariables false
set_option linter.unusedSimpArgs false
theorem iFind_ok (f : List Fd) (id : Int) (v : FV f) : Ok (fun k => impl_FoodsFind.f k f id) (· = fPl f id) := by
  unfold impl_FoodsFind.f
  have hf : f.length ≤ 2000000 := by have := v.1; omega
  exact Ok.bind (iFoods_ok f hf) fun b hb => Ok.pos (hb.2 v) (Ok.ret rfl)
theorem FnSwapOne : laws_FnSwapOne.Pure := by
  intro l _ _ hl
  apply Ok.rounds
  unfold laws_FnSwapOne.f
  refine Ok.ite (fun _ => Ok.ret rfl) fun _ => Ok.bind (drawSwapNeeds_ok l hl) ?_
  rintro ⟨r, f, p, m⟩ ⟨hr, hf, hp, hm⟩
  simp only at hr hf hp hm ⊢
  refine Ok.bind (iSwap_ok r f p m (by omega)) ?_
  rintro ⟨o, b⟩ h1
  refine Ok.bind (sSwap_ok r f p m (by omega) (by omega) (by omega) (by omega)) fun r2 h2 => ?_
  rw [h2.eq h1]
  simp only
  have ho : o.length ≤ 2000000 := by have := h1.len; simp only at this; omega
  have stop : Ok (fun k => laws_FnSwapOne.j0 k r f p m o b o b true) (· = true) := Ok.step (fun k => by simp only [laws_FnSwapOne.j0]; rfl) (Ok.pos (by trivial) (Ok.pos (by simp) (Ok.bind (sameInts_ok o o ho) fun b2 hb2 => Ok.ret (hb2.2 rfl))))
  refine Ok.neg (by simp) (Ok.bind (sameInts_ok o o ho) fun b1 hb1 => Ok.pos (hb1.2 rfl) (Ok.ite (fun hb => ?_) (fun _ => stop)))
  subst hb
  by_cases hm1 : m.length = 1
  · rw [show ((m.length : Int) != 1) = false by simp [hm1]]
    obtain ⟨m0, rfl⟩ : ∃ m0, m = [m0] := by
      match m, hm1 with
      | [x], _ => exact ⟨x, rfl⟩
    obtain ⟨v, w, hs, wo⟩ := h1.ok
    have hl : p.length = f.length := w.2.1
    have hlo : o.length = f.length := wo.2.1
    have hh : ∀ x, hasI [m0] x = true ↔ x = m0 := fun x => by rw [hasI_mem]; simp
    have same : (∀ j, j < f.length → p.getD j 0 = 0 ∨ hasI [m0] (fAt f j).f0 = false) → ∀ k : Int, Ok (fun n => laws_FnSwapOne.j1 n r f p [m0] o k true) (· = true) := fun hc k => by
      have : o = p := by
        have e := swp_skip r f p [m0] f.length hc
        rw [hs] at e
        exact Option.some.inj e
      subst this
      exact Ok.step (fun k => by simp only [laws_FnSwapOne.j1]; rfl) (Ok.pos (by trivial) (Ok.bind (sameInts_ok o o ho) fun b2 hb2 => Ok.ret (hb2.2 rfl)))
    refine Ok.step (fun k => by simp only [laws_FnSwapOne.j0]; rfl) (Ok.neg (by simp) (Ok.pos (by simp) ?_))
    rw [show rd [m0] 0 = m0 from rfl]
    refine Ok.bind (iFind_ok f m0 v.1) ?_
    rintro _ rfl
    rcases fPl_is f m0 with ⟨e, hne⟩ | ⟨k, e, hk, hke, _⟩
    · rw [e]
      refine Ok.pos (by omega) (same (fun j hj => .inr (Bool.eq_false_iff.2 fun h' => hne j hj ((hh _).1 h'))) _)
    · rw [e]
      refine Ok.neg (by omega) (Ok.pos (by omega) (Ok.pos (by omega) ?_))
      rw [rd_nat]
      by_cases hp0 : p.getD k 0 = 0
      · rw [show (p.getD k 0 == 0) = true from beq_iff_eq.2 hp0]
        refine same (fun j hj => ?_) _
        by_cases ej : j = k
        · subst ej; exact .inl hp0
        · refine .inr (Bool.eq_false_iff.2 fun h' => ?_)
          have e2 := (hh _).1 h'
          rcases Nat.lt_or_gt_of_ne ej with h3 | h3
          · have := food_lt v.1 k j h3 hk; omega
          · have := food_lt v.1 j k h3 hj; omega
      · rw [show (p.getD k 0 == 0) = false from beq_eq_false_iff_ne.2 hp0]
        obtain ⟨q, t, hq, hq0, hqn, hqt, htl, hot, hx1, hx2, hd, hu1, hu0⟩ := swp_one v w hs k hk hke hp0
        refine Ok.step (fun k => by simp only [laws_FnSwapOne.j1]; rfl) (Ok.neg (by simp) (Ok.pos (by simp) ?_))
        rw [show rd [m0] 0 = m0 from rfl]
        refine Ok.bind (iFor_ok r f m0 (by omega) (by omega)) fun s hsf => ?_
        have es := hsf.1 v
        obtain ⟨tl, etl⟩ := forR_first r m0 q hq0 hqn r.length hq
        have es0 : s = (q : Int) :: tl := by rw [es, etl]
        have e0 : rd s 0 = (q : Int) := by rw [es0]; rfl
        have hsl : 0 < s.length := by rw [es0]; simp
        rw [e0]
        refine Ok.neg (by omega) (Ok.pos (by omega) (Ok.pos (by omega) (Ok.pos (by omega) ?_)))
        rw [sAt_rd]
        refine Ok.bind (iFind_ok f _ v.1) ?_
        rintro _ rfl
        rw [hqt]
        have hpt := (inr_iff _ _ _).1 (w.2.2 t htl)
        have hup := up_is _ _ hx1 hd.1
        have hm1 : 0 ≤ upN (p.getD k 0 * (sAt r q).f2) (sAt r q).f3 * (sAt r q).f3 := Int.mul_nonneg hu0 (by omega)
        have hm2 : upN (p.getD k 0 * (sAt r q).f2) (sAt r q).f3 * (sAt r q).f3 ≤ 8999999 * 9 := Int.mul_le_mul hu1 hd.2 (by omega) (by omega)
        have hm3 : (upN (p.getD k 0 * (sAt r q).f2) (sAt r q).f3 - 1) * (sAt r q).f3 = upN (p.getD k 0 * (sAt r q).f2) (sAt r q).f3 * (sAt r q).f3 - (sAt r q).f3 := by rw [Int.sub_mul, Int.one_mul]
        refine Ok.pos (by omega) (Ok.pos (by omega) (Ok.pos (by omega) (Ok.pos (by omega) (Ok.pos (by omega) ?_))))
        rw [rd_nat, rd_nat, rd_nat, hot, wrap_id (n := p.getD t 0 + upN (p.getD k 0 * (sAt r q).f2) (sAt r q).f3 - p.getD t 0) (by omega) (by omega), show p.getD t 0 + upN (p.getD k 0 * (sAt r q).f2) (sAt r q).f3 - p.getD t 0 = upN (p.getD k 0 * (sAt r q).f2) (sAt r q).f3 by omega, wrap_id (n := upN (p.getD k 0 * (sAt r q).f2) (sAt r q).f3 * (sAt r q).f3) (by omega) (by omega), wrap_id (n := p.getD k 0 * (sAt r q).f2) (by omega) (by omega), wrap_id (n := upN (p.getD k 0 * (sAt r q).f2) (sAt r q).f3 - 1) (by omega) (by omega), wrap_id (n := (upN (p.getD k 0 * (sAt r q).f2) (sAt r q).f3 - 1) * (sAt r q).f3) (by omega) (by omega)]
        exact Ok.pos hup.1 (Ok.ret (decide_eq_true hup.2))
  · rw [show ((m.length : Int) != 1) = true by simp; omega]
    exact stop
end Go.Proofs.Ytglddjbcaknnaaa.Pure
