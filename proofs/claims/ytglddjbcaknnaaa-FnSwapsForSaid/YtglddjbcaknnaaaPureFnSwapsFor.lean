/- Rules for a food are listed: the law comes to true for every input. No conditions. -/
import Derived.Test.YtglddjbcaknnaaaWMore
import Derived.Test.YtglddjbcaknnaaaQx2
import Derived.Test.YtglddjbcaknnaaaQx3
import Derived.Test.YtglddjbcaknnaaaQx14
import Derived.Test.YtglddjbcaknnaaaQx19
import Derived.Test.YtglddjbcaknnaaaQx20
import Derived.Test.YtglddjbcaknnaaaQx9
import Derived.Test.YtglddjbcaknnaaaQx12
import Derived.Test.YtglddjbcaknnaaaQx21
import Derived.Test.YtglddjbcaknnaaaQx22
import Derived.Test.YtglddjbcaknnaaaQx18
/- Plain logic for printed functions: from some number of rounds on a function answers, and its answer fits. No conditions. -/
namespace Go.Proofs.Ytglddjbcaknnaaa.Pure
open Go.RowKit Go.Proofs.YtglddjbcaknnaaaW.PrintWords Go.Proofs.YtglddjbcaknnaaaW.PrintLast

/-- g answers from some number of rounds on, and the answer is as Q says. -/
def Ok {α : Type} (g : Nat → Option α) (Q : α → Prop) : Prop := ∃ r, Ev g r ∧ Q r
theorem Ok.ret {α : Type} {r : α} {Q : α → Prop} (h : Q r) : Ok (fun _ => some r) Q := ⟨r, Ev.now r, h⟩
theorem Ok.of_eq {α : Type} {o : Option α} {r : α} {Q : α → Prop} (e : o = some r) (h : Q r) : Ok (fun _ => o) Q := by subst e; exact Ok.ret h
theorem Ok.bind {α β : Type} {g : Nat → Option α} {f : Nat → α → Option β} {P : α → Prop} {Q : β → Prop} (h : Ok g P) (k : ∀ a, P a → Ok (fun n => f n a) Q) : Ok (fun n => (g n).bind (f n)) Q := by
  obtain ⟨a, ha, hp⟩ := h
  obtain ⟨r, hr, hq⟩ := k a hp
  exact ⟨r, Ev.bind ha hr, hq⟩
theorem Ok.val {α β : Type} {a : α} {f : Nat → α → Option β} {Q : β → Prop} (h : Ok (fun n => f n a) Q) : Ok (fun n => (some a).bind (f n)) Q := h
theorem Ok.pos {α : Type} {c : Prop} [Decidable c] {t e : Nat → Option α} {Q : α → Prop} (hc : c) (h : Ok t Q) : Ok (fun n => if c then t n else e n) Q := by simpa only [if_pos hc] using h
theorem Ok.neg {α : Type} {c : Prop} [Decidable c] {t e : Nat → Option α} {Q : α → Prop} (hc : ¬ c) (h : Ok e Q) : Ok (fun n => if c then t n else e n) Q := by simpa only [if_neg hc] using h
theorem Ok.ite {α : Type} {c : Prop} [Decidable c] {t e : Nat → Option α} {Q : α → Prop} (h : c → Ok t Q) (k : ¬ c → Ok e Q) : Ok (fun n => if c then t n else e n) Q := by
  by_cases hc : c
  · exact Ok.pos hc (h hc)
  · exact Ok.neg hc (k hc)
theorem Ok.step {α : Type} {g f : Nat → Option α} {Q : α → Prop} (h : ∀ k, g (k + 1) = f k) (k : Ok f Q) : Ok g Q := by
  obtain ⟨r, hr, hq⟩ := k
  exact ⟨r, Ev.step h hr, hq⟩
theorem Ok.congr {α : Type} {g f : Nat → Option α} {Q : α → Prop} (h : ∀ k, g k = f k) (k : Ok f Q) : Ok g Q := by
  obtain ⟨r, hr, hq⟩ := k
  exact ⟨r, Ev.congr h hr, hq⟩
theorem Ok.mono {α : Type} {g : Nat → Option α} {P Q : α → Prop} (h : Ok g P) (k : ∀ a, P a → Q a) : Ok g Q := by
  obtain ⟨r, hr, hp⟩ := h
  exact ⟨r, hr, k r hp⟩
theorem Ok.and {α : Type} {g : Nat → Option α} {P Q : α → Prop} (h : Ok g P) (k : Ok g Q) : Ok g (fun a => P a ∧ Q a) := by
  obtain ⟨r, ⟨K, hr⟩, hp⟩ := h
  obtain ⟨r', ⟨K', hr'⟩, hq⟩ := k
  have h1 := hr (max K K') (by omega)
  have h2 := hr' (max K K') (by omega)
  obtain rfl : r = r' := by rw [h1] at h2; injection h2
  exact ⟨r, ⟨K, hr⟩, hp, hq⟩
theorem Ok.rounds {α : Type} {g : Nat → Option α} {r : α} (h : Ok g (· = r)) : ∃ k, g k = some r := by
  obtain ⟨_, hr, rfl⟩ := h
  exact hr.rounds
theorem Ok.eq {α : Type} {g : Nat → Option α} {r : α} {Q : α → Prop} (h : Ok g (· = r)) (q : Q r) : Ok g Q := h.mono fun _ e => by subst e; exact q
theorem wrap_id {n : Int} (h0 : -9223372036854775808 ≤ n) (h1 : n ≤ 9223372036854775807) : wrap64 n = n := by unfold wrap64; omega
theorem wf64 {n : Int} (h : (Lit.int .i64 n).wf = true) : -9223372036854775808 ≤ n ∧ n ≤ 9223372036854775807 := by
  simp [Lit.wf, IntKind.min, IntKind.max, IntKind.signed, IntKind.bits] at h
  omega
theorem wfu8 {n : Int} (h : (Lit.int .u8 n).wf = true) : 0 ≤ n ∧ n ≤ 255 := by
  simp [Lit.wf, IntKind.min, IntKind.max, IntKind.signed, IntKind.bits] at h
  omega
/-- A loop that counts an index up to n, with what else it carries in s. -/
theorem Ok.range {σ ρ : Type} (L : σ → Int → Nat → Option ρ) (n : Nat) (Inv : Nat → σ → Prop) (Q : ρ → Prop)
    (step : ∀ (i : Nat) (s : σ), i < n → Inv i s → (∀ s', Inv (i + 1) s' → Ok (L s' ((i : Int) + 1)) Q) → Ok (L s (i : Int)) Q)
    (last : ∀ s, Inv n s → Ok (L s (n : Int)) Q) : ∀ s, Inv 0 s → Ok (L s 0) Q := by
  have key : ∀ d i, i + d = n → ∀ s, Inv i s → Ok (L s (i : Int)) Q := by
    intro d
    induction d with
    | zero => intro i hi s hs; obtain rfl : i = n := (by omega); exact last s hs
    | succ d ih =>
      intro i hi s hs
      refine step i s (by omega) hs fun s' hs' => ?_
      have := ih (i + 1) (by omega) s' hs'
      rwa [show ((i + 1 : Nat) : Int) = (i : Int) + 1 by omega] at this
  exact fun s hs => key n 0 (by omega) s hs
/-- The same for a loop that counts down from n - 1. -/
theorem Ok.down {σ ρ : Type} (L : σ → Int → Nat → Option ρ) (n : Nat) (Inv : Nat → σ → Prop) (Q : ρ → Prop)
    (step : ∀ (i : Nat) (s : σ), i < n → Inv (i + 1) s → (∀ s', Inv i s' → Ok (L s' ((i : Int) - 1)) Q) → Ok (L s (i : Int)) Q)
    (last : ∀ s, Inv 0 s → Ok (L s (-1)) Q) : ∀ s, Inv n s → Ok (L s ((n : Int) - 1)) Q := by
  have key : ∀ i, i ≤ n → ∀ s, Inv i s → Ok (L s ((i : Int) - 1)) Q := by
    intro i
    induction i with
    | zero => intro _ s hs; exact last s hs
    | succ i ih =>
      intro hi s hs
      have := step i s (by omega) hs fun s' hs' => ih (by omega) s' hs'
      rwa [show ((i + 1 : Nat) : Int) - 1 = (i : Int) by omega]
  exact fun s hs => key n (Nat.le_refl _) s hs
theorem bool_of_iff {a b : Bool} {P : Prop} (h : a = true ↔ P) (k : b = true ↔ P) : a = b := by
  cases a <;> cases b <;> simp_all
theorem take_next {α : Type} {l : List α} {i : Nat} (d : α) (h : i < l.length) : l.take (i + 1) = l.take i ++ [l.getD i d] := by
  rw [List.take_succ_eq_append_getElem h, List.getD_eq_getElem?_getD, List.getElem?_eq_getElem h, Option.getD_some]
theorem getD_at {α : Type} (l : List α) (d : α) (i : Nat) (h : i < l.length) : l.getD i d = l[i] := by
  rw [List.getD_eq_getElem?_getD, List.getElem?_eq_getElem h, Option.getD_some]
theorem len_small {α : Type} {l : List α} (h : l.length ≤ maxLen) : (l.length : Int) ≤ 9223372036854775807 := by unfold maxLen at h; omega
end Go.Proofs.Ytglddjbcaknnaaa.Pure
/- Ranges, and the bits of sets. No conditions. -/
namespace Go.Proofs.Ytglddjbcaknnaaa.Pure
open Go.RowKit Go.Proofs.YtglddjbcaknnaaaW.PrintWords Go.Proofs.YtglddjbcaknnaaaW.PrintLast
set_option linter.unusedVariables false
set_option linter.unusedSimpArgs false

def inr (a lo hi : Int) : Bool := decide (lo ≤ a ∧ a ≤ hi)
theorem inr_iff (a lo hi : Int) : inr a lo hi = true ↔ lo ≤ a ∧ a ≤ hi := by simp [inr]
theorem bits_nat64 (a b : Nat) (ha : a < 256) (hb : b < 256) : Go.bits .and .i64 (a : Int) (b : Int) = ((a &&& b : Nat) : Int) ∧ Go.bits .or .i64 (a : Int) (b : Int) = ((a ||| b : Nat) : Int) :=
  Go.bits_nat .i64 8 (by decide) (fun n h0 h1 => by rw [IntKind.wrap_i64]; omega) a b ha hb
theorem set_nat {a : Int} (h : 0 ≤ a ∧ a ≤ 255) : ∃ n : Nat, a = (n : Int) ∧ n < 256 := ⟨a.toNat, by omega, by omega⟩
end Go.Proofs.Ytglddjbcaknnaaa.Pure
/- The reference's ranges and sets. No conditions. -/
namespace Go.Proofs.Ytglddjbcaknnaaa.Pure
open Go.RowKit Go.Proofs.YtglddjbcaknnaaaW.PrintWords Go.Proofs.YtglddjbcaknnaaaW.PrintLast Go.Proofs.Ytglddjbcaknnaaa.Q
set_option linter.unusedVariables false
set_option linter.unusedSimpArgs false

theorem l6In_eq (a lo hi : Int) : spec_l6In.f a lo hi = some (inr a lo hi) := by
  unfold spec_l6In.f inr
  by_cases h : a ≥ lo
  · rw [if_pos h]; simp [h]
  · rw [if_neg h]; simp; omega
theorem l3Set_eq (a : Int) : spec_l3Set.f a = some (inr a 0 255) := by simp only [spec_l3Set.f, l6In_eq, Option.bind_some]
end Go.Proofs.Ytglddjbcaknnaaa.Pure
/- The program's ranges, sets and kinds. No conditions. -/
namespace Go.Proofs.Ytglddjbcaknnaaa.Pure
open Go.RowKit Go.Proofs.YtglddjbcaknnaaaW.PrintWords Go.Proofs.YtglddjbcaknnaaaW.PrintLast Go.Proofs.Ytglddjbcaknnaaa.Q
set_option linter.unusedVariables false
set_option linter.unusedSimpArgs false

theorem within_eq (a lo hi : Int) : impl_within.f a lo hi = some (inr a lo hi) := by
  unfold impl_within.f inr
  by_cases h : a ≥ lo
  · rw [if_pos h]; simp [h]
  · rw [if_neg h]; simp; omega
theorem isSet_eq (a : Int) : impl_isSet.f a = some (inr a 0 255) := by simp only [impl_isSet.f, within_eq, Option.bind_some]
theorem isKind_eq (a : Int) : impl_isKind.f a = some (inr a 1 5) := by simp only [impl_isKind.f, within_eq, Option.bind_some]
end Go.Proofs.Ytglddjbcaknnaaa.Pure
/- When foods are valid, in the program and in the reference. Condition: at most 2,000,000. -/
namespace Go.Proofs.Ytglddjbcaknnaaa.Pure
open Go.RowKit Go.Proofs.YtglddjbcaknnaaaW.PrintWords Go.Proofs.YtglddjbcaknnaaaW.PrintLast Go.Proofs.Ytglddjbcaknnaaa.Q
set_option linter.unusedVariables false
set_option linter.unusedSimpArgs false
abbrev Fd := S62
def fAt (l : List Fd) (i : Nat) : Fd := l.getD i z62
theorem fAt_rd (l : List Fd) (i : Nat) : rd_T62 l (i : Int) = fAt l i := rfl
theorem fAt_prev (l : List Fd) (i : Nat) (h : 0 < i) : rd_T62 l ((i : Int) - 1) = fAt l (i - 1) := by
  unfold rd_T62 fAt
  rw [show ((i : Int) - 1).toNat = i - 1 by omega]
def fB (x : Fd) : Bool := inr x.f0 1 20 && inr x.f1 1 3 && inr x.f2 0 255 && inr x.f3 1 5 && inr x.f4 0 999 && inr x.f5 0 999
theorem fB_iff (x : Fd) : fB x = true ↔ (1 ≤ x.f0 ∧ x.f0 ≤ 20) ∧ (1 ≤ x.f1 ∧ x.f1 ≤ 3) ∧ (0 ≤ x.f2 ∧ x.f2 ≤ 255) ∧ (1 ≤ x.f3 ∧ x.f3 ≤ 5) ∧ (0 ≤ x.f4 ∧ x.f4 ≤ 999) ∧ 0 ≤ x.f5 ∧ x.f5 ≤ 999 := by simp [fB, inr_iff, and_assoc]
/-- element i is as it must be -/
def fGood (l : List Fd) (i : Nat) : Prop := fB (fAt l i) = true ∧ (0 < i → (fAt l (i - 1)).f0 < (fAt l i).f0)
/-- foods are valid -/
def FV (l : List Fd) : Prop := l.length ≤ 6 ∧ ∀ i, i < l.length → fGood l i
theorem isId_eq (a : Int) : impl_isId.f a = some (inr a 1 20) := by simp only [impl_isId.f, within_eq, Option.bind_some]
theorem sFoods_ok (l : List Fd) (hl : l.length ≤ 2000000) : Ok (fun k => spec_FoodsValid.f k l) (fun r => r = true ↔ FV l) := by
  unfold spec_FoodsValid.f
  refine Ok.range (fun (_ : Unit) i k => spec_FoodsValid.l0 k l i) l.length (fun i _ => ∀ j, j < i → fGood l j) _ ?_ ?_ () (fun j hj => absurd hj (by omega))
  · intro i _ hi hinv ih
    refine Ok.step (fun k => by simp only [spec_FoodsValid.l0]; rfl) (Ok.pos (by omega) (Ok.pos (by omega) ?_))
    simp only [l6In_eq, l3Set_eq, Option.bind_some, fAt_rd]
    have bad : ¬ fGood l i → Ok (fun k => spec_FoodsValid.j1 k l (i : Int) true (fAt l i).f0 (fAt l i).f1 (fAt l i).f2 (fAt l i).f3 (fAt l i).f4 (fAt l i).f5) (fun r : Bool => r = true ↔ FV l) := fun h => Ok.step (fun k => by simp only [spec_FoodsValid.j1]; rfl) (Ok.pos (by trivial) (Ok.ret ⟨fun h' => (by cases h'), fun h' => absurd (h'.2 i hi) h⟩))
    have good : fGood l i → Ok (fun k => spec_FoodsValid.l0 k l ((i : Int) + 1)) (fun r : Bool => r = true ↔ FV l) := fun h => ih () (fun j hj => by
      rcases Nat.lt_succ_iff_lt_or_eq.1 hj with h1 | rfl
      · exact hinv j h1
      · exact h)
    have fb : inr (fAt l i).f0 1 20 = true → inr (fAt l i).f1 1 3 = true → inr (fAt l i).f2 0 255 = true → inr (fAt l i).f3 1 5 = true → inr (fAt l i).f4 0 999 = true → inr (fAt l i).f5 0 999 = true → fB (fAt l i) = true := fun h1 h2 h3 h4 h5 h6 => by simp [fB, h1, h2, h3, h4, h5, h6]
    refine Ok.ite (fun h1 => Ok.ite (fun h2 => Ok.ite (fun h3 => Ok.ite (fun h4 => Ok.ite (fun h5 => ?_) (fun h => bad fun g => h (by have := (fB_iff _).1 g.1; exact (inr_iff _ _ _).2 (by omega)))) (fun h => bad fun g => h (by have := (fB_iff _).1 g.1; exact (inr_iff _ _ _).2 (by omega)))) (fun h => bad fun g => h (by have := (fB_iff _).1 g.1; exact (inr_iff _ _ _).2 (by omega)))) (fun h => bad fun g => h (by have := (fB_iff _).1 g.1; exact (inr_iff _ _ _).2 (by omega)))) (fun h => bad fun g => h (by have := (fB_iff _).1 g.1; exact (inr_iff _ _ _).2 (by omega)))
    cases h6 : inr (fAt l i).f5 0 999 with
    | false => exact bad fun g => by have := (fB_iff _).1 g.1; rw [(inr_iff _ _ _).2 this.2.2.2.2.2] at h6; cases h6
    | true =>
      refine Ok.step (fun k => by simp only [spec_FoodsValid.j1]; rfl) (Ok.neg (by simp) ?_)
      rw [wrap_id (n := (i : Int) + 1) (by omega) (by omega), wrap_id (n := (i : Int) - 1) (by omega) (by omega)]
      refine Ok.ite (fun h7 => Ok.pos (by omega) (Ok.pos (by omega) ?_)) (fun h7 => good ⟨fb h1 h2 h3 h4 h5 h6, fun h => absurd h (by omega)⟩)
      rw [fAt_prev l i (by omega)]
      exact Ok.ite (fun h8 => Ok.ret ⟨fun h' => (by cases h'), fun h' => by have := (h'.2 i hi).2 (by omega); omega⟩) (fun h8 => good ⟨fb h1 h2 h3 h4 h5 h6, fun _ => by omega⟩)
  · intro _ hinv
    refine Ok.step (fun k => by simp only [spec_FoodsValid.l0]; rfl) (Ok.neg (by omega) (Ok.ret ?_))
    rw [decide_eq_true_iff]
    exact ⟨fun h => ⟨by omega, hinv⟩, fun h => by have := h.1; omega⟩
theorem iFoods_ok (l : List Fd) (hl : l.length ≤ 2000000) : Ok (fun k => impl_FoodsValid.f k l) (fun r => r = true ↔ FV l) := by
  unfold impl_FoodsValid.f
  refine Ok.range (fun (_ : Unit) i k => impl_FoodsValid.l0 k l l (l.length : Int) i) l.length (fun i _ => ∀ j, j < i → fGood l j) _ ?_ ?_ () (fun j hj => absurd hj (by omega))
  · intro i _ hi hinv ih
    refine Ok.step (fun k => by simp only [impl_FoodsValid.l0]; rfl) (Ok.pos (by omega) (Ok.pos (by omega) (Ok.pos (by omega) ?_)))
    have ew : wrap64 ((i : Int) + 1) = (i : Int) + 1 := wrap_id (by omega) (by omega)
    have ew' : wrap64 ((i : Int) - 1) = (i : Int) - 1 := wrap_id (by omega) (by omega)
    simp only [isId_eq, within_eq, isSet_eq, isKind_eq, Option.bind_some, ew, ew', fAt_rd]
    have bad : ¬ fGood l i → Ok (fun _ => some false) (fun r : Bool => r = true ↔ FV l) := fun h => Ok.ret ⟨fun h' => (by cases h'), fun h' => absurd (h'.2 i hi) h⟩
    have good : fGood l i → Ok (fun k => impl_FoodsValid.l0 k l l (l.length : Int) ((i : Int) + 1)) (fun r : Bool => r = true ↔ FV l) := fun h => ih () (fun j hj => by
      rcases Nat.lt_succ_iff_lt_or_eq.1 hj with h1 | rfl
      · exact hinv j h1
      · exact h)
    have fb : inr (fAt l i).f0 1 20 = true → inr (fAt l i).f1 1 3 = true → inr (fAt l i).f2 0 255 = true → inr (fAt l i).f3 1 5 = true → inr (fAt l i).f4 0 999 = true → inr (fAt l i).f5 0 999 = true → fB (fAt l i) = true := fun h1 h2 h3 h4 h5 h6 => by simp [fB, h1, h2, h3, h4, h5, h6]
    refine Ok.ite (fun h1 => Ok.ite (fun h2 => Ok.ite (fun h3 => Ok.ite (fun h4 => Ok.ite (fun h5 => Ok.ite (fun h6 => Ok.ite (fun h7 => ?_) (fun h7 => good ⟨fb h1 h2 h3 h4 h5 h6, fun h => absurd h (by omega)⟩)) (fun h => bad fun g => h (by have := (fB_iff _).1 g.1; exact (inr_iff _ _ _).2 (by omega)))) (fun h => bad fun g => h (by have := (fB_iff _).1 g.1; exact (inr_iff _ _ _).2 (by omega)))) (fun h => bad fun g => h (by have := (fB_iff _).1 g.1; exact (inr_iff _ _ _).2 (by omega)))) (fun h => bad fun g => h (by have := (fB_iff _).1 g.1; exact (inr_iff _ _ _).2 (by omega)))) (fun h => bad fun g => h (by have := (fB_iff _).1 g.1; exact (inr_iff _ _ _).2 (by omega)))) (fun h => bad fun g => h (by have := (fB_iff _).1 g.1; exact (inr_iff _ _ _).2 (by omega)))
    refine Ok.pos (by omega) (Ok.pos (by omega) ?_)
    simp only [fAt_prev l i (by omega)]
    exact Ok.ite (fun h8 => bad fun h => by have := h.2 (by omega); omega) (fun h8 => good ⟨fb h1 h2 h3 h4 h5 h6, fun _ => by omega⟩)
  · intro _ hinv
    refine Ok.step (fun k => by simp only [impl_FoodsValid.l0]; rfl) (Ok.neg (by omega) (Ok.ret ?_))
    rw [decide_eq_true_iff]
    exact ⟨fun h => ⟨by omega, hinv⟩, fun h => by have := h.1; omega⟩
end Go.Proofs.Ytglddjbcaknnaaa.Pure
/- Lists, read and written element by element. No conditions. -/
namespace Go.Proofs.Ytglddjbcaknnaaa.Pure
open Go.RowKit Go.Proofs.YtglddjbcaknnaaaW.PrintWords Go.Proofs.YtglddjbcaknnaaaW.PrintLast
set_option linter.unusedVariables false
set_option linter.unusedSimpArgs false

theorem rd_nat (l : List Int) (i : Nat) : rd l (i : Int) = l.getD i 0 := rfl
theorem eq_of_getD {α : Type} {a b : List α} (d : α) (h : a.length = b.length) (k : ∀ i, i < a.length → a.getD i d = b.getD i d) : a = b := by
  refine List.ext_getElem h fun i h1 h2 => ?_
  have := k i h1
  rwa [getD_at _ _ _ h1, getD_at _ _ _ h2] at this
theorem getD_set {α : Type} (l : List α) (d v : α) (i j : Nat) (hi : i < l.length) : (l.set i v).getD j d = if j = i then v else l.getD j d := by
  rw [List.getD_eq_getElem?_getD, List.getElem?_set]
  by_cases h : i = j
  · subst h; simp [hi]
  · rw [if_neg h, if_neg (fun e => h e.symm), ← List.getD_eq_getElem?_getD]
theorem getD_snoc {α : Type} (l : List α) (d v : α) (j : Nat) : (l ++ [v]).getD j d = if j = l.length then v else l.getD j d := by
  rw [List.getD_eq_getElem?_getD, List.getElem?_append]
  by_cases h : j < l.length
  · rw [if_pos h, if_neg (by omega), ← List.getD_eq_getElem?_getD]
  · rw [if_neg h]
    by_cases e : j = l.length
    · subst e; simp
    · rw [if_neg e, List.getElem?_eq_none (by simp; omega), List.getD_eq_getElem?_getD, List.getElem?_eq_none (by omega)]
theorem skip_getD {α : Type} (l : List α) (d : α) (k i : Nat) (hk : k < l.length) : (l.take k ++ l.drop (k + 1)).getD i d = if i < k then l.getD i d else l.getD (i + 1) d := by
  simp only [List.getD_eq_getElem?_getD, List.getElem?_append, List.length_take]
  by_cases h : i < k
  · rw [if_pos h, if_pos (by omega), List.getElem?_take, if_pos h]
  · rw [if_neg h, if_neg (by omega), List.getElem?_drop, show k + 1 + (i - min k l.length) = i + 1 by omega]
theorem skip_len {α : Type} (l : List α) (k : Nat) (hk : k < l.length) : (l.take k ++ l.drop (k + 1)).length = l.length - 1 := by simp; omega
end Go.Proofs.Ytglddjbcaknnaaa.Pure
/- The place of a food, in the program and in the reference. Condition: at most 2,000,000 foods. -/
namespace Go.Proofs.Ytglddjbcaknnaaa.Pure
open Go.RowKit Go.Proofs.YtglddjbcaknnaaaW.PrintWords Go.Proofs.YtglddjbcaknnaaaW.PrintLast Go.Proofs.Ytglddjbcaknnaaa.Q
set_option linter.unusedVariables false
set_option linter.unusedSimpArgs false
def fPl (l : List Fd) (id : Int) : Int := idxOf (fun x => x.f0 == id) l
theorem foodPlace_eq (l : List Fd) (id : Int) : impl_foodPlace.f l id = some (fPl l id) := rfl
theorem fPl_none {l : List Fd} {id : Int} (h : ∀ j, j < l.length → (fAt l j).f0 ≠ id) : fPl l id = -1 := idxOf_miss _ l z62 fun j hj => beq_eq_false_iff_ne.2 (h j hj)
theorem fPl_hit {l : List Fd} {id : Int} {k : Nat} (hk : k < l.length) (h : (fAt l k).f0 = id) (hn : ∀ j, j < k → (fAt l j).f0 ≠ id) : fPl l id = (k : Int) := idxOf_hit _ l z62 k hk (beq_iff_eq.2 h) fun j hj => beq_eq_false_iff_ne.2 (hn j hj)
theorem fPl_is (l : List Fd) (id : Int) : (fPl l id = -1 ∧ ∀ j, j < l.length → (fAt l j).f0 ≠ id) ∨ ∃ k : Nat, fPl l id = k ∧ k < l.length ∧ (fAt l k).f0 = id ∧ ∀ j, j < k → (fAt l j).f0 ≠ id := by
  have key : ∀ d i, i + d = l.length → (∀ j, j < i → (fAt l j).f0 ≠ id) → (fPl l id = -1 ∧ ∀ j, j < l.length → (fAt l j).f0 ≠ id) ∨ ∃ k : Nat, fPl l id = k ∧ k < l.length ∧ (fAt l k).f0 = id ∧ ∀ j, j < k → (fAt l j).f0 ≠ id := by
    intro d
    induction d with
    | zero =>
      intro i hi h
      exact .inl ⟨fPl_none fun j hj => h j (by omega), fun j hj => h j (by omega)⟩
    | succ d ih =>
      intro i hi h
      by_cases e : (fAt l i).f0 = id
      · exact .inr ⟨i, fPl_hit (by omega) e h, by omega, e, h⟩
      · refine ih (i + 1) (by omega) fun j hj => ?_
        rcases Nat.lt_succ_iff_lt_or_eq.1 hj with h1 | rfl
        · exact h j h1
        · exact e
  exact key l.length 0 (by omega) fun j hj => absurd hj (by omega)
theorem l5Find_ok (l : List Fd) (id : Int) (hl : l.length ≤ 2000000) : Ok (fun k => spec_l5Find.f k l id) (· = fPl l id) := by
  unfold spec_l5Find.f
  refine Ok.range (fun (_ : Unit) i k => spec_l5Find.l0 k l id i) l.length (fun i _ => ∀ j, j < i → (fAt l j).f0 ≠ id) _ ?_ ?_ () (fun j hj => absurd hj (by omega))
  · intro i _ hi hinv ih
    refine Ok.step (fun k => by simp only [spec_l5Find.l0]; rfl) (Ok.pos (by omega) (Ok.pos (by omega) ?_))
    rw [fAt_rd, wrap_id (n := (i : Int) + 1) (by omega) (by omega)]
    refine Ok.ite (fun h => Ok.ret (fPl_hit hi h hinv).symm) (fun h => ih () fun j hj => ?_)
    rcases Nat.lt_succ_iff_lt_or_eq.1 hj with h1 | rfl
    · exact hinv j h1
    · exact h
  · intro _ hinv
    exact Ok.step (fun k => by simp only [spec_l5Find.l0]; rfl) (Ok.neg (by omega) (Ok.ret (fPl_none hinv).symm))
/-- valid foods: one place for each number -/
theorem food_lt {l : List Fd} (v : FV l) : ∀ j i, i < j → j < l.length → (fAt l i).f0 < (fAt l j).f0
  | 0, i, h, _ => absurd h (by omega)
  | j + 1, i, h, hj => by
    have h1 := (v.2 (j + 1) hj).2 (by omega)
    rw [Nat.add_sub_cancel] at h1
    rcases Nat.lt_succ_iff_lt_or_eq.1 h with h2 | rfl
    · exact Int.lt_trans (food_lt v j i h2 (by omega)) h1
    · exact h1
theorem food_at {l : List Fd} (v : FV l) (k : Nat) (hk : k < l.length) : fPl l (fAt l k).f0 = (k : Int) :=
  fPl_hit hk rfl fun j hj => Int.ne_of_lt (food_lt v k j hj hk)
end Go.Proofs.Ytglddjbcaknnaaa.Pure
/- When rules are valid, in the program and in the reference. Condition: at most 2,000,000. -/
namespace Go.Proofs.Ytglddjbcaknnaaa.Pure
open Go.RowKit Go.Proofs.YtglddjbcaknnaaaW.PrintWords Go.Proofs.YtglddjbcaknnaaaW.PrintLast Go.Proofs.Ytglddjbcaknnaaa.Q
set_option linter.unusedVariables false
set_option linter.unusedSimpArgs false
abbrev Swp := S41
def sAt (l : List Swp) (i : Nat) : Swp := l.getD i z41
theorem sAt_rd (l : List Swp) (i : Nat) : rd_T41 l (i : Int) = sAt l i := rfl
def sGood (l : List Fd) (x : Swp) : Prop := x.f0 ≠ x.f1 ∧ 0 ≤ fPl l x.f0 ∧ 0 ≤ fPl l x.f1 ∧ (1 ≤ x.f2 ∧ x.f2 ≤ 9) ∧ 1 ≤ x.f3 ∧ x.f3 ≤ 9
def SV (r : List Swp) (l : List Fd) : Prop := FV l ∧ r.length ≤ 6 ∧ ∀ i, i < r.length → sGood l (sAt r i)
theorem bad_swap (l : List Fd) (x : Swp) : impl_SwapsValid.bad l x = false ↔ sGood l x := by
  unfold impl_SwapsValid.bad sGood fPl
  by_cases h1 : x.f0 = x.f1
  · rw [if_pos h1]; simp [h1]
  rw [if_neg h1]
  by_cases h2 : idxOf (fun y => y.f0 == x.f0) l < 0
  · rw [if_pos h2]; simp; omega
  rw [if_neg h2]
  by_cases h3 : idxOf (fun y => y.f0 == x.f1) l < 0
  · rw [if_pos h3]; simp; omega
  rw [if_neg h3]
  by_cases h4 : 1 ≤ x.f2 ∧ x.f2 ≤ 9
  · rw [if_pos h4]; simp; omega
  · rw [if_neg h4]; simp; omega
theorem iSwaps_ok (r : List Swp) (l : List Fd) (hl : l.length ≤ 2000000) : Ok (fun k => impl_SwapsValid.f k r l) (fun b => b = true ↔ SV r l) := by
  unfold impl_SwapsValid.f
  refine Ok.bind (iFoods_ok l hl) fun b hb => Ok.ite (fun h => Ok.ite (fun h2 => Ok.ret ?_) (fun h2 => Ok.ret ⟨fun h' => (by cases h'), fun h' => absurd h'.2.1 (by omega)⟩)) (fun h => Ok.ret ⟨fun h' => (by cases h'), fun h' => absurd (hb.2 h'.1) h⟩)
  simp only [Bool.not_eq_true', List.any_eq_false, Bool.not_eq_true, bad_swap]
  constructor
  · intro h'
    refine ⟨hb.1 h, by omega, fun i hi => ?_⟩
    unfold sAt
    rw [getD_at _ _ _ hi]
    exact h' _ (List.getElem_mem hi)
  · intro h' x hx
    obtain ⟨i, hi, rfl⟩ := List.mem_iff_getElem.1 hx
    have := h'.2.2 i hi
    unfold sAt at this
    rwa [getD_at _ _ _ hi] at this
theorem sSwaps_ok (r : List Swp) (l : List Fd) (hr : r.length ≤ 2000000) (hl : l.length ≤ 2000000) : Ok (fun k => spec_SwapsValid.f k r l) (fun b => b = true ↔ SV r l) := by
  unfold spec_SwapsValid.f
  refine Ok.range (fun (_ : Unit) i k => spec_SwapsValid.l0 k r l i) r.length (fun i _ => ∀ j, j < i → sGood l (sAt r j)) _ ?_ ?_ () (fun j hj => absurd hj (by omega))
  · intro i _ hi hinv ih
    have bad : ¬ sGood l (sAt r i) → Ok (fun _ => some false) (fun b : Bool => b = true ↔ SV r l) := fun h => Ok.ret ⟨fun h' => (by cases h'), fun h' => absurd (h'.2.2 i hi) h⟩
    refine Ok.step (fun k => by simp only [spec_SwapsValid.l0]; rfl) (Ok.pos (by omega) (Ok.pos (by omega) ?_))
    rw [sAt_rd, wrap_id (n := (i : Int) + 1) (by omega) (by omega)]
    refine Ok.bind (l5Find_ok l _ hl) ?_
    rintro _ rfl
    refine Ok.ite (fun h1 => bad fun h => by have := h.2.1; omega) (fun h1 => Ok.bind (l5Find_ok l _ hl) ?_)
    rintro _ rfl
    refine Ok.ite (fun h2 => bad fun h => by have := h.2.2.1; omega) (fun h2 => Ok.ite (fun h3 => bad fun h => h.1 h3) (fun h3 => ?_))
    rw [l6In_eq, l6In_eq]
    refine Ok.val (Ok.ite (fun h4 => Ok.val (Ok.ite (fun h5 => ih () fun j hj => ?_) (fun h5 => bad fun h => h5 ((inr_iff _ _ _).2 h.2.2.2.2)))) (fun h4 => bad fun h => h4 ((inr_iff _ _ _).2 h.2.2.2.1)))
    rcases Nat.lt_succ_iff_lt_or_eq.1 hj with h6 | rfl
    · exact hinv j h6
    · exact ⟨h3, by omega, by omega, (inr_iff _ _ _).1 h4, (inr_iff _ _ _).1 h5⟩
  · intro _ hinv
    refine Ok.step (fun k => by simp only [spec_SwapsValid.l0]; rfl) (Ok.neg (by omega) (Ok.bind (sFoods_ok l hl) fun b hb => Ok.ite (fun h => Ok.ret ?_) (fun h => Ok.ret ⟨fun h' => (by cases h'), fun h' => absurd (hb.2 h'.1) h⟩)))
    rw [decide_eq_true_iff]
    exact ⟨fun h' => ⟨hb.1 h, by omega, hinv⟩, fun h' => by have := h'.2.1; omega⟩
end Go.Proofs.Ytglddjbcaknnaaa.Pure
/- The rules from a food, in the program and in the reference. Condition: at most 2,000,000 rules and foods. -/
namespace Go.Proofs.Ytglddjbcaknnaaa.Pure
open Go.RowKit Go.Proofs.YtglddjbcaknnaaaW.PrintWords Go.Proofs.YtglddjbcaknnaaaW.PrintLast Go.Proofs.Ytglddjbcaknnaaa.Q
set_option linter.unusedVariables false
set_option linter.unusedSimpArgs false
def forR (r : List Swp) (id : Int) : Nat → List Int
  | 0 => []
  | n + 1 => forR r id n ++ (if (sAt r n).f0 = id then [(n : Int)] else [])
theorem forR_len (r : List Swp) (id : Int) : ∀ n, (forR r id n).length ≤ n
  | 0 => Nat.le_refl _
  | n + 1 => by
    have := forR_len r id n
    unfold forR
    rw [List.length_append]
    split <;> simp <;> omega
theorem forR_mem (r : List Swp) (id : Int) : ∀ n (x : Int), x ∈ forR r id n ↔ ∃ i : Nat, i < n ∧ x = i ∧ (sAt r i).f0 = id
  | 0, x => ⟨fun h => (by cases h), fun ⟨i, h, _⟩ => absurd h (by omega)⟩
  | n + 1, x => by
    unfold forR
    rw [List.mem_append, forR_mem r id n x]
    constructor
    · rintro (⟨i, h1, h2, h3⟩ | h)
      · exact ⟨i, by omega, h2, h3⟩
      · by_cases e : (sAt r n).f0 = id
        · rw [if_pos e] at h
          exact ⟨n, by omega, by simpa using h, e⟩
        · rw [if_neg e] at h; cases h
    · rintro ⟨i, h1, h2, h3⟩
      rcases Nat.lt_succ_iff_lt_or_eq.1 h1 with h4 | rfl
      · exact .inl ⟨i, h4, h2, h3⟩
      · right; rw [if_pos h3]; simp [h2]
/-- the first of them -/
theorem forR_first (r : List Swp) (id : Int) (k : Nat) (h : (sAt r k).f0 = id) (hn : ∀ j, j < k → (sAt r j).f0 ≠ id) : ∀ n, k < n → ∃ t, forR r id n = (k : Int) :: t
  | 0, h => absurd h (by omega)
  | n + 1, hk => by
    rcases Nat.lt_succ_iff_lt_or_eq.1 hk with h1 | rfl
    · obtain ⟨t, e⟩ := forR_first r id k h hn n h1
      exact ⟨t ++ (if (sAt r n).f0 = id then [(n : Int)] else []), by rw [forR, e]; rfl⟩
    · have e0 : forR r id k = [] := by
        refine List.eq_nil_iff_forall_not_mem.2 fun x hx => ?_
        obtain ⟨i, h1, _, h3⟩ := (forR_mem r id k x).1 hx
        exact hn i h1 h3
      exact ⟨[], by rw [forR, e0, if_pos h]; rfl⟩
def ForR (r : List Swp) (f : List Fd) (id : Int) (o : List Int) : Prop := (SV r f → o = forR r id r.length) ∧ (¬ SV r f → o = [])
theorem ForR.eq {r : List Swp} {f : List Fd} {id : Int} {a b : List Int} (h : ForR r f id a) (k : ForR r f id b) : a = b := by
  by_cases v : SV r f
  · rw [h.1 v, k.1 v]
  · rw [h.2 v, k.2 v]
theorem ForR.len {r : List Swp} {f : List Fd} {id : Int} {a : List Int} (h : ForR r f id a) : a.length ≤ r.length := by
  by_cases v : SV r f
  · rw [h.1 v]; exact forR_len r id _
  · rw [h.2 v]; simp
theorem iFor_ok (r : List Swp) (f : List Fd) (id : Int) (hr : r.length ≤ 2000000) (hf : f.length ≤ 2000000) : Ok (fun k => impl_SwapsFor.f k r f id) (ForR r f id) := by
  unfold impl_SwapsFor.f
  simp only [Option.bind_some]
  refine Ok.bind (iSwaps_ok r f hf) fun b hb => Ok.ite (fun h => ?_) (fun h => Ok.ret ⟨fun h' => absurd (hb.2 h') h, fun _ => rfl⟩)
  refine Ok.range (fun (a : List Int) i k => impl_SwapsFor.l0 k id a r (r.length : Int) i) r.length (fun i a => a = forR r id i) _ ?_ ?_ [] rfl
  · rintro i _ hi rfl ih
    have hl := forR_len r id i
    refine Ok.step (fun k => by simp only [impl_SwapsFor.l0]; rfl) (Ok.pos (by omega) (Ok.pos (by omega) (Ok.pos (by omega) ?_)))
    rw [sAt_rd, wrap_id (n := (i : Int) + 1) (by omega) (by omega)]
    refine Ok.ite (fun h => Ok.pos (by omega) (ih _ ?_)) (fun h => ih _ ?_)
    · rw [forR, if_pos h]
    · rw [forR, if_neg h, List.append_nil]
  · rintro _ rfl
    exact Ok.step (fun k => by simp only [impl_SwapsFor.l0]; rfl) (Ok.neg (by omega) (Ok.ret ⟨fun _ => rfl, fun h' => absurd (hb.1 h) h'⟩))
theorem sFor_ok (r : List Swp) (f : List Fd) (id : Int) (hr : r.length ≤ 2000000) (hf : f.length ≤ 2000000) : Ok (fun k => spec_SwapsFor.f k r f id) (ForR r f id) := by
  unfold spec_SwapsFor.f
  by_cases v : SV r f
  · refine Ok.range (fun (a : List Int) i k => spec_SwapsFor.l0 k r f id a i) r.length (fun i a => a = forR r id i) _ ?_ ?_ [] rfl
    · rintro i _ hi rfl ih
      have hl := forR_len r id i
      refine Ok.step (fun k => by simp only [spec_SwapsFor.l0]; rfl) (Ok.pos (by omega) (Ok.bind (sSwaps_ok r f hr hf) fun b hb => ?_))
      refine Ok.step (fun k => by simp only [spec_SwapsFor.j1]; rfl) (Ok.pos (hb.2 v) (Ok.pos (by omega) (Ok.pos (by omega) ?_)))
      rw [sAt_rd, wrap_id (n := (i : Int) + 1) (by omega) (by omega)]
      refine Ok.ite (fun h => Ok.pos (by omega) (ih _ ?_)) (fun h => ih _ ?_)
      · rw [forR, if_pos h]
      · rw [forR, if_neg h, List.append_nil]
    · rintro _ rfl
      refine Ok.step (fun k => by simp only [spec_SwapsFor.l0]; rfl) (Ok.neg (by omega) ?_)
      exact Ok.step (fun k => by simp only [spec_SwapsFor.j1]; rfl) (Ok.neg (by simp) (Ok.ret ⟨fun _ => rfl, fun h => absurd v h⟩))
  · refine Ok.step (fun k => by simp only [spec_SwapsFor.l0]; rfl) (Ok.ite (fun h => Ok.bind (sSwaps_ok r f hr hf) fun b hb => ?_) (fun h => ?_))
    · exact Ok.step (fun k => by simp only [spec_SwapsFor.j1]; rfl) (Ok.neg (fun h => v (hb.1 h)) (Ok.ret ⟨fun h' => absurd h' v, fun _ => rfl⟩))
    · exact Ok.step (fun k => by simp only [spec_SwapsFor.j1]; rfl) (Ok.neg (by simp) (Ok.ret ⟨fun h' => absurd h' v, fun _ => rfl⟩))
end Go.Proofs.Ytglddjbcaknnaaa.Pure
/- The reader of draws: each pick answers a number in its range and goes one place on. Condition: the bytes are bytes. -/
namespace Go.Proofs.Ytglddjbcaknnaaa.Pure
open Go.RowKit Go.Proofs.YtglddjbcaknnaaaW.PrintWords Go.Proofs.YtglddjbcaknnaaaW.PrintLast Go.Proofs.Ytglddjbcaknnaaa.Q
set_option linter.unusedVariables false
set_option linter.unusedSimpArgs false

def Bytes (b : List Int) : Prop := ∀ x ∈ b, 0 ≤ x ∧ x ≤ 255
theorem rd_byte {b : List Int} (h : Bytes b) (i : Int) : 0 ≤ rd b i ∧ rd b i ≤ 255 := by
  unfold rd
  rw [List.getD_eq_getElem?_getD]
  by_cases hi : i.toNat < b.length
  · rw [List.getElem?_eq_getElem hi]
    exact h _ (List.getElem_mem hi)
  · rw [List.getElem?_eq_none (by omega)]
    simp
theorem xor_nonneg (x y : Int) (hx : 0 ≤ x) (hx' : x < 4611686018427387904) (hy : 0 ≤ y) (hy' : y < 4611686018427387904) : 0 ≤ Go.bits .xor .i64 x y := by
  obtain ⟨a, rfl⟩ := Int.eq_ofNat_of_zero_le hx
  obtain ⟨b, rfl⟩ := Int.eq_ofNat_of_zero_le hy
  have ha : a < 2 ^ 62 := by omega
  have hb : b < 2 ^ 62 := by omega
  have hx := Nat.xor_lt_two_pow ha hb
  have ha' : a % 2 ^ 64 = a := Nat.mod_eq_of_lt (by omega)
  have hb' : b % 2 ^ 64 = b := Nat.mod_eq_of_lt (by omega)
  show 0 ≤ IntKind.i64.wrap ((BitVec.ofInt 64 (a : Int) ^^^ BitVec.ofInt 64 (b : Int)).toNat : Int)
  rw [IntKind.wrap_i64]
  simp only [BitVec.ofInt_natCast, BitVec.toNat_xor, BitVec.toNat_ofNat, ha', hb']
  omega
theorem mix_range (r1 r2 p t : Int) (h1 : 0 ≤ r1 ∧ r1 ≤ 255) (h2 : 0 ≤ r2 ∧ r2 ≤ 255) (hp : 0 ≤ p ∧ p ≤ 1099511627776) (ht : 0 ≤ t ∧ t ≤ 1099511627776) :
    wrap64 ((wrap64 ((wrap64 ((wrap64 ((wrap64 r1) * 131)) + (wrap64 ((wrap64 r2) * 1117)))) + (wrap64 (p * 29)))) + (wrap64 ((wrap64 t) * 53))) = r1 * 131 + r2 * 1117 + p * 29 + t * 53 := by
  rw [wrap_id (n := r1) (by omega) (by omega), wrap_id (n := r2) (by omega) (by omega), wrap_id (n := t) (by omega) (by omega)]
  rw [wrap_id (n := r1 * 131) (by omega) (by omega), wrap_id (n := r2 * 1117) (by omega) (by omega), wrap_id (n := p * 29) (by omega) (by omega), wrap_id (n := t * 53) (by omega) (by omega)]
  rw [wrap_id (n := r1 * 131 + r2 * 1117) (by omega) (by omega), wrap_id (n := r1 * 131 + r2 * 1117 + p * 29) (by omega) (by omega), wrap_id (by omega) (by omega)]
theorem tmod_range (x n : Int) (hx : 0 ≤ x) (hn : 1 ≤ n) : 0 ≤ Int.tmod x n ∧ Int.tmod x n < n :=
  ⟨Int.tmod_nonneg _ hx, Int.tmod_lt_of_pos _ (by omega)⟩
theorem tdiv_range (x n : Int) (hx : 0 ≤ x) (hn : 1 ≤ n) : 0 ≤ Int.tdiv x n ∧ Int.tdiv x n ≤ x := by
  refine ⟨Int.tdiv_nonneg hx (by omega), ?_⟩
  rw [Int.tdiv_eq_ediv_of_nonneg hx]
  exact Int.ediv_le_self _ hx

/-- What a pick says. -/
def Picked (p n : Int) (r : Int × Int) : Prop := r.2 = p + 1 ∧ 0 ≤ r.1 ∧ (1 ≤ n → r.1 < n) ∧ (n < 1 → r.1 = 0)
theorem pick_ok (b : List Int) (p n : Int) (hb : Bytes b) (hp : 0 ≤ p) (hp' : p ≤ 1099511627776) (hn : n ≤ 1000000000) : Ok (fun k => spec_l6Rd_pick.f k b p n) (Picked p n) := by
  unfold spec_l6Rd_pick.f
  rw [wrap_id (n := p + 1) (by omega) (by omega)]
  by_cases h1 : n < 1
  · refine Ok.pos h1 (Ok.step (fun k => by simp only [spec_l6Rd_pick.j0, if_true]; rfl) (Ok.ret ⟨rfl, by simp, fun h => absurd h (by omega), fun _ => rfl⟩))
  refine Ok.neg h1 ?_
  by_cases hl : (b.length : Int) = 0
  · rw [show ((b.length : Int) == 0) = true by simpa using hl]
    refine Ok.step (fun k => by simp only [spec_l6Rd_pick.j0, if_true]; rfl) (Ok.ret ⟨rfl, by simp, fun h => by omega, fun _ => rfl⟩)
  rw [show ((b.length : Int) == 0) = false by simpa using hl]
  have hlp : 1 ≤ (b.length : Int) := by omega
  refine Ok.step (f := _) (fun k => by simp only [spec_l6Rd_pick.j0]; rfl) ?_
  refine Ok.neg (by simp) ?_
  rw [show p + 1 - 1 = p by omega, wrap_id (n := p) (by omega) (by omega)]
  by_cases hlt : p < (b.length : Int)
  · refine Ok.pos hlt (Ok.pos hp (Ok.neg (by omega) (Ok.ret ?_)))
    have hr := rd_byte hb p
    rw [wrap_id (n := rd b p) (by omega) (by omega)]
    have := tmod_range (rd b p) n hr.1 (by omega)
    exact ⟨rfl, this.1, fun _ => this.2, fun h => absurd h h1⟩
  · have hm := tmod_range p b.length hp hlp
    have hq : wrap64 ((wrap64 (p * 7)) + 3) = p * 7 + 3 := by
      rw [wrap_id (n := p * 7) (by omega) (by omega), wrap_id (by omega) (by omega)]
    have hm2 := tmod_range (p * 7 + 3) b.length (by omega) hlp
    have ht := tdiv_range p b.length hp hlp
    rw [hq]
    refine Ok.neg hlt (Ok.neg hl (Ok.pos hm.1 (Ok.pos hm.2 (Ok.pos hm2.1 (Ok.pos hm2.2 (Ok.neg (by omega) (Ok.ret ?_)))))))
    rw [mix_range _ _ p _ (rd_byte hb _) (rd_byte hb _) ⟨hp, hp'⟩ ⟨ht.1, by omega⟩]
    have a1 := rd_byte hb (Int.tmod p b.length)
    have a2 := rd_byte hb (Int.tmod (p * 7 + 3) b.length)
    generalize rd b (Int.tmod p b.length) = r1 at *
    generalize rd b (Int.tmod (p * 7 + 3) b.length) = r2 at *
    generalize Int.tdiv p b.length = t at *
    have hx : 0 ≤ r1 * 131 + r2 * 1117 + p * 29 + t * 53 := by omega
    have hx' : r1 * 131 + r2 * 1117 + p * 29 + t * 53 < 4611686018427387904 := by omega
    generalize r1 * 131 + r2 * 1117 + p * 29 + t * 53 = x at *
    have h64 := tdiv_range x 64 hx (by omega)
    rw [wrap_id (n := Int.tdiv x 64) (by omega) (by omega)]
    have := tmod_range (Go.bits .xor .i64 x (Int.tdiv x 64)) n (xor_nonneg _ _ hx hx' h64.1 (by omega)) (by omega)
    exact ⟨rfl, this.1, fun _ => this.2, fun h => absurd h h1⟩
/-- The same, the number of answers at least one. -/
def Pk (p n : Int) (r : Int × Int) : Prop := r.2 = p + 1 ∧ 0 ≤ r.1 ∧ r.1 < n
theorem pick_in (b : List Int) (p n : Int) (hb : Bytes b) (hp : 0 ≤ p) (hp' : p ≤ 1099511627776) (hn : 1 ≤ n) (hn' : n ≤ 1000000000) : Ok (fun k => spec_l6Rd_pick.f k b p n) (Pk p n) :=
  (pick_ok b p n hb hp hp' hn').mono fun _ h => ⟨h.1, h.2.1, h.2.2.1 hn⟩
/-- a place that went on by some, not far -/
def On (p : Int) (m : Int) (q : Int) : Prop := p ≤ q ∧ q ≤ p + m
theorem open_ok (l : List Int) (hl : ∀ x ∈ l, (Lit.int .u8 x).wf = true) : ∃ b, spec_l6Open.f l = some (b, 0) ∧ Bytes b := by
  have hb : Bytes l := fun x hx => wfu8 (hl x hx)
  unfold spec_l6Open.f
  by_cases h : (l.length : Int) > 2000
  · rw [if_pos h, if_pos (by omega)]
    exact ⟨_, rfl, fun x hx => hb x (List.mem_of_mem_take hx)⟩
  · rw [if_neg h]
    exact ⟨_, rfl, hb⟩
end Go.Proofs.Ytglddjbcaknnaaa.Pure
/- The weight of an allergen: two to the power of its number, up to 8. -/
namespace Go.Proofs.Ytglddjbcaknnaaa.Pure
open Go.RowKit Go.Proofs.YtglddjbcaknnaaaW.PrintWords Go.Proofs.YtglddjbcaknnaaaW.PrintLast Go.Proofs.Ytglddjbcaknnaaa.Q
set_option linter.unusedVariables false
set_option linter.unusedSimpArgs false

theorem pow_le (i : Nat) (h : i ≤ 8) : (1 : Int) ≤ 2 ^ i ∧ (2 : Int) ^ i ≤ 256 := by
  have h1 : 2 ^ i ≤ 2 ^ 8 := Nat.pow_le_pow_right (by decide) h
  have h2 : 0 < 2 ^ i := Nat.two_pow_pos i
  constructor
  · have : ((2 ^ i : Nat) : Int) = (2 : Int) ^ i := by simp
    omega
  · have : ((2 ^ i : Nat) : Int) = (2 : Int) ^ i := by simp
    omega
theorem weight_ok (n : Nat) (h : n ≤ 8) : Ok (fun k => spec_l3Weight.f k (n : Int)) (· = (2 : Int) ^ n) := by
  unfold spec_l3Weight.f
  refine Ok.range (fun (s : Int) i k => spec_l3Weight.l0 k (n : Int) s i) n (fun i s => s = 2 ^ i) _ ?_ ?_ 1 rfl
  · rintro i _ hi rfl ih
    have hp := pow_le i (by omega)
    refine Ok.step (fun k => by simp only [spec_l3Weight.l0]; rfl) (Ok.pos (by omega) ?_)
    rw [wrap_id (n := (i : Int) + 1) (by omega) (by omega), wrap_id (n := 2 * 2 ^ i) (by omega) (by omega)]
    exact ih _ (by rw [Int.pow_succ, Int.mul_comm])
  · rintro _ rfl
    exact Ok.step (fun k => by simp only [spec_l3Weight.l0]; rfl) (Ok.neg (by omega) (Ok.ret rfl))
end Go.Proofs.Ytglddjbcaknnaaa.Pure
/- Drawn foods: at most 7. Condition: the bytes are bytes. -/
namespace Go.Proofs.Ytglddjbcaknnaaa.Pure
open Go.RowKit Go.Proofs.YtglddjbcaknnaaaW.PrintWords Go.Proofs.YtglddjbcaknnaaaW.PrintLast Go.Proofs.Ytglddjbcaknnaaa.Q
set_option linter.unusedVariables false
set_option linter.unusedSimpArgs false
theorem l91Food_ok (b : List Int) (p a : Int) (hB : Bytes b) (hp : 0 ≤ p) (hp' : p ≤ 1000000) : Ok (fun k => spec_l91Food.f k b p a) (fun r => On p 16 r.2.2.2.2.2.2) := by
  unfold spec_l91Food.f
  refine Ok.bind (pick_in b p 3 hB (by omega) (by omega) (by omega) (by omega)) ?_
  rintro ⟨v, q⟩ ⟨rfl, h0, h1⟩
  simp only at h0 h1 ⊢
  refine Ok.bind (pick_in b _ 5 hB (by omega) (by omega) (by omega) (by omega)) ?_
  rintro ⟨v2, q⟩ ⟨rfl, h2, h3⟩
  simp only at h2 h3 ⊢
  refine Ok.bind (pick_in b _ 200 hB (by omega) (by omega) (by omega) (by omega)) ?_
  rintro ⟨v3, q⟩ ⟨rfl, h4, h5⟩
  simp only at h4 h5 ⊢
  refine Ok.bind (pick_in b _ 250 hB (by omega) (by omega) (by omega) (by omega)) ?_
  rintro ⟨v4, q⟩ ⟨rfl, h6, h7⟩
  simp only at h6 h7 ⊢
  have key := Ok.range (fun (s : Int × Int × Int × Int × Int × Int × Int) i k => spec_l91Food.l0 k i b s.1 s.2.1 s.2.2.1 s.2.2.2.1 s.2.2.2.2.1 s.2.2.2.2.2.1 s.2.2.2.2.2.2) 8 (fun i s => p + 4 ≤ s.1 ∧ s.1 ≤ p + 4 + i) (fun r => On p 16 r.2.2.2.2.2.2) ?_ ?_ (p + 1 + 1 + 1 + 1, a, wrap64 (1 + v), 0, wrap64 (1 + v2), wrap64 (v3 * 4), v4) ⟨by simp only; omega, by simp only; omega⟩
  · exact key
  · rintro i ⟨q, x0, x1, x2, x3, x4, x5⟩ hi hs ih
    simp only at hs ih ⊢
    refine Ok.step (fun k => by simp only [spec_l91Food.l0]; rfl) (Ok.pos (by omega) (Ok.bind (pick_in b q 6 hB (by omega) (by omega) (by omega) (by omega)) ?_))
    rintro ⟨w, q2⟩ ⟨rfl, h8, h9⟩
    simp only at h8 h9 ⊢
    rw [wrap_id (n := (i : Int) + 1) (by omega) (by omega)]
    exact Ok.ite (fun _ => Ok.bind (weight_ok i (by omega)) fun w _ => ih (q + 1, _, _, _, _, _, _) (by simp only; omega)) (fun _ => ih (q + 1, _, _, _, _, _, _) (by simp only; omega))
  · rintro ⟨q, x0, x1, x2, x3, x4, x5⟩ hs
    simp only at hs ⊢
    refine Ok.step (fun k => by simp only [spec_l91Food.l0]; rfl) (Ok.neg (by omega) (Ok.bind (pick_in b q 60 hB (by omega) (by omega) (by omega) (by omega)) ?_))
    rintro ⟨w, q2⟩ ⟨rfl, h8, h9⟩
    simp only [Option.bind_some] at h8 h9 ⊢
    refine Ok.ite (fun _ => Ok.bind (pick_in b _ 2 hB (by omega) (by omega) (by omega) (by omega)) ?_) (fun _ => Ok.ite (fun _ => Ok.bind (pick_in b _ 2 hB (by omega) (by omega) (by omega) (by omega)) ?_) (fun _ => Ok.ite (fun _ => Ok.bind (pick_in b _ 3 hB (by omega) (by omega) (by omega) (by omega)) ?_) (fun _ => Ok.ret ⟨by simp only; omega, by simp only; omega⟩)))
    · rintro ⟨w2, q3⟩ ⟨rfl, h10, h11⟩
      exact Ok.ret ⟨by simp only; omega, by simp only; omega⟩
    · rintro ⟨w2, q3⟩ ⟨rfl, h10, h11⟩
      exact Ok.ret ⟨by simp only; omega, by simp only; omega⟩
    · rintro ⟨w2, q3⟩ ⟨rfl, h10, h11⟩
      simp only at h10 h11 ⊢
      exact Ok.pos h10 (Ok.pos (by simpa using h11) (Ok.ret ⟨by simp only; omega, by simp only; omega⟩))
theorem l91Foods_ok (b : List Int) (p : Int) (hB : Bytes b) (hp : 0 ≤ p) (hp' : p ≤ 100000) : Ok (fun k => spec_l91Foods.f k b p) (fun r => r.1.length ≤ 7 ∧ On p 200 r.2) := by
  unfold spec_l91Foods.f
  have key : ∀ d i : Nat, i + d = 8 → ∀ (xs : List S62) (q : Int), xs.length ≤ 6 → p ≤ q → q ≤ p + 18 * i → Ok (fun k => spec_l91Foods.l0 k xs ((i : Int) + 1) b q) (fun r => r.1.length ≤ 7 ∧ On p 200 r.2) := by
    intro d
    induction d with
    | zero =>
      intro i hi xs q hx h0 h1
      refine Ok.step (fun k => by simp only [spec_l91Foods.l0]; rfl) (Ok.neg (by omega) (Ok.ite (fun hpos => Ok.bind (pick_in b q 30 hB (by omega) (by omega) (by omega) (by omega)) ?_) (fun _ => Ok.ret ⟨by simp only; omega, by constructor <;> simp only <;> omega⟩)))
      rintro ⟨v, q2⟩ ⟨rfl, h2, h3⟩
      simp only at h2 h3 ⊢
      exact Ok.ite (fun _ => Ok.pos (by omega) (Ok.pos (by omega) (Ok.ret ⟨by simp; omega, by constructor <;> simp only <;> omega⟩))) (fun _ => Ok.ret ⟨by simp only; omega, by constructor <;> simp only <;> omega⟩)
    | succ d ih =>
      intro i hi xs q hx h0 h1
      refine Ok.step (fun k => by simp only [spec_l91Foods.l0]; rfl) (Ok.pos (by omega) (Ok.bind (pick_in b q 3 hB (by omega) (by omega) (by omega) (by omega)) ?_))
      rintro ⟨v, q2⟩ ⟨rfl, h2, h3⟩
      simp only at h2 h3 ⊢
      rw [wrap_id (n := (i : Int) + 1 + 1) (by omega) (by omega)]
      have e : ((i : Int) + 1 + 1) = (((i + 1 : Nat) : Int) + 1) := by omega
      rw [e]
      refine Ok.ite (fun _ => Ok.ite (fun h6 => Ok.bind (l91Food_ok b _ _ hB (by omega) (by omega)) ?_) (fun _ => ih (i + 1) (by omega) _ _ hx (by omega) (by omega))) (fun _ => ih (i + 1) (by omega) _ _ hx (by omega) (by omega))
      rintro ⟨x0, x1, x2, x3, x4, x5, q3⟩ ⟨h4, h5⟩
      simp only at h4 h5 ⊢
      exact Ok.pos (by omega) (ih (i + 1) (by omega) _ _ (by simp; omega) (by omega) (by omega))
  exact key 8 0 rfl [] p (by simp) (by omega) (by omega)
end Go.Proofs.Ytglddjbcaknnaaa.Pure
/- Drawn rules: at most 5. Condition: the bytes are bytes. -/
namespace Go.Proofs.Ytglddjbcaknnaaa.Pure
open Go.RowKit Go.Proofs.YtglddjbcaknnaaaW.PrintWords Go.Proofs.YtglddjbcaknnaaaW.PrintLast Go.Proofs.Ytglddjbcaknnaaa.Q
set_option linter.unusedVariables false
set_option linter.unusedSimpArgs false
theorem l91Rules_ok (b : List Int) (p : Int) (f : List S62) (hB : Bytes b) (hp : 0 ≤ p) (hp' : p ≤ 100000) (hf : f.length ≤ 7) : Ok (fun k => spec_l91Rules.f k b p f) (fun r => r.1.length ≤ 5 ∧ On p 40 r.2) := by
  unfold spec_l91Rules.f
  refine Ok.bind (pick_in b p 6 hB (by omega) (by omega) (by omega) (by omega)) ?_
  rintro ⟨v, q⟩ ⟨rfl, h0, h1⟩
  simp only at h0 h1 ⊢
  obtain ⟨n, rfl⟩ : ∃ n : Nat, v = (n : Int) := ⟨v.toNat, by omega⟩
  have last : ∀ (xs : List S41) (i : Int) (q : Int), xs.length ≤ 5 → p + 1 ≤ q → q ≤ p + 21 → Ok (fun k => spec_l91Rules.j1 k f xs (n : Int) i false b q) (fun r => r.1.length ≤ 5 ∧ On p 40 r.2) := by
    intro xs i q hx h2 h3
    refine Ok.step (fun k => by simp only [spec_l91Rules.j1]; rfl) (Ok.neg (by simp) (Ok.ite (fun hpos => Ok.bind (pick_in b q 24 hB (by omega) (by omega) (by omega) (by omega)) ?_) (fun _ => Ok.ret ⟨by simp only; omega, by constructor <;> simp only <;> omega⟩)))
    rintro ⟨v, q2⟩ ⟨rfl, h4, h5⟩
    simp only at h4 h5 ⊢
    refine Ok.ite (fun _ => Ok.bind (pick_in b _ 2 hB (by omega) (by omega) (by omega) (by omega)) ?_) (fun _ => Ok.ret ⟨by simp only; omega, by constructor <;> simp only <;> omega⟩)
    rintro ⟨v2, q3⟩ ⟨rfl, h6, h7⟩
    simp only at h6 h7 ⊢
    exact Ok.pos (by omega) (Ok.ret ⟨by simp only [List.length_set]; omega, by constructor <;> simp only <;> omega⟩)
  refine Ok.range (fun (s : List S41 × Int) i k => spec_l91Rules.l0 k f s.1 (n : Int) i b s.2) n (fun i s => s.1.length = i ∧ p + 1 ≤ s.2 ∧ s.2 ≤ p + 1 + 4 * i) _ ?_ ?_ ([], p + 1) (by simp)
  · rintro i ⟨xs, q⟩ hi ⟨h2, h3, h4⟩ ih
    simp only at h2 h3 h4 ih ⊢
    refine Ok.step (fun k => by simp only [spec_l91Rules.l0]; rfl) (Ok.pos (by omega) ?_)
    by_cases hf1 : (f.length : Int) > 1
    · rw [decide_eq_true hf1]
      refine Ok.step (fun k => by simp only [spec_l91Rules.j1]; rfl) (Ok.pos (by trivial) (Ok.bind (pick_in b q f.length hB (by omega) (by omega) (by omega) (by omega)) ?_))
      rintro ⟨v, q2⟩ ⟨rfl, h5, h6⟩
      simp only at h5 h6 ⊢
      rw [wrap_id (n := (f.length : Int) - 1) (by omega) (by omega)]
      refine Ok.bind (pick_in b _ ((f.length : Int) - 1) hB (by omega) (by omega) (by omega) (by omega)) ?_
      rintro ⟨v2, q2⟩ ⟨rfl, h7, h8⟩
      simp only at h7 h8 ⊢
      rw [wrap_id (n := v + 1) (by omega) (by omega), wrap_id (n := v + 1 + v2) (by omega) (by omega)]
      have ht := tmod_range (v + 1 + v2) f.length (by omega) (by omega)
      refine Ok.neg (by omega) (Ok.pos h5 (Ok.pos h6 (Ok.pos ht.1 (Ok.pos ht.2 (Ok.bind (pick_in b _ 9 hB (by omega) (by omega) (by omega) (by omega)) ?_)))))
      rintro ⟨v3, q3⟩ ⟨rfl, h9, h10⟩
      simp only at h9 h10 ⊢
      refine Ok.bind (pick_in b _ 9 hB (by omega) (by omega) (by omega) (by omega)) ?_
      rintro ⟨v4, q4⟩ ⟨rfl, h11, h12⟩
      simp only at h11 h12 ⊢
      rw [wrap_id (n := (i : Int) + 1) (by omega) (by omega)]
      exact Ok.pos (by omega) (ih (_, _) ⟨by simp [h2], by simp only; omega, by simp only; omega⟩)
    · rw [decide_eq_false hf1]
      exact last xs _ q (by omega) (by omega) (by omega)
  · rintro ⟨xs, q⟩ ⟨h2, h3, h4⟩
    simp only at h2 h3 h4 ⊢
    exact Ok.step (fun k => by simp only [spec_l91Rules.l0]; rfl) (Ok.neg (by omega) (last xs _ q (by omega) (by omega) (by omega)))
end Go.Proofs.Ytglddjbcaknnaaa.Pure
/- Lists of whole numbers. Condition: at most 2,000,000 elements. -/
namespace Go.Proofs.Ytglddjbcaknnaaa.Pure
open Go.RowKit Go.Proofs.YtglddjbcaknnaaaW.PrintWords Go.Proofs.YtglddjbcaknnaaaW.PrintLast Go.Proofs.Ytglddjbcaknnaaa.Q
set_option linter.unusedVariables false
set_option linter.unusedSimpArgs false

theorem sameInts_ok (a b : List Int) (hl : a.length ≤ 2000000) : Ok (fun k => laws_sameInts.f k a b) (fun r => r = true ↔ a = b) := by
  unfold laws_sameInts.f
  by_cases h : a.length = b.length
  · refine Ok.pos (by omega) ?_
    refine Ok.range (fun (_ : Unit) i k => laws_sameInts.l0 k a b i) a.length (fun i _ => ∀ j, j < i → a.getD j 0 = b.getD j 0) _ ?_ ?_ () (fun j hj => absurd hj (by omega))
    · intro i _ hi hinv ih
      have ew : wrap64 ((i : Int) + 1) = (i : Int) + 1 := wrap_id (by omega) (by omega)
      refine Ok.step (fun k => by simp only [laws_sameInts.l0]; rfl) (Ok.pos (by omega) (Ok.pos (by omega) (Ok.pos (by omega) ?_)))
      rw [ew, rd_nat, rd_nat]
      refine Ok.ite (fun h1 => ih () fun j hj => ?_) (fun h1 => Ok.ret ⟨fun h' => (by cases h'), fun h' => absurd (by rw [h']) h1⟩)
      rcases Nat.lt_succ_iff_lt_or_eq.1 hj with h2 | rfl
      · exact hinv j h2
      · exact h1
    · intro _ hinv
      exact Ok.step (fun k => by simp only [laws_sameInts.l0]; rfl) (Ok.neg (by omega) (Ok.ret ⟨fun _ => eq_of_getD 0 h hinv, fun _ => rfl⟩))
  · exact Ok.neg (by omega) (Ok.ret ⟨fun h' => (by cases h'), fun h' => absurd (by rw [h']) h⟩)
end Go.Proofs.Ytglddjbcaknnaaa.Pure
/- Lists of whole numbers. Condition: at most 2,000,000 elements. -/
namespace Go.Proofs.Ytglddjbcaknnaaa.Pure
open Go.RowKit Go.Proofs.YtglddjbcaknnaaaW.PrintWords Go.Proofs.YtglddjbcaknnaaaW.PrintLast Go.Proofs.Ytglddjbcaknnaaa.Q
set_option linter.unusedVariables false
set_option linter.unusedSimpArgs false

theorem hasInt_ok (a : List Int) (n : Int) (hl : a.length ≤ 2000000) : Ok (fun k => laws_hasInt.f k a n) (fun r => r = true ↔ n ∈ a) := by
  unfold laws_hasInt.f
  refine Ok.range (fun (_ : Unit) i k => laws_hasInt.l0 k a n i) a.length (fun i _ => ∀ j, j < i → a.getD j 0 ≠ n) _ ?_ ?_ () (fun j hj => absurd hj (by omega))
  · intro i _ hi hinv ih
    have ew : wrap64 ((i : Int) + 1) = (i : Int) + 1 := wrap_id (by omega) (by omega)
    refine Ok.step (fun k => by simp only [laws_hasInt.l0]; rfl) (Ok.pos (by omega) (Ok.pos (by omega) ?_))
    rw [ew, rd_nat]
    refine Ok.ite (fun h1 => Ok.ret ⟨fun _ => ?_, fun _ => rfl⟩) (fun h1 => ih () fun j hj => ?_)
    · rw [← h1, getD_at _ _ _ hi]; exact List.getElem_mem hi
    · rcases Nat.lt_succ_iff_lt_or_eq.1 hj with h2 | rfl
      · exact hinv j h2
      · exact h1
  · intro _ hinv
    refine Ok.step (fun k => by simp only [laws_hasInt.l0]; rfl) (Ok.neg (by omega) (Ok.ret ⟨fun h => (by cases h), fun h => ?_⟩))
    obtain ⟨j, hj, e⟩ := List.mem_iff_getElem.1 h
    exact absurd (by rw [getD_at _ _ _ hj]; exact e) (hinv j hj)
end Go.Proofs.Ytglddjbcaknnaaa.Pure
/- Rules for a food are listed: the law comes to true for every input. No conditions. -/
namespace Go.Proofs.Ytglddjbcaknnaaa.Pure
open Go.RowKit Go.Proofs.YtglddjbcaknnaaaW.PrintWords Go.Proofs.YtglddjbcaknnaaaW.PrintLast Go.Proofs.Ytglddjbcaknnaaa.Q
set_option linter.unusedVariables false
set_option linter.unusedSimpArgs false
theorem drawSwapsFor_ok (l : List Int) (hl : ∀ x ∈ l, (Lit.int .u8 x).wf = true) : Ok (fun k => spec_DrawSwapsFor.f k l) (fun r => r.1.length ≤ 5 ∧ r.2.1.length ≤ 7) := by
  unfold spec_DrawSwapsFor.f
  obtain ⟨b, hb, hB⟩ := open_ok l hl
  simp only [hb, Option.bind_some]
  refine Ok.bind (l91Foods_ok b 0 hB (by omega) (by omega)) ?_
  rintro ⟨f, p⟩ ⟨hf, hp⟩
  have hp1 := hp.1
  have hp2 := hp.2
  simp only at hf hp1 hp2 ⊢
  refine Ok.bind (l91Rules_ok b p f hB hp1 (by omega) hf) ?_
  rintro ⟨r, q⟩ ⟨hr, hq⟩
  have hq1 := hq.1
  have hq2 := hq.2
  simp only at hr hq1 hq2 ⊢
  have fin : ∀ (c : Bool) (q : Int), (c = true → 0 < r.length) → 0 ≤ q → q ≤ 1000 → Ok (fun k => spec_DrawSwapsFor.j0 k f r c b q) (fun r => r.1.length ≤ 5 ∧ r.2.1.length ≤ 7) := by
    intro c q hc h0 h1
    refine Ok.step (fun k => by simp only [spec_DrawSwapsFor.j0]; rfl) (Ok.ite (fun h => Ok.bind (pick_in b q r.length hB h0 (by omega) (by have := hc h; omega) (by omega)) ?_) (fun _ => Ok.bind (pick_in b q 10 hB h0 (by omega) (by omega) (by omega)) fun r2 h2 => Ok.ret ⟨hr, hf⟩))
    rintro ⟨v, q2⟩ ⟨rfl, h2, h3⟩
    simp only at h2 h3 ⊢
    exact Ok.pos h2 (Ok.pos h3 (Ok.ret ⟨hr, hf⟩))
  refine Ok.ite (fun hpos => Ok.bind (pick_in b q 5 hB (by omega) (by omega) (by omega) (by omega)) ?_) (fun _ => fin false q (fun h => (by cases h)) (by omega) (by omega))
  rintro ⟨v, q2⟩ ⟨rfl, h2, h3⟩
  simp only at h2 h3 ⊢
  exact fin _ _ (fun _ => by omega) (by omega) (by omega)
theorem FnSwapsFor : laws_FnSwapsFor.Pure := by
  intro l _ _ hl
  apply Ok.rounds
  unfold laws_FnSwapsFor.f
  refine Ok.ite (fun _ => Ok.ret rfl) fun _ => Ok.bind (drawSwapsFor_ok l hl) ?_
  rintro ⟨r, f, id⟩ ⟨hr, hf⟩
  simp only at hr hf ⊢
  refine Ok.bind (iFor_ok r f id (by omega) (by omega)) fun o h1 => Ok.bind (sFor_ok r f id (by omega) (by omega)) fun o2 h2 => ?_
  obtain rfl := h1.eq h2
  have hlen : o.length ≤ 2000000 := by have := h1.len; omega
  have stop : Ok (fun k => laws_FnSwapsFor.j0 k r id o o true) (· = true) := Ok.step (fun k => by simp only [laws_FnSwapsFor.j0]; rfl) (Ok.pos (by trivial) (Ok.bind (sameInts_ok o o hlen) fun b hb => Ok.ret (hb.2 rfl)))
  refine Ok.bind (sameInts_ok o o hlen) fun b hb => Ok.pos (hb.2 rfl) (Ok.bind (sSwaps_ok r f (by omega) (by omega)) fun b hb => ?_)
  cases b with
  | false => exact stop
  | true =>
    have v := hb.1 rfl
    have e := h1.1 v
    have el := h1.len
    refine Ok.step (fun k => by simp only [laws_FnSwapsFor.j0]; rfl) (Ok.neg (by simp) ?_)
    refine Ok.range (fun (_ : Unit) i k => laws_FnSwapsFor.l0 k r id o i) r.length (fun _ _ => True) _ ?_ ?_ () trivial
    · intro i _ hi _ ih
      refine Ok.step (fun k => by simp only [laws_FnSwapsFor.l0]; rfl) (Ok.pos (by omega) (Ok.bind (hasInt_ok o i hlen) fun b hb => Ok.pos (by omega) ?_))
      rw [sAt_rd, wrap_id (n := (i : Int) + 1) (by omega) (by omega)]
      refine Ok.neg ?_ (ih () trivial)
      have : b = ((sAt r i).f0 == id) := by
        refine bool_of_iff hb ?_
        rw [beq_iff_eq, e, forR_mem]
        exact ⟨fun h => ⟨i, hi, rfl, h⟩, fun ⟨j, _, h2, h3⟩ => by obtain rfl : i = j := (by omega); exact h3⟩
      rw [this]; simp
    · intro _ _
      exact Ok.step (fun k => by simp only [laws_FnSwapsFor.l0]; rfl) (Ok.neg (by omega) (Ok.ret (decide_eq_true (by omega))))
end Go.Proofs.Ytglddjbcaknnaaa.Pure
