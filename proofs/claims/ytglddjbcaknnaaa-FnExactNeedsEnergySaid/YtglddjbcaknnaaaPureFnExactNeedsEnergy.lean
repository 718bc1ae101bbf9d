/- The program's NeedsEnergy returns what the reference's returns, for all arguments. No conditions. -/
import Derived.Test.YtglddjbcaknnaaaWMore
import Derived.Test.YtglddjbcaknnaaaQx2
import Derived.Test.YtglddjbcaknnaaaQx3
import Derived.Test.YtglddjbcaknnaaaQx14
import Derived.Test.YtglddjbcaknnaaaQx4
import Derived.Test.YtglddjbcaknnaaaQx15
import Derived.Test.YtglddjbcaknnaaaQx1
import Derived.Test.YtglddjbcaknnaaaQx6
import Derived.Test.YtglddjbcaknnaaaQx7
/- Plain logic for printed functions: from some number of rounds on a function answers, and its answer fits. No conditions. -/
namespace Go.Proofs.Ytglddjbcaknnaaa.Pure
open Go.RowKit Go.Proofs.YtglddjbcaknnaaaW.PrintWords Go.Proofs.YtglddjbcaknnaaaW.PrintLast

/-- g answers from some number of rounds on, and the answer is as Q says. -/
def Ok {α : Type} (g : Nat → Option α) (Q : α → Prop) : Prop := ∃ r, Ev g r ∧ Q r
theorem Ok.ret {α : Type} {r : α} {Q : α → Prop} (h : Q r) : Ok (fun _ => some r) Q := ⟨r, Ev.now r, h⟩
theorem Ok.of_eq {α : Type} {o : Option α} {r : α} {Q : α → Prop} (e : o = some r) (h : Q r) : Ok (fun _ => o) Q := by subst e; exact Ok.ret h
theorem Ok.bind {α β : Type} {g : Nat → Option α} {f : Nat → α → Option β} {P : α → Prop} {Q : β → Prop} (h : Ok g P) (k : ∀ a, P a → Ok (fun n => f n a) Q) : Ok (fun n => (g n).bind (f n)) Q := by
  obtain ⟨a, ha, hp⟩ := h
  obtain ⟨r, hr, hq⟩ := k a hp
  exact ⟨r, Ev.bind ha hr, hq⟩
theorem Ok.val {α β : Type} {a : α} {f : Nat → α → Option β} {Q : β → Prop} (h : Ok (fun n => f n a) Q) : Ok (fun n => (some a).bind (f n)) Q := h
theorem Ok.pos {α : Type} {c : Prop} [Decidable c] {t e : Nat → Option α} {Q : α → Prop} (hc : c) (h : Ok t Q) : Ok (fun n => if c then t n else e n) Q := by simpa only [if_pos hc] using h
theorem Ok.neg {α : Type} {c : Prop} [Decidable c] {t e : Nat → Option α} {Q : α → Prop} (hc : ¬ c) (h : Ok e Q) : Ok (fun n => if c then t n else e n) Q := by simpa only [if_neg hc] using h
theorem Ok.ite {α : Type} {c : Prop} [Decidable c] {t e : Nat → Option α} {Q : α → Prop} (h : c → Ok t Q) (k : ¬ c → Ok e Q) : Ok (fun n => if c then t n else e n) Q := by
  by_cases hc : c
  · exact Ok.pos hc (h hc)
  · exact Ok.neg hc (k hc)
theorem Ok.step {α : Type} {g f : Nat → Option α} {Q : α → Prop} (h : ∀ k, g (k + 1) = f k) (k : Ok f Q) : Ok g Q := by
  obtain ⟨r, hr, hq⟩ := k
  exact ⟨r, Ev.step h hr, hq⟩
theorem Ok.congr {α : Type} {g f : Nat → Option α} {Q : α → Prop} (h : ∀ k, g k = f k) (k : Ok f Q) : Ok g Q := by
  obtain ⟨r, hr, hq⟩ := k
  exact ⟨r, Ev.congr h hr, hq⟩
theorem Ok.mono {α : Type} {g : Nat → Option α} {P Q : α → Prop} (h : Ok g P) (k : ∀ a, P a → Q a) : Ok g Q := by
  obtain ⟨r, hr, hp⟩ := h
  exact ⟨r, hr, k r hp⟩
theorem Ok.and {α : Type} {g : Nat → Option α} {P Q : α → Prop} (h : Ok g P) (k : Ok g Q) : Ok g (fun a => P a ∧ Q a) := by
  obtain ⟨r, ⟨K, hr⟩, hp⟩ := h
  obtain ⟨r', ⟨K', hr'⟩, hq⟩ := k
  have h1 := hr (max K K') (by omega)
  have h2 := hr' (max K K') (by omega)
  obtain rfl : r = r' := by rw [h1] at h2; injection h2
  exact ⟨r, ⟨K, hr⟩, hp, hq⟩
theorem Ok.rounds {α : Type} {g : Nat → Option α} {r : α} (h : Ok g (· = r)) : ∃ k, g k = some r := by
  obtain ⟨_, hr, rfl⟩ := h
  exact hr.rounds
theorem Ok.eq {α : Type} {g : Nat → Option α} {r : α} {Q : α → Prop} (h : Ok g (· = r)) (q : Q r) : Ok g Q := h.mono fun _ e => by subst e; exact q
theorem wrap_id {n : Int} (h0 : -9223372036854775808 ≤ n) (h1 : n ≤ 9223372036854775807) : wrap64 n = n := by unfold wrap64; omega
theorem wf64 {n : Int} (h : (Lit.int .i64 n).wf = true) : -9223372036854775808 ≤ n ∧ n ≤ 9223372036854775807 := by
  simp [Lit.wf, IntKind.min, IntKind.max, IntKind.signed, IntKind.bits] at h
  omega
theorem wfu8 {n : Int} (h : (Lit.int .u8 n).wf = true) : 0 ≤ n ∧ n ≤ 255 := by
  simp [Lit.wf, IntKind.min, IntKind.max, IntKind.signed, IntKind.bits] at h
  omega
/-- A loop that counts an index up to n, with what else it carries in s. -/
theorem Ok.range {σ ρ : Type} (L : σ → Int → Nat → Option ρ) (n : Nat) (Inv : Nat → σ → Prop) (Q : ρ → Prop)
    (step : ∀ (i : Nat) (s : σ), i < n → Inv i s → (∀ s', Inv (i + 1) s' → Ok (L s' ((i : Int) + 1)) Q) → Ok (L s (i : Int)) Q)
    (last : ∀ s, Inv n s → Ok (L s (n : Int)) Q) : ∀ s, Inv 0 s → Ok (L s 0) Q := by
  have key : ∀ d i, i + d = n → ∀ s, Inv i s → Ok (L s (i : Int)) Q := by
    intro d
    induction d with
    | zero => intro i hi s hs; obtain rfl : i = n := (by omega); exact last s hs
    | succ d ih =>
      intro i hi s hs
      refine step i s (by omega) hs fun s' hs' => ?_
      have := ih (i + 1) (by omega) s' hs'
      rwa [show ((i + 1 : Nat) : Int) = (i : Int) + 1 by omega] at this
  exact fun s hs => key n 0 (by omega) s hs
/-- The same for a loop that counts down from n - 1. -/
theorem Ok.down {σ ρ : Type} (L : σ → Int → Nat → Option ρ) (n : Nat) (Inv : Nat → σ → Prop) (Q : ρ → Prop)
    (step : ∀ (i : Nat) (s : σ), i < n → Inv (i + 1) s → (∀ s', Inv i s' → Ok (L s' ((i : Int) - 1)) Q) → Ok (L s (i : Int)) Q)
    (last : ∀ s, Inv 0 s → Ok (L s (-1)) Q) : ∀ s, Inv n s → Ok (L s ((n : Int) - 1)) Q := by
  have key : ∀ i, i ≤ n → ∀ s, Inv i s → Ok (L s ((i : Int) - 1)) Q := by
    intro i
    induction i with
    | zero => intro _ s hs; exact last s hs
    | succ i ih =>
      intro hi s hs
      have := step i s (by omega) hs fun s' hs' => ih (by omega) s' hs'
      rwa [show ((i + 1 : Nat) : Int) - 1 = (i : Int) by omega]
  exact fun s hs => key n (Nat.le_refl _) s hs
theorem bool_of_iff {a b : Bool} {P : Prop} (h : a = true ↔ P) (k : b = true ↔ P) : a = b := by
  cases a <;> cases b <;> simp_all
theorem take_next {α : Type} {l : List α} {i : Nat} (d : α) (h : i < l.length) : l.take (i + 1) = l.take i ++ [l.getD i d] := by
  rw [List.take_succ_eq_append_getElem h, List.getD_eq_getElem?_getD, List.getElem?_eq_getElem h, Option.getD_some]
theorem getD_at {α : Type} (l : List α) (d : α) (i : Nat) (h : i < l.length) : l.getD i d = l[i] := by
  rw [List.getD_eq_getElem?_getD, List.getElem?_eq_getElem h, Option.getD_some]
theorem len_small {α : Type} {l : List α} (h : l.length ≤ maxLen) : (l.length : Int) ≤ 9223372036854775807 := by unfold maxLen at h; omega
end Go.Proofs.Ytglddjbcaknnaaa.Pure
/- Ranges, and the bits of sets. No conditions. -/
namespace Go.Proofs.Ytglddjbcaknnaaa.Pure
open Go.RowKit Go.Proofs.YtglddjbcaknnaaaW.PrintWords Go.Proofs.YtglddjbcaknnaaaW.PrintLast
set_option linter.unusedVariables false
set_option linter.unusedSimpArgs false

def inr (a lo hi : Int) : Bool := decide (lo ≤ a ∧ a ≤ hi)
theorem inr_iff (a lo hi : Int) : inr a lo hi = true ↔ lo ≤ a ∧ a ≤ hi := by simp [inr]
theorem bits_nat64 (a b : Nat) (ha : a < 256) (hb : b < 256) : Go.bits .and .i64 (a : Int) (b : Int) = ((a &&& b : Nat) : Int) ∧ Go.bits .or .i64 (a : Int) (b : Int) = ((a ||| b : Nat) : Int) :=
  Go.bits_nat .i64 8 (by decide) (fun n h0 h1 => by rw [IntKind.wrap_i64]; omega) a b ha hb
theorem set_nat {a : Int} (h : 0 ≤ a ∧ a ≤ 255) : ∃ n : Nat, a = (n : Int) ∧ n < 256 := ⟨a.toNat, by omega, by omega⟩
end Go.Proofs.Ytglddjbcaknnaaa.Pure
/- The reference's ranges and sets. No conditions. -/
namespace Go.Proofs.Ytglddjbcaknnaaa.Pure
open Go.RowKit Go.Proofs.YtglddjbcaknnaaaW.PrintWords Go.Proofs.YtglddjbcaknnaaaW.PrintLast Go.Proofs.Ytglddjbcaknnaaa.Q
set_option linter.unusedVariables false
set_option linter.unusedSimpArgs false

theorem l6In_eq (a lo hi : Int) : spec_l6In.f a lo hi = some (inr a lo hi) := by
  unfold spec_l6In.f inr
  by_cases h : a ≥ lo
  · rw [if_pos h]; simp [h]
  · rw [if_neg h]; simp; omega
theorem l3Set_eq (a : Int) : spec_l3Set.f a = some (inr a 0 255) := by simp only [spec_l3Set.f, l6In_eq, Option.bind_some]
end Go.Proofs.Ytglddjbcaknnaaa.Pure
/- The program's ranges, sets and kinds. No conditions. -/
namespace Go.Proofs.Ytglddjbcaknnaaa.Pure
open Go.RowKit Go.Proofs.YtglddjbcaknnaaaW.PrintWords Go.Proofs.YtglddjbcaknnaaaW.PrintLast Go.Proofs.Ytglddjbcaknnaaa.Q
set_option linter.unusedVariables false
set_option linter.unusedSimpArgs false

theorem within_eq (a lo hi : Int) : impl_within.f a lo hi = some (inr a lo hi) := by
  unfold impl_within.f inr
  by_cases h : a ≥ lo
  · rw [if_pos h]; simp [h]
  · rw [if_neg h]; simp; omega
theorem isSet_eq (a : Int) : impl_isSet.f a = some (inr a 0 255) := by simp only [impl_isSet.f, within_eq, Option.bind_some]
theorem isKind_eq (a : Int) : impl_isKind.f a = some (inr a 1 5) := by simp only [impl_isKind.f, within_eq, Option.bind_some]
end Go.Proofs.Ytglddjbcaknnaaa.Pure
/- When foods are valid, in the program and in the reference. Condition: at most 2,000,000. -/
namespace Go.Proofs.Ytglddjbcaknnaaa.Pure
open Go.RowKit Go.Proofs.YtglddjbcaknnaaaW.PrintWords Go.Proofs.YtglddjbcaknnaaaW.PrintLast Go.Proofs.Ytglddjbcaknnaaa.Q
set_option linter.unusedVariables false
set_option linter.unusedSimpArgs false
abbrev Fd := S62
def fAt (l : List Fd) (i : Nat) : Fd := l.getD i z62
theorem fAt_rd (l : List Fd) (i : Nat) : rd_T62 l (i : Int) = fAt l i := rfl
theorem fAt_prev (l : List Fd) (i : Nat) (h : 0 < i) : rd_T62 l ((i : Int) - 1) = fAt l (i - 1) := by
  unfold rd_T62 fAt
  rw [show ((i : Int) - 1).toNat = i - 1 by omega]
def fB (x : Fd) : Bool := inr x.f0 1 20 && inr x.f1 1 3 && inr x.f2 0 255 && inr x.f3 1 5 && inr x.f4 0 999 && inr x.f5 0 999
theorem fB_iff (x : Fd) : fB x = true ↔ (1 ≤ x.f0 ∧ x.f0 ≤ 20) ∧ (1 ≤ x.f1 ∧ x.f1 ≤ 3) ∧ (0 ≤ x.f2 ∧ x.f2 ≤ 255) ∧ (1 ≤ x.f3 ∧ x.f3 ≤ 5) ∧ (0 ≤ x.f4 ∧ x.f4 ≤ 999) ∧ 0 ≤ x.f5 ∧ x.f5 ≤ 999 := by simp [fB, inr_iff, and_assoc]
/-- element i is as it must be -/
def fGood (l : List Fd) (i : Nat) : Prop := fB (fAt l i) = true ∧ (0 < i → (fAt l (i - 1)).f0 < (fAt l i).f0)
/-- foods are valid -/
def FV (l : List Fd) : Prop := l.length ≤ 6 ∧ ∀ i, i < l.length → fGood l i
theorem isId_eq (a : Int) : impl_isId.f a = some (inr a 1 20) := by simp only [impl_isId.f, within_eq, Option.bind_some]
theorem sFoods_ok (l : List Fd) (hl : l.length ≤ 2000000) : Ok (fun k => spec_FoodsValid.f k l) (fun r => r = true ↔ FV l) := by
  unfold spec_FoodsValid.f
  refine Ok.range (fun (_ : Unit) i k => spec_FoodsValid.l0 k l i) l.length (fun i _ => ∀ j, j < i → fGood l j) _ ?_ ?_ () (fun j hj => absurd hj (by omega))
  · intro i _ hi hinv ih
    refine Ok.step (fun k => by simp only [spec_FoodsValid.l0]; rfl) (Ok.pos (by omega) (Ok.pos (by omega) ?_))
    simp only [l6In_eq, l3Set_eq, Option.bind_some, fAt_rd]
    have bad : ¬ fGood l i → Ok (fun k => spec_FoodsValid.j1 k l (i : Int) true (fAt l i).f0 (fAt l i).f1 (fAt l i).f2 (fAt l i).f3 (fAt l i).f4 (fAt l i).f5) (fun r : Bool => r = true ↔ FV l) := fun h => Ok.step (fun k => by simp only [spec_FoodsValid.j1]; rfl) (Ok.pos (by trivial) (Ok.ret ⟨fun h' => (by cases h'), fun h' => absurd (h'.2 i hi) h⟩))
    have good : fGood l i → Ok (fun k => spec_FoodsValid.l0 k l ((i : Int) + 1)) (fun r : Bool => r = true ↔ FV l) := fun h => ih () (fun j hj => by
      rcases Nat.lt_succ_iff_lt_or_eq.1 hj with h1 | rfl
      · exact hinv j h1
      · exact h)
    have fb : inr (fAt l i).f0 1 20 = true → inr (fAt l i).f1 1 3 = true → inr (fAt l i).f2 0 255 = true → inr (fAt l i).f3 1 5 = true → inr (fAt l i).f4 0 999 = true → inr (fAt l i).f5 0 999 = true → fB (fAt l i) = true := fun h1 h2 h3 h4 h5 h6 => by simp [fB, h1, h2, h3, h4, h5, h6]
    refine Ok.ite (fun h1 => Ok.ite (fun h2 => Ok.ite (fun h3 => Ok.ite (fun h4 => Ok.ite (fun h5 => ?_) (fun h => bad fun g => h (by have := (fB_iff _).1 g.1; exact (inr_iff _ _ _).2 (by omega)))) (fun h => bad fun g => h (by have := (fB_iff _).1 g.1; exact (inr_iff _ _ _).2 (by omega)))) (fun h => bad fun g => h (by have := (fB_iff _).1 g.1; exact (inr_iff _ _ _).2 (by omega)))) (fun h => bad fun g => h (by have := (fB_iff _).1 g.1; exact (inr_iff _ _ _).2 (by omega)))) (fun h => bad fun g => h (by have := (fB_iff _).1 g.1; exact (inr_iff _ _ _).2 (by omega)))
    cases h6 : inr (fAt l i).f5 0 999 with
    | false => exact bad fun g => by have := (fB_iff _).1 g.1; rw [(inr_iff _ _ _).2 this.2.2.2.2.2] at h6; cases h6
    | true =>
      refine Ok.step (fun k => by simp only [spec_FoodsValid.j1]; rfl) (Ok.neg (by simp) ?_)
      rw [wrap_id (n := (i : Int) + 1) (by omega) (by omega), wrap_id (n := (i : Int) - 1) (by omega) (by omega)]
      refine Ok.ite (fun h7 => Ok.pos (by omega) (Ok.pos (by omega) ?_)) (fun h7 => good ⟨fb h1 h2 h3 h4 h5 h6, fun h => absurd h (by omega)⟩)
      rw [fAt_prev l i (by omega)]
      exact Ok.ite (fun h8 => Ok.ret ⟨fun h' => (by cases h'), fun h' => by have := (h'.2 i hi).2 (by omega); omega⟩) (fun h8 => good ⟨fb h1 h2 h3 h4 h5 h6, fun _ => by omega⟩)
  · intro _ hinv
    refine Ok.step (fun k => by simp only [spec_FoodsValid.l0]; rfl) (Ok.neg (by omega) (Ok.ret ?_))
    rw [decide_eq_true_iff]
    exact ⟨fun h => ⟨by omega, hinv⟩, fun h => by have := h.1; omega⟩
theorem iFoods_ok (l : List Fd) (hl : l.length ≤ 2000000) : Ok (fun k => impl_FoodsValid.f k l) (fun r => r = true ↔ FV l) := by
  unfold impl_FoodsValid.f
  refine Ok.range (fun (_ : Unit) i k => impl_FoodsValid.l0 k l l (l.length : Int) i) l.length (fun i _ => ∀ j, j < i → fGood l j) _ ?_ ?_ () (fun j hj => absurd hj (by omega))
  · intro i _ hi hinv ih
    refine Ok.step (fun k => by simp only [impl_FoodsValid.l0]; rfl) (Ok.pos (by omega) (Ok.pos (by omega) (Ok.pos (by omega) ?_)))
    have ew : wrap64 ((i : Int) + 1) = (i : Int) + 1 := wrap_id (by omega) (by omega)
    have ew' : wrap64 ((i : Int) - 1) = (i : Int) - 1 := wrap_id (by omega) (by omega)
    simp only [isId_eq, within_eq, isSet_eq, isKind_eq, Option.bind_some, ew, ew', fAt_rd]
    have bad : ¬ fGood l i → Ok (fun _ => some false) (fun r : Bool => r = true ↔ FV l) := fun h => Ok.ret ⟨fun h' => (by cases h'), fun h' => absurd (h'.2 i hi) h⟩
    have good : fGood l i → Ok (fun k => impl_FoodsValid.l0 k l l (l.length : Int) ((i : Int) + 1)) (fun r : Bool => r = true ↔ FV l) := fun h => ih () (fun j hj => by
      rcases Nat.lt_succ_iff_lt_or_eq.1 hj with h1 | rfl
      · exact hinv j h1
      · exact h)
    have fb : inr (fAt l i).f0 1 20 = true → inr (fAt l i).f1 1 3 = true → inr (fAt l i).f2 0 255 = true → inr (fAt l i).f3 1 5 = true → inr (fAt l i).f4 0 999 = true → inr (fAt l i).f5 0 999 = true → fB (fAt l i) = true := fun h1 h2 h3 h4 h5 h6 => by simp [fB, h1, h2, h3, h4, h5, h6]
    refine Ok.ite (fun h1 => Ok.ite (fun h2 => Ok.ite (fun h3 => Ok.ite (fun h4 => Ok.ite (fun h5 => Ok.ite (fun h6 => Ok.ite (fun h7 => ?_) (fun h7 => good ⟨fb h1 h2 h3 h4 h5 h6, fun h => absurd h (by omega)⟩)) (fun h => bad fun g => h (by have := (fB_iff _).1 g.1; exact (inr_iff _ _ _).2 (by omega)))) (fun h => bad fun g => h (by have := (fB_iff _).1 g.1; exact (inr_iff _ _ _).2 (by omega)))) (fun h => bad fun g => h (by have := (fB_iff _).1 g.1; exact (inr_iff _ _ _).2 (by omega)))) (fun h => bad fun g => h (by have := (fB_iff _).1 g.1; exact (inr_iff _ _ _).2 (by omega)))) (fun h => bad fun g => h (by have := (fB_iff _).1 g.1; exact (inr_iff _ _ _).2 (by omega)))) (fun h => bad fun g => h (by have := (fB_iff _).1 g.1; exact (inr_iff _ _ _).2 (by omega)))
    refine Ok.pos (by omega) (Ok.pos (by omega) ?_)
    simp only [fAt_prev l i (by omega)]
    exact Ok.ite (fun h8 => bad fun h => by have := h.2 (by omega); omega) (fun h8 => good ⟨fb h1 h2 h3 h4 h5 h6, fun _ => by omega⟩)
  · intro _ hinv
    refine Ok.step (fun k => by simp only [impl_FoodsValid.l0]; rfl) (Ok.neg (by omega) (Ok.ret ?_))
    rw [decide_eq_true_iff]
    exact ⟨fun h => ⟨by omega, hinv⟩, fun h => by have := h.1; omega⟩
end Go.Proofs.Ytglddjbcaknnaaa.Pure
/- Lists, read and written element by element. No conditions. -/
namespace Go.Proofs.Ytglddjbcaknnaaa.Pure
open Go.RowKit Go.Proofs.YtglddjbcaknnaaaW.PrintWords Go.Proofs.YtglddjbcaknnaaaW.PrintLast
set_option linter.unusedVariables false
set_option linter.unusedSimpArgs false

theorem rd_nat (l : List Int) (i : Nat) : rd l (i : Int) = l.getD i 0 := rfl
theorem eq_of_getD {α : Type} {a b : List α} (d : α) (h : a.length = b.length) (k : ∀ i, i < a.length → a.getD i d = b.getD i d) : a = b := by
  refine List.ext_getElem h fun i h1 h2 => ?_
  have := k i h1
  rwa [getD_at _ _ _ h1, getD_at _ _ _ h2] at this
theorem getD_set {α : Type} (l : List α) (d v : α) (i j : Nat) (hi : i < l.length) : (l.set i v).getD j d = if j = i then v else l.getD j d := by
  rw [List.getD_eq_getElem?_getD, List.getElem?_set]
  by_cases h : i = j
  · subst h; simp [hi]
  · rw [if_neg h, if_neg (fun e => h e.symm), ← List.getD_eq_getElem?_getD]
theorem getD_snoc {α : Type} (l : List α) (d v : α) (j : Nat) : (l ++ [v]).getD j d = if j = l.length then v else l.getD j d := by
  rw [List.getD_eq_getElem?_getD, List.getElem?_append]
  by_cases h : j < l.length
  · rw [if_pos h, if_neg (by omega), ← List.getD_eq_getElem?_getD]
  · rw [if_neg h]
    by_cases e : j = l.length
    · subst e; simp
    · rw [if_neg e, List.getElem?_eq_none (by simp; omega), List.getD_eq_getElem?_getD, List.getElem?_eq_none (by omega)]
theorem skip_getD {α : Type} (l : List α) (d : α) (k i : Nat) (hk : k < l.length) : (l.take k ++ l.drop (k + 1)).getD i d = if i < k then l.getD i d else l.getD (i + 1) d := by
  simp only [List.getD_eq_getElem?_getD, List.getElem?_append, List.length_take]
  by_cases h : i < k
  · rw [if_pos h, if_pos (by omega), List.getElem?_take, if_pos h]
  · rw [if_neg h, if_neg (by omega), List.getElem?_drop, show k + 1 + (i - min k l.length) = i + 1 by omega]
theorem skip_len {α : Type} (l : List α) (k : Nat) (hk : k < l.length) : (l.take k ++ l.drop (k + 1)).length = l.length - 1 := by simp; omega
end Go.Proofs.Ytglddjbcaknnaaa.Pure
/- The place of a food, in the program and in the reference. Condition: at most 2,000,000 foods. -/
namespace Go.Proofs.Ytglddjbcaknnaaa.Pure
open Go.RowKit Go.Proofs.YtglddjbcaknnaaaW.PrintWords Go.Proofs.YtglddjbcaknnaaaW.PrintLast Go.Proofs.Ytglddjbcaknnaaa.Q
set_option linter.unusedVariables false
set_option linter.unusedSimpArgs false
def fPl (l : List Fd) (id : Int) : Int := idxOf (fun x => x.f0 == id) l
theorem foodPlace_eq (l : List Fd) (id : Int) : impl_foodPlace.f l id = some (fPl l id) := rfl
theorem fPl_none {l : List Fd} {id : Int} (h : ∀ j, j < l.length → (fAt l j).f0 ≠ id) : fPl l id = -1 := idxOf_miss _ l z62 fun j hj => beq_eq_false_iff_ne.2 (h j hj)
theorem fPl_hit {l : List Fd} {id : Int} {k : Nat} (hk : k < l.length) (h : (fAt l k).f0 = id) (hn : ∀ j, j < k → (fAt l j).f0 ≠ id) : fPl l id = (k : Int) := idxOf_hit _ l z62 k hk (beq_iff_eq.2 h) fun j hj => beq_eq_false_iff_ne.2 (hn j hj)
theorem fPl_is (l : List Fd) (id : Int) : (fPl l id = -1 ∧ ∀ j, j < l.length → (fAt l j).f0 ≠ id) ∨ ∃ k : Nat, fPl l id = k ∧ k < l.length ∧ (fAt l k).f0 = id ∧ ∀ j, j < k → (fAt l j).f0 ≠ id := by
  have key : ∀ d i, i + d = l.length → (∀ j, j < i → (fAt l j).f0 ≠ id) → (fPl l id = -1 ∧ ∀ j, j < l.length → (fAt l j).f0 ≠ id) ∨ ∃ k : Nat, fPl l id = k ∧ k < l.length ∧ (fAt l k).f0 = id ∧ ∀ j, j < k → (fAt l j).f0 ≠ id := by
    intro d
    induction d with
    | zero =>
      intro i hi h
      exact .inl ⟨fPl_none fun j hj => h j (by omega), fun j hj => h j (by omega)⟩
    | succ d ih =>
      intro i hi h
      by_cases e : (fAt l i).f0 = id
      · exact .inr ⟨i, fPl_hit (by omega) e h, by omega, e, h⟩
      · refine ih (i + 1) (by omega) fun j hj => ?_
        rcases Nat.lt_succ_iff_lt_or_eq.1 hj with h1 | rfl
        · exact h j h1
        · exact e
  exact key l.length 0 (by omega) fun j hj => absurd hj (by omega)
theorem l5Find_ok (l : List Fd) (id : Int) (hl : l.length ≤ 2000000) : Ok (fun k => spec_l5Find.f k l id) (· = fPl l id) := by
  unfold spec_l5Find.f
  refine Ok.range (fun (_ : Unit) i k => spec_l5Find.l0 k l id i) l.length (fun i _ => ∀ j, j < i → (fAt l j).f0 ≠ id) _ ?_ ?_ () (fun j hj => absurd hj (by omega))
  · intro i _ hi hinv ih
    refine Ok.step (fun k => by simp only [spec_l5Find.l0]; rfl) (Ok.pos (by omega) (Ok.pos (by omega) ?_))
    rw [fAt_rd, wrap_id (n := (i : Int) + 1) (by omega) (by omega)]
    refine Ok.ite (fun h => Ok.ret (fPl_hit hi h hinv).symm) (fun h => ih () fun j hj => ?_)
    rcases Nat.lt_succ_iff_lt_or_eq.1 hj with h1 | rfl
    · exact hinv j h1
    · exact h
  · intro _ hinv
    exact Ok.step (fun k => by simp only [spec_l5Find.l0]; rfl) (Ok.neg (by omega) (Ok.ret (fPl_none hinv).symm))
/-- valid foods: one place for each number -/
theorem food_lt {l : List Fd} (v : FV l) : ∀ j i, i < j → j < l.length → (fAt l i).f0 < (fAt l j).f0
  | 0, i, h, _ => absurd h (by omega)
  | j + 1, i, h, hj => by
    have h1 := (v.2 (j + 1) hj).2 (by omega)
    rw [Nat.add_sub_cancel] at h1
    rcases Nat.lt_succ_iff_lt_or_eq.1 h with h2 | rfl
    · exact Int.lt_trans (food_lt v j i h2 (by omega)) h1
    · exact h1
theorem food_at {l : List Fd} (v : FV l) (k : Nat) (hk : k < l.length) : fPl l (fAt l k).f0 = (k : Int) :=
  fPl_hit hk rfl fun j hj => Int.ne_of_lt (food_lt v k j hj hk)
end Go.Proofs.Ytglddjbcaknnaaa.Pure
/- When needs are valid, in the program and in the reference. Condition: at most 2,000,000. -/
namespace Go.Proofs.Ytglddjbcaknnaaa.Pure
open Go.RowKit Go.Proofs.YtglddjbcaknnaaaW.PrintWords Go.Proofs.YtglddjbcaknnaaaW.PrintLast Go.Proofs.Ytglddjbcaknnaaa.Q
set_option linter.unusedVariables false
set_option linter.unusedSimpArgs false
def NV (l : List Fd) (p : List Int) : Prop := FV l ∧ p.length = l.length ∧ ∀ i, i < p.length → inr (p.getD i 0) 0 999999 = true
theorem bad_need (n : Int) : impl_needsValid.bad n = !inr n 0 999999 := rfl
theorem iNeeds_ok (l : List Fd) (p : List Int) (hl : l.length ≤ 2000000) : Ok (fun k => impl_needsValid.f k l p) (fun r => r = true ↔ NV l p) := by
  unfold impl_needsValid.f
  refine Ok.bind (iFoods_ok l hl) fun b hb => Ok.ite (fun h => Ok.ite (fun h2 => Ok.ret ?_) (fun h2 => Ok.ret ⟨fun h' => (by cases h'), fun h' => absurd h'.2.1 (by omega)⟩)) (fun h => Ok.ret ⟨fun h' => (by cases h'), fun h' => absurd (hb.2 h'.1) h⟩)
  simp only [Bool.not_eq_true', List.any_eq_false, bad_need, Bool.not_eq_false]
  constructor
  · intro h'
    refine ⟨hb.1 h, by omega, fun i hi => ?_⟩
    rw [getD_at _ _ _ hi]
    exact h' _ (List.getElem_mem hi)
  · intro h' x hx
    obtain ⟨i, hi, rfl⟩ := List.mem_iff_getElem.1 hx
    have := h'.2.2 i hi
    rwa [getD_at _ _ _ hi] at this
theorem sNeeds_ok (l : List Fd) (p : List Int) (hl : l.length ≤ 2000000) (hp : p.length ≤ 2000000) : Ok (fun k => spec_l15Needs.f k l p) (fun r => r = true ↔ NV l p) := by
  unfold spec_l15Needs.f
  refine Ok.range (fun (_ : Unit) i k => spec_l15Needs.l0 k l p i) p.length (fun i _ => ∀ j, j < i → inr (p.getD j 0) 0 999999 = true) _ ?_ ?_ () (fun j hj => absurd hj (by omega))
  · intro i _ hi hinv ih
    refine Ok.step (fun k => by simp only [spec_l15Needs.l0]; rfl) (Ok.pos (by omega) (Ok.pos (by omega) ?_))
    rw [rd_nat, l6In_eq, wrap_id (n := (i : Int) + 1) (by omega) (by omega)]
    refine Ok.val (Ok.ite (fun h => ih () fun j hj => ?_) (fun h => Ok.ret ⟨fun h' => (by cases h'), fun h' => absurd (h'.2.2 i hi) h⟩))
    rcases Nat.lt_succ_iff_lt_or_eq.1 hj with h1 | rfl
    · exact hinv j h1
    · exact h
  · intro _ hinv
    refine Ok.step (fun k => by simp only [spec_l15Needs.l0]; rfl) (Ok.neg (by omega) (Ok.bind (sFoods_ok l hl) fun b hb => Ok.ite (fun h => Ok.ret ?_) (fun h => Ok.ret ⟨fun h' => (by cases h'), fun h' => absurd (hb.2 h'.1) h⟩)))
    rw [beq_iff_eq]
    exact ⟨fun h' => ⟨hb.1 h, by omega, hinv⟩, fun h' => by have := h'.2.1; omega⟩
end Go.Proofs.Ytglddjbcaknnaaa.Pure
/- The energy of needs, in the program and in the reference. Condition: at most 2,000,000 foods and needs. -/
namespace Go.Proofs.Ytglddjbcaknnaaa.Pure
open Go.RowKit Go.Proofs.YtglddjbcaknnaaaW.PrintWords Go.Proofs.YtglddjbcaknnaaaW.PrintLast Go.Proofs.Ytglddjbcaknnaaa.Q
set_option linter.unusedVariables false
set_option linter.unusedSimpArgs false
def enSum (l : List Fd) (p : List Int) : Nat → Int
  | 0 => 0
  | n + 1 => enSum l p n + p.getD n 0 * (fAt l n).f4
theorem enSum_bd {l : List Fd} {p : List Int} (h : NV l p) : ∀ (n : Nat), n ≤ p.length → 0 ≤ enSum l p n ∧ enSum l p n ≤ 1000000000 * n
  | 0, _ => by simp [enSum]
  | n + 1, hn => by
    have ih := enSum_bd h n (by omega)
    have h1 := (inr_iff _ _ _).1 (h.2.2 n (by omega))
    have h2 := ((fB_iff _).1 (h.1.2 n (by have := h.2.1; omega)).1).2.2.2.2.1
    have m0 : 0 ≤ p.getD n 0 * (fAt l n).f4 := Int.mul_nonneg h1.1 h2.1
    have m1 : p.getD n 0 * (fAt l n).f4 ≤ 999999 * 999 := Int.mul_le_mul h1.2 h2.2 h2.1 (by omega)
    unfold enSum
    omega
open Classical in
noncomputable def enOf (l : List Fd) (p : List Int) : Int := if NV l p then wrap64 (Int.tdiv (enSum l p p.length) 100) else -1
theorem en_next (l : List Fd) (p : List Int) (n : Nat) : enSum l p (n + 1) = enSum l p n + p.getD n 0 * (fAt l n).f4 := rfl
theorem step_wrap {l : List Fd} {p : List Int} (h : NV l p) (i : Nat) (hi : i < p.length) : wrap64 (enSum l p i + wrap64 (p.getD i 0 * (fAt l i).f4)) = enSum l p (i + 1) := by
  have b0 := enSum_bd h i (by omega)
  have b1 := enSum_bd h (i + 1) (by omega)
  have hl : p.length ≤ 6 := by have := h.2.1; have := h.1.1; omega
  rw [en_next] at b1 ⊢
  rw [wrap_id (n := p.getD i 0 * (fAt l i).f4) (by omega) (by omega), wrap_id (by omega) (by omega)]
theorem iEnergy_ok (l : List Fd) (p : List Int) (hl : l.length ≤ 2000000) : Ok (fun k => impl_NeedsEnergy.f k l p) (· = enOf l p) := by
  unfold impl_NeedsEnergy.f
  refine Ok.bind (iNeeds_ok l p hl) fun b hb => Ok.ite (fun h => ?_) (fun h => Ok.ret (by unfold enOf; rw [if_neg fun h' => h (hb.2 h')]))
  have v := hb.1 h
  have hp : p.length = l.length := v.2.1
  refine Ok.range (fun (s : Int) i k => impl_NeedsEnergy.l0 k l s p (p.length : Int) i) p.length (fun i s => s = enSum l p i) _ ?_ ?_ 0 rfl
  · rintro i _ hi rfl ih
    refine Ok.step (fun k => by simp only [impl_NeedsEnergy.l0]; rfl) (Ok.pos (by omega) (Ok.pos (by omega) (Ok.pos (by omega) (Ok.pos (by omega) ?_))))
    rw [rd_nat, fAt_rd, step_wrap v i hi, wrap_id (n := (i : Int) + 1) (by omega) (by omega)]
    exact ih _ rfl
  · rintro _ rfl
    refine Ok.step (fun k => by simp only [impl_NeedsEnergy.l0]; rfl) (Ok.neg (by omega) (Ok.ret ?_))
    unfold enOf
    rw [if_pos v]
theorem sEnergy_ok (l : List Fd) (p : List Int) (hl : l.length ≤ 2000000) (hp : p.length ≤ 2000000) : Ok (fun k => spec_NeedsEnergy.f k l p) (· = enOf l p) := by
  unfold spec_NeedsEnergy.f
  refine Ok.bind (sNeeds_ok l p hl hp) fun b hb => Ok.ite (fun h => ?_) (fun h => Ok.ret (by unfold enOf; rw [if_neg fun h' => h (hb.2 h')]))
  have v := hb.1 h
  have hpl : p.length = l.length := v.2.1
  refine Ok.range (fun (s : Int) i k => spec_NeedsEnergy.l0 k l p s i) l.length (fun i s => s = enSum l p i) _ ?_ ?_ 0 rfl
  · rintro i _ hi rfl ih
    refine Ok.step (fun k => by simp only [spec_NeedsEnergy.l0]; rfl) (Ok.pos (by omega) (Ok.pos (by omega) (Ok.pos (by omega) ?_)))
    rw [rd_nat, fAt_rd, Int.mul_comm (fAt l i).f4, step_wrap v i (by omega), wrap_id (n := (i : Int) + 1) (by omega) (by omega)]
    exact ih _ rfl
  · rintro _ rfl
    refine Ok.step (fun k => by simp only [spec_NeedsEnergy.l0]; rfl) (Ok.neg (by omega) (Ok.ret ?_))
    unfold enOf
    rw [if_pos v, hpl]
end Go.Proofs.Ytglddjbcaknnaaa.Pure
/- The laws' foods and the program's: copied field by field. Condition: at most 2,000,000. -/
namespace Go.Proofs.Ytglddjbcaknnaaa.Pure
open Go.RowKit Go.Proofs.YtglddjbcaknnaaaW.PrintWords Go.Proofs.YtglddjbcaknnaaaW.PrintLast Go.Proofs.Ytglddjbcaknnaaa.Q
set_option linter.unusedVariables false
set_option linter.unusedSimpArgs false

def cvFood (x : S65) : S62 := ⟨x.f0, x.f1, x.f2, x.f3, x.f4, x.f5⟩
theorem toFoodS_ok (l : List S65) (hl : l.length ≤ 2000000) : Ok (fun k => laws_toFoodS.f k l) (· = l.map cvFood) := by
  unfold laws_toFoodS.f
  refine Ok.pos (by omega) (Ok.pos (Nat.le_trans (m := 2000000) (by omega) (by decide)) ?_)
  refine Ok.range (fun (s : List S62) i k => laws_toFoodS.l0 k l s i) l.length (fun i s => s.length = l.length ∧ ∀ j, j < i → s.getD j z62 = (l.map cvFood).getD j z62) _ ?_ ?_ _ ⟨by simp, fun j hj => absurd hj (by omega)⟩
  · rintro i s hi ⟨h1, h2⟩ ih
    have ew : wrap64 ((i : Int) + 1) = (i : Int) + 1 := wrap_id (by omega) (by omega)
    refine Ok.step (fun k => by simp only [laws_toFoodS.l0]; rfl) (Ok.pos (by omega) (Ok.pos (by omega) ?_))
    simp only [laws_toFood.f, Option.bind_some, ew]
    refine Ok.pos (by omega) (ih _ ⟨by simp [h1], fun j hj => ?_⟩)
    simp only [Int.toNat_natCast]
    rw [getD_set _ _ _ _ _ (by omega)]
    split
    · rename_i e; subst e
      rw [getD_at _ _ _ (by simp; omega), List.getElem_map]
      have e : rd_T65 l (j : Int) = l[j] := getD_at l z65 j (by omega)
      rw [e]; rfl
    · exact h2 j (by omega)
  · rintro s ⟨h1, h2⟩
    exact Ok.step (fun k => by simp only [laws_toFoodS.l0]; rfl) (Ok.neg (by omega) (Ok.ret (eq_of_getD z62 (by simp [h1]) (fun i hi => h2 i (by omega)))))
theorem szFoodS_eq (l : List S65) (a : Int) (h0 : 0 ≤ a) (h1 : a ≤ 9223372036854775807) (hl : l.length ≤ maxLen) : laws_szFoodS.f l a = some (if (l.length : Int) ≤ a then a - l.length else -1) := by
  unfold laws_szFoodS.f
  have := len_small hl
  rw [wrap_id (n := a - (l.length : Int)) (by omega) (by omega)]
  by_cases h : (l.length : Int) ≤ a
  · rw [if_neg (by omega), if_pos h]
  · rw [if_pos (by omega), if_neg h]
end Go.Proofs.Ytglddjbcaknnaaa.Pure
/- The laws' comparison of lists of foods: a list is equal to itself. Condition: at most 2,000,000. -/
namespace Go.Proofs.Ytglddjbcaknnaaa.Pure
open Go.RowKit Go.Proofs.YtglddjbcaknnaaaW.PrintWords Go.Proofs.YtglddjbcaknnaaaW.PrintLast Go.Proofs.Ytglddjbcaknnaaa.Q
set_option linter.unusedVariables false
set_option linter.unusedSimpArgs false

theorem eqFoodS_ok (l : List S62) (hl : l.length ≤ 2000000) : Ok (fun k => laws_eqFoodS.f k l l) (· = true) := by
  unfold laws_eqFoodS.f
  refine Ok.pos rfl ?_
  refine Ok.range (fun (_ : Unit) i k => laws_eqFoodS.l0 k l l i) l.length (fun _ _ => True) _ ?_ ?_ () trivial
  · intro i _ hi _ ih
    have ew : wrap64 ((i : Int) + 1) = (i : Int) + 1 := wrap_id (by omega) (by omega)
    refine Ok.step (fun k => by simp only [laws_eqFoodS.l0]; rfl) (Ok.pos (by omega) (Ok.pos (by omega) (Ok.pos (by omega) ?_)))
    simp only [laws_eqFood.f, ew, if_true, Option.bind_some, bne_self_eq_false, Bool.false_eq_true, if_false]
    exact ih () trivial
  · intro _ _
    exact Ok.step (fun k => by simp only [laws_eqFoodS.l0]; rfl) (Ok.neg (by omega) (Ok.ret rfl))
end Go.Proofs.Ytglddjbcaknnaaa.Pure
/- Lists of whole numbers. Condition: at most 2,000,000 elements. -/
namespace Go.Proofs.Ytglddjbcaknnaaa.Pure
open Go.RowKit Go.Proofs.YtglddjbcaknnaaaW.PrintWords Go.Proofs.YtglddjbcaknnaaaW.PrintLast Go.Proofs.Ytglddjbcaknnaaa.Q
set_option linter.unusedVariables false
set_option linter.unusedSimpArgs false

theorem toIntS_ok (l : List Int) (hl : l.length ≤ 2000000) : Ok (fun k => laws_toIntS.f k l) (· = l) := by
  unfold laws_toIntS.f
  refine Ok.pos (by omega) (Ok.pos (by omega) ?_)
  refine Ok.range (fun (s : List Int) i k => laws_toIntS.l0 k l s i) l.length (fun i s => s.length = l.length ∧ ∀ j, j < i → s.getD j 0 = l.getD j 0) _ ?_ ?_ _ ⟨by simp, fun j hj => absurd hj (by omega)⟩
  · rintro i s hi ⟨h1, h2⟩ ih
    have ew : wrap64 ((i : Int) + 1) = (i : Int) + 1 := wrap_id (by omega) (by omega)
    refine Ok.step (fun k => by simp only [laws_toIntS.l0]; rfl) (Ok.pos (by omega) (Ok.pos (by omega) (Ok.pos (by omega) ?_)))
    rw [ew]
    refine ih _ ⟨by simp [h1], fun j hj => ?_⟩
    simp only [Int.toNat_natCast]
    rw [getD_set _ _ _ _ _ (by omega)]
    split
    · rename_i e; subst e; rfl
    · exact h2 j (by omega)
  · rintro s ⟨h1, h2⟩
    exact Ok.step (fun k => by simp only [laws_toIntS.l0]; rfl) (Ok.neg (by omega) (Ok.ret (eq_of_getD 0 h1 (fun i hi => h2 i (by omega)))))
end Go.Proofs.Ytglddjbcaknnaaa.Pure
/- Lists of whole numbers. Condition: at most 2,000,000 elements. -/
namespace Go.Proofs.Ytglddjbcaknnaaa.Pure
open Go.RowKit Go.Proofs.YtglddjbcaknnaaaW.PrintWords Go.Proofs.YtglddjbcaknnaaaW.PrintLast Go.Proofs.Ytglddjbcaknnaaa.Q
set_option linter.unusedVariables false
set_option linter.unusedSimpArgs false

theorem eqIntS_ok (a b : List Int) (hl : a.length ≤ 2000000) : Ok (fun k => laws_eqIntS.f k a b) (fun r => r = true ↔ a = b) := by
  unfold laws_eqIntS.f
  by_cases h : a.length = b.length
  · refine Ok.pos (by omega) ?_
    refine Ok.range (fun (_ : Unit) i k => laws_eqIntS.l0 k a b i) a.length (fun i _ => ∀ j, j < i → a.getD j 0 = b.getD j 0) _ ?_ ?_ () (fun j hj => absurd hj (by omega))
    · intro i _ hi hinv ih
      have ew : wrap64 ((i : Int) + 1) = (i : Int) + 1 := wrap_id (by omega) (by omega)
      refine Ok.step (fun k => by simp only [laws_eqIntS.l0]; rfl) (Ok.pos (by omega) (Ok.pos (by omega) (Ok.pos (by omega) ?_)))
      rw [ew, rd_nat, rd_nat]
      refine Ok.ite (fun h1 => ih () fun j hj => ?_) (fun h1 => Ok.ret ⟨fun h' => (by cases h'), fun h' => absurd (by rw [h']) h1⟩)
      rcases Nat.lt_succ_iff_lt_or_eq.1 hj with h2 | rfl
      · exact hinv j h2
      · exact h1
    · intro _ hinv
      exact Ok.step (fun k => by simp only [laws_eqIntS.l0]; rfl) (Ok.neg (by omega) (Ok.ret ⟨fun _ => eq_of_getD 0 h hinv, fun _ => rfl⟩))
  · exact Ok.neg (by omega) (Ok.ret ⟨fun h' => (by cases h'), fun h' => absurd (by rw [h']) h⟩)
end Go.Proofs.Ytglddjbcaknnaaa.Pure
/- The program's NeedsEnergy returns what the reference's returns, for all arguments. No conditions. -/
namespace Go.Proofs.Ytglddjbcaknnaaa.Pure
open Go.RowKit Go.Proofs.YtglddjbcaknnaaaW.PrintWords Go.Proofs.YtglddjbcaknnaaaW.PrintLast Go.Proofs.Ytglddjbcaknnaaa.Q
set_option linter.unusedVariables false
set_option linter.unusedSimpArgs false
theorem FnExactNeedsEnergy (l : List S65) (hm : l.length ≤ maxLen) (p : List Int) (hmp : p.length ≤ maxLen) : ∃ k, laws_FnExactNeedsEnergy.f k l p = some true := by
  apply Ok.rounds
  unfold laws_FnExactNeedsEnergy.f
  refine Ok.ite (fun _ => Ok.ret rfl) fun hp0 => ?_
  have hp : p.length ≤ 2000000 := by omega
  rw [szFoodS_eq l _ (by omega) (by omega) hm]
  refine Ok.val (Ok.ite (fun _ => Ok.ret rfl) fun h => ?_)
  have hl : l.length ≤ 1048576 := by
    split at h <;> omega
  have hg : l.length ≤ 2000000 := by omega
  have hl' : (l.map cvFood).length ≤ 2000000 := by simpa using hg
  refine Ok.bind (toFoodS_ok l hg) ?_
  rintro _ rfl
  refine Ok.bind (toIntS_ok p hp) fun p1 hp1 => ?_
  rw [hp1]
  refine Ok.bind (sEnergy_ok _ p hl' hp) ?_
  rintro _ rfl
  refine Ok.bind (toFoodS_ok l hg) ?_
  rintro _ rfl
  refine Ok.bind (toIntS_ok p hp) fun p2 hp2 => ?_
  rw [hp2]
  refine Ok.bind (iEnergy_ok _ p hl') ?_
  rintro _ rfl
  refine Ok.pos rfl (Ok.bind (toFoodS_ok l hg) ?_)
  rintro _ rfl
  refine Ok.bind (eqFoodS_ok _ hl') ?_
  rintro _ rfl
  refine Ok.pos (by trivial) (Ok.bind (toIntS_ok p hp) fun p3 hp3 => ?_)
  rw [hp3]
  exact Ok.bind (eqIntS_ok p p hp) fun b hb => Ok.pos (hb.2 rfl) (Ok.ret rfl)
end Go.Proofs.Ytglddjbcaknnaaa.Pure
