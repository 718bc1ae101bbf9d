/- A dish has no others: the law comes to true for every input. No conditions. -/
import Derived.Test.YtclldijjbmnkeaaWMore
import Derived.Test.YtclldijjbmnkeaaQx0
import Derived.Test.YtclldijjbmnkeaaQx1
import Derived.Test.YtclldijjbmnkeaaQx10
import Derived.Test.YtclldijjbmnkeaaQx11
import Derived.Test.YtclldijjbmnkeaaQx12
import Derived.Test.YtclldijjbmnkeaaQx13
import Derived.Test.YtclldijjbmnkeaaQx16
import Derived.Test.YtclldijjbmnkeaaQx18
import Derived.Test.YtclldijjbmnkeaaQx2
import Derived.Test.YtclldijjbmnkeaaQx26
import Derived.Test.YtclldijjbmnkeaaQx27
import Derived.Test.YtclldijjbmnkeaaQx28
import Derived.Test.YtclldijjbmnkeaaQx29
import Derived.Test.YtclldijjbmnkeaaQx3
import Derived.Test.YtclldijjbmnkeaaQx30
import Derived.Test.YtclldijjbmnkeaaQx5
/- Plain logic for printed functions: from some number of rounds on a function answers, and its answer fits. No conditions. -/
namespace Go.Proofs.Ytclldijjbmnkeaa.Pure
open Go.RowKit Go.Proofs.YtclldijjbmnkeaaW.PrintWords Go.Proofs.YtclldijjbmnkeaaW.PrintLast

/-- g answers from some number of rounds on, and the answer is as Q says. -/
def Ok {α : Type} (g : Nat → Option α) (Q : α → Prop) : Prop := ∃ r, Ev g r ∧ Q r
theorem Ok.ret {α : Type} {r : α} {Q : α → Prop} (h : Q r) : Ok (fun _ => some r) Q := ⟨r, Ev.now r, h⟩
theorem Ok.bind {α β : Type} {g : Nat → Option α} {f : Nat → α → Option β} {P : α → Prop} {Q : β → Prop} (h : Ok g P) (k : ∀ a, P a → Ok (fun n => f n a) Q) : Ok (fun n => (g n).bind (f n)) Q := by
  obtain ⟨a, ha, hp⟩ := h
  obtain ⟨r, hr, hq⟩ := k a hp
  exact ⟨r, Ev.bind ha hr, hq⟩
theorem Ok.val {α β : Type} {a : α} {f : Nat → α → Option β} {Q : β → Prop} (h : Ok (fun n => f n a) Q) : Ok (fun n => (some a).bind (f n)) Q := h
theorem Ok.pos {α : Type} {c : Prop} [Decidable c] {t e : Nat → Option α} {Q : α → Prop} (hc : c) (h : Ok t Q) : Ok (fun n => if c then t n else e n) Q := by simpa only [if_pos hc] using h
theorem Ok.neg {α : Type} {c : Prop} [Decidable c] {t e : Nat → Option α} {Q : α → Prop} (hc : ¬ c) (h : Ok e Q) : Ok (fun n => if c then t n else e n) Q := by simpa only [if_neg hc] using h
theorem Ok.ite {α : Type} {c : Prop} [Decidable c] {t e : Nat → Option α} {Q : α → Prop} (h : c → Ok t Q) (k : ¬ c → Ok e Q) : Ok (fun n => if c then t n else e n) Q := by
  by_cases hc : c
  · exact Ok.pos hc (h hc)
  · exact Ok.neg hc (k hc)
theorem Ok.step {α : Type} {g f : Nat → Option α} {Q : α → Prop} (h : ∀ k, g (k + 1) = f k) (k : Ok f Q) : Ok g Q := by
  obtain ⟨r, hr, hq⟩ := k
  exact ⟨r, Ev.step h hr, hq⟩
theorem Ok.mono {α : Type} {g : Nat → Option α} {P Q : α → Prop} (h : Ok g P) (k : ∀ a, P a → Q a) : Ok g Q := by
  obtain ⟨r, hr, hp⟩ := h
  exact ⟨r, hr, k r hp⟩
theorem Ok.and {α : Type} {g : Nat → Option α} {P Q : α → Prop} (h : Ok g P) (k : Ok g Q) : Ok g (fun a => P a ∧ Q a) := by
  obtain ⟨r, ⟨K, hr⟩, hp⟩ := h
  obtain ⟨r', ⟨K', hr'⟩, hq⟩ := k
  have h1 := hr (max K K') (by omega)
  have h2 := hr' (max K K') (by omega)
  obtain rfl : r = r' := by rw [h1] at h2; injection h2
  exact ⟨r, ⟨K, hr⟩, hp, hq⟩
theorem Ok.rounds {α : Type} {g : Nat → Option α} {r : α} (h : Ok g (· = r)) : ∃ k, g k = some r := by
  obtain ⟨_, hr, rfl⟩ := h
  exact hr.rounds
theorem Ok.eq {α : Type} {g : Nat → Option α} {r : α} {Q : α → Prop} (h : Ok g (· = r)) (q : Q r) : Ok g Q := h.mono fun _ e => by subst e; exact q
theorem wrap_id {n : Int} (h0 : -9223372036854775808 ≤ n) (h1 : n ≤ 9223372036854775807) : wrap64 n = n := by unfold wrap64; omega
theorem wfu8 {n : Int} (h : (Lit.int .u8 n).wf = true) : 0 ≤ n ∧ n ≤ 255 := by
  simp [Lit.wf, IntKind.min, IntKind.max, IntKind.signed, IntKind.bits] at h
  omega
/-- A loop that counts an index up to n, with what else it carries in s. -/
theorem Ok.range {σ ρ : Type} (L : σ → Int → Nat → Option ρ) (n : Nat) (Inv : Nat → σ → Prop) (Q : ρ → Prop)
    (step : ∀ (i : Nat) (s : σ), i < n → Inv i s → (∀ s', Inv (i + 1) s' → Ok (L s' ((i : Int) + 1)) Q) → Ok (L s (i : Int)) Q)
    (last : ∀ s, Inv n s → Ok (L s (n : Int)) Q) : ∀ s, Inv 0 s → Ok (L s 0) Q := by
  have key : ∀ d i, i + d = n → ∀ s, Inv i s → Ok (L s (i : Int)) Q := by
    intro d
    induction d with
    | zero => intro i hi s hs; obtain rfl : i = n := (by omega); exact last s hs
    | succ d ih =>
      intro i hi s hs
      refine step i s (by omega) hs fun s' hs' => ?_
      have := ih (i + 1) (by omega) s' hs'
      rwa [show ((i + 1 : Nat) : Int) = (i : Int) + 1 by omega] at this
  exact fun s hs => key n 0 (by omega) s hs
/-- The same for a loop that counts down from n - 1. -/
theorem Ok.down {σ ρ : Type} (L : σ → Int → Nat → Option ρ) (n : Nat) (Inv : Nat → σ → Prop) (Q : ρ → Prop)
    (step : ∀ (i : Nat) (s : σ), i < n → Inv (i + 1) s → (∀ s', Inv i s' → Ok (L s' ((i : Int) - 1)) Q) → Ok (L s (i : Int)) Q)
    (last : ∀ s, Inv 0 s → Ok (L s (-1)) Q) : ∀ s, Inv n s → Ok (L s ((n : Int) - 1)) Q := by
  have key : ∀ i, i ≤ n → ∀ s, Inv i s → Ok (L s ((i : Int) - 1)) Q := by
    intro i
    induction i with
    | zero => intro _ s hs; exact last s hs
    | succ i ih =>
      intro hi s hs
      have := step i s (by omega) hs fun s' hs' => ih (by omega) s' hs'
      rwa [show ((i + 1 : Nat) : Int) - 1 = (i : Int) by omega]
  exact fun s hs => key n (Nat.le_refl _) s hs
theorem bool_of_iff {a b : Bool} {P : Prop} (h : a = true ↔ P) (k : b = true ↔ P) : a = b := by
  cases a <;> cases b <;> simp_all
theorem getD_at {α : Type} (l : List α) (d : α) (i : Nat) (h : i < l.length) : l.getD i d = l[i] := by
  rw [List.getD_eq_getElem?_getD, List.getElem?_eq_getElem h, Option.getD_some]
end Go.Proofs.Ytclldijjbmnkeaa.Pure
/- Lists, read and written element by element. No conditions. -/
namespace Go.Proofs.Ytclldijjbmnkeaa.Pure
open Go.RowKit Go.Proofs.YtclldijjbmnkeaaW.PrintWords Go.Proofs.YtclldijjbmnkeaaW.PrintLast
set_option linter.unusedVariables false
set_option linter.unusedSimpArgs false

theorem rd_nat (l : List Int) (i : Nat) : rd l (i : Int) = l.getD i 0 := rfl
theorem eq_of_getD {α : Type} {a b : List α} (d : α) (h : a.length = b.length) (k : ∀ i, i < a.length → a.getD i d = b.getD i d) : a = b := by
  refine List.ext_getElem h fun i h1 h2 => ?_
  have := k i h1
  rwa [getD_at _ _ _ h1, getD_at _ _ _ h2] at this
theorem getD_set {α : Type} (l : List α) (d v : α) (i j : Nat) (hi : i < l.length) : (l.set i v).getD j d = if j = i then v else l.getD j d := by
  rw [List.getD_eq_getElem?_getD, List.getElem?_set]
  by_cases h : i = j
  · subst h; simp [hi]
  · rw [if_neg h, if_neg (fun e => h e.symm), ← List.getD_eq_getElem?_getD]
end Go.Proofs.Ytclldijjbmnkeaa.Pure
/- The program's dishes, as lists. No conditions. -/
namespace Go.Proofs.Ytclldijjbmnkeaa.Pure
open Go.RowKit Go.Proofs.YtclldijjbmnkeaaW.PrintWords Go.Proofs.YtclldijjbmnkeaaW.PrintLast Go.Proofs.Ytclldijjbmnkeaa.Q
set_option linter.unusedVariables false
set_option linter.unusedSimpArgs false
abbrev Pt := S55
abbrev Ds := S29
def dAt (l : List Ds) (i : Nat) : Ds := l.getD i z29
theorem dAt_rd (l : List Ds) (i : Nat) : rd_T29 l (i : Int) = dAt l i := rfl
end Go.Proofs.Ytclldijjbmnkeaa.Pure
/- The place of a dish, in the program and in the reference. Condition: at most 2,000,000 dishes. -/
namespace Go.Proofs.Ytclldijjbmnkeaa.Pure
open Go.RowKit Go.Proofs.YtclldijjbmnkeaaW.PrintWords Go.Proofs.YtclldijjbmnkeaaW.PrintLast Go.Proofs.Ytclldijjbmnkeaa.Q
set_option linter.unusedVariables false
set_option linter.unusedSimpArgs false
def dPl (l : List Ds) (id : Int) : Int := idxOf (fun x => x.f0 == id) l
theorem iDFind_eq (l : List Ds) (id : Int) : impl_DishesFind.f l id = some (dPl l id) := rfl
theorem dPl_none {l : List Ds} {id : Int} (h : ∀ j, j < l.length → (dAt l j).f0 ≠ id) : dPl l id = -1 := idxOf_miss _ l z29 fun j hj => beq_eq_false_iff_ne.2 (h j hj)
theorem dPl_hit {l : List Ds} {id : Int} {k : Nat} (hk : k < l.length) (h : (dAt l k).f0 = id) (hn : ∀ j, j < k → (dAt l j).f0 ≠ id) : dPl l id = (k : Int) := idxOf_hit _ l z29 k hk (beq_iff_eq.2 h) fun j hj => beq_eq_false_iff_ne.2 (hn j hj)
theorem dPl_is (l : List Ds) (id : Int) : (dPl l id = -1 ∧ ∀ j, j < l.length → (dAt l j).f0 ≠ id) ∨ ∃ k : Nat, dPl l id = k ∧ k < l.length ∧ (dAt l k).f0 = id ∧ ∀ j, j < k → (dAt l j).f0 ≠ id := by
  have key : ∀ d i, i + d = l.length → (∀ j, j < i → (dAt l j).f0 ≠ id) → (dPl l id = -1 ∧ ∀ j, j < l.length → (dAt l j).f0 ≠ id) ∨ ∃ k : Nat, dPl l id = k ∧ k < l.length ∧ (dAt l k).f0 = id ∧ ∀ j, j < k → (dAt l j).f0 ≠ id := by
    intro d
    induction d with
    | zero =>
      intro i hi h
      exact .inl ⟨dPl_none fun j hj => h j (by omega), fun j hj => h j (by omega)⟩
    | succ d ih =>
      intro i hi h
      by_cases e : (dAt l i).f0 = id
      · exact .inr ⟨i, dPl_hit (by omega) e h, by omega, e, h⟩
      · refine ih (i + 1) (by omega) fun j hj => ?_
        rcases Nat.lt_succ_iff_lt_or_eq.1 hj with h1 | rfl
        · exact h j h1
        · exact e
  exact key l.length 0 (by omega) fun j hj => absurd hj (by omega)
theorem l11Find_ok (l : List Ds) (id : Int) (hl : l.length ≤ 2000000) : Ok (fun k => spec_l11Find.f k l id) (· = dPl l id) := by
  unfold spec_l11Find.f
  refine Ok.range (fun (_ : Unit) i k => spec_l11Find.l0 k l id i) l.length (fun i _ => ∀ j, j < i → (dAt l j).f0 ≠ id) _ ?_ ?_ () (fun j hj => absurd hj (by omega))
  · intro i _ hi hinv ih
    refine Ok.step (fun k => by simp only [spec_l11Find.l0]; rfl) (Ok.pos (by omega) (Ok.pos (by omega) ?_))
    rw [dAt_rd, wrap_id (n := (i : Int) + 1) (by omega) (by omega)]
    refine Ok.ite (fun h => Ok.ret (dPl_hit hi h hinv).symm) (fun h => ih () fun j hj => ?_)
    rcases Nat.lt_succ_iff_lt_or_eq.1 hj with h1 | rfl
    · exact hinv j h1
    · exact h
  · intro _ hinv
    exact Ok.step (fun k => by simp only [spec_l11Find.l0]; rfl) (Ok.neg (by omega) (Ok.ret (dPl_none hinv).symm))
end Go.Proofs.Ytclldijjbmnkeaa.Pure
/- Ranges, and the bits of sets. No conditions. -/
namespace Go.Proofs.Ytclldijjbmnkeaa.Pure
open Go.RowKit Go.Proofs.YtclldijjbmnkeaaW.PrintWords Go.Proofs.YtclldijjbmnkeaaW.PrintLast
set_option linter.unusedVariables false
set_option linter.unusedSimpArgs false

def inr (a lo hi : Int) : Bool := decide (lo ≤ a ∧ a ≤ hi)
theorem inr_iff (a lo hi : Int) : inr a lo hi = true ↔ lo ≤ a ∧ a ≤ hi := by simp [inr]
end Go.Proofs.Ytclldijjbmnkeaa.Pure
/- The reference's ranges and sets. No conditions. -/
namespace Go.Proofs.Ytclldijjbmnkeaa.Pure
open Go.RowKit Go.Proofs.YtclldijjbmnkeaaW.PrintWords Go.Proofs.YtclldijjbmnkeaaW.PrintLast Go.Proofs.Ytclldijjbmnkeaa.Q
set_option linter.unusedVariables false
set_option linter.unusedSimpArgs false

theorem l6In_eq (a lo hi : Int) : spec_l6In.f a lo hi = some (inr a lo hi) := by
  unfold spec_l6In.f inr
  by_cases h : a ≥ lo
  · rw [if_pos h]; simp [h]
  · rw [if_neg h]; simp; omega
theorem l3Set_eq (a : Int) : spec_l3Set.f a = some (inr a 0 255) := by simp only [spec_l3Set.f, l6In_eq, Option.bind_some]
end Go.Proofs.Ytclldijjbmnkeaa.Pure
/- The program's ranges, sets and kinds. No conditions. -/
namespace Go.Proofs.Ytclldijjbmnkeaa.Pure
open Go.RowKit Go.Proofs.YtclldijjbmnkeaaW.PrintWords Go.Proofs.YtclldijjbmnkeaaW.PrintLast Go.Proofs.Ytclldijjbmnkeaa.Q
set_option linter.unusedVariables false
set_option linter.unusedSimpArgs false

theorem within_eq (a lo hi : Int) : impl_within.f a lo hi = some (inr a lo hi) := by
  unfold impl_within.f inr
  by_cases h : a ≥ lo
  · rw [if_pos h]; simp [h]
  · rw [if_neg h]; simp; omega
theorem isSet_eq (a : Int) : impl_isSet.f a = some (inr a 0 255) := by simp only [impl_isSet.f, within_eq, Option.bind_some]
theorem isKind_eq (a : Int) : impl_isKind.f a = some (inr a 1 5) := by simp only [impl_isKind.f, within_eq, Option.bind_some]
end Go.Proofs.Ytclldijjbmnkeaa.Pure
/- When foods are valid, in the program and in the reference. Condition: at most 2,000,000. -/
namespace Go.Proofs.Ytclldijjbmnkeaa.Pure
open Go.RowKit Go.Proofs.YtclldijjbmnkeaaW.PrintWords Go.Proofs.YtclldijjbmnkeaaW.PrintLast Go.Proofs.Ytclldijjbmnkeaa.Q
set_option linter.unusedVariables false
set_option linter.unusedSimpArgs false
abbrev Fd := S63
def fAt (l : List Fd) (i : Nat) : Fd := l.getD i z63
theorem fAt_rd (l : List Fd) (i : Nat) : rd_T63 l (i : Int) = fAt l i := rfl
theorem fAt_prev (l : List Fd) (i : Nat) (h : 0 < i) : rd_T63 l ((i : Int) - 1) = fAt l (i - 1) := by
  unfold rd_T63 fAt
  rw [show ((i : Int) - 1).toNat = i - 1 by omega]
def fB (x : Fd) : Bool := inr x.f0 1 20 && inr x.f1 1 3 && inr x.f2 0 255 && inr x.f3 1 5 && inr x.f4 0 999 && inr x.f5 0 999
theorem fB_iff (x : Fd) : fB x = true ↔ (1 ≤ x.f0 ∧ x.f0 ≤ 20) ∧ (1 ≤ x.f1 ∧ x.f1 ≤ 3) ∧ (0 ≤ x.f2 ∧ x.f2 ≤ 255) ∧ (1 ≤ x.f3 ∧ x.f3 ≤ 5) ∧ (0 ≤ x.f4 ∧ x.f4 ≤ 999) ∧ 0 ≤ x.f5 ∧ x.f5 ≤ 999 := by simp [fB, inr_iff, and_assoc]
/-- element i is as it must be -/
def fGood (l : List Fd) (i : Nat) : Prop := fB (fAt l i) = true ∧ (0 < i → (fAt l (i - 1)).f0 < (fAt l i).f0)
/-- foods are valid -/
def FV (l : List Fd) : Prop := l.length ≤ 6 ∧ ∀ i, i < l.length → fGood l i
theorem isId_eq (a : Int) : impl_isId.f a = some (inr a 1 20) := by simp only [impl_isId.f, within_eq, Option.bind_some]
theorem sFoods_ok (l : List Fd) (hl : l.length ≤ 2000000) : Ok (fun k => spec_FoodsValid.f k l) (fun r => r = true ↔ FV l) := by
  unfold spec_FoodsValid.f
  refine Ok.range (fun (_ : Unit) i k => spec_FoodsValid.l0 k l i) l.length (fun i _ => ∀ j, j < i → fGood l j) _ ?_ ?_ () (fun j hj => absurd hj (by omega))
  · intro i _ hi hinv ih
    refine Ok.step (fun k => by simp only [spec_FoodsValid.l0]; rfl) (Ok.pos (by omega) (Ok.pos (by omega) ?_))
    simp only [l6In_eq, l3Set_eq, Option.bind_some, fAt_rd]
    have bad : ¬ fGood l i → Ok (fun k => spec_FoodsValid.j1 k l (i : Int) true (fAt l i).f0 (fAt l i).f1 (fAt l i).f2 (fAt l i).f3 (fAt l i).f4 (fAt l i).f5) (fun r : Bool => r = true ↔ FV l) := fun h => Ok.step (fun k => by simp only [spec_FoodsValid.j1]; rfl) (Ok.pos (by trivial) (Ok.ret ⟨fun h' => (by cases h'), fun h' => absurd (h'.2 i hi) h⟩))
    have good : fGood l i → Ok (fun k => spec_FoodsValid.l0 k l ((i : Int) + 1)) (fun r : Bool => r = true ↔ FV l) := fun h => ih () (fun j hj => by
      rcases Nat.lt_succ_iff_lt_or_eq.1 hj with h1 | rfl
      · exact hinv j h1
      · exact h)
    have fb : inr (fAt l i).f0 1 20 = true → inr (fAt l i).f1 1 3 = true → inr (fAt l i).f2 0 255 = true → inr (fAt l i).f3 1 5 = true → inr (fAt l i).f4 0 999 = true → inr (fAt l i).f5 0 999 = true → fB (fAt l i) = true := fun h1 h2 h3 h4 h5 h6 => by simp [fB, h1, h2, h3, h4, h5, h6]
    refine Ok.ite (fun h1 => Ok.ite (fun h2 => Ok.ite (fun h3 => Ok.ite (fun h4 => Ok.ite (fun h5 => ?_) (fun h => bad fun g => h (by have := (fB_iff _).1 g.1; exact (inr_iff _ _ _).2 (by omega)))) (fun h => bad fun g => h (by have := (fB_iff _).1 g.1; exact (inr_iff _ _ _).2 (by omega)))) (fun h => bad fun g => h (by have := (fB_iff _).1 g.1; exact (inr_iff _ _ _).2 (by omega)))) (fun h => bad fun g => h (by have := (fB_iff _).1 g.1; exact (inr_iff _ _ _).2 (by omega)))) (fun h => bad fun g => h (by have := (fB_iff _).1 g.1; exact (inr_iff _ _ _).2 (by omega)))
    cases h6 : inr (fAt l i).f5 0 999 with
    | false => exact bad fun g => by have := (fB_iff _).1 g.1; rw [(inr_iff _ _ _).2 this.2.2.2.2.2] at h6; cases h6
    | true =>
      refine Ok.step (fun k => by simp only [spec_FoodsValid.j1]; rfl) (Ok.neg (by simp) ?_)
      rw [wrap_id (n := (i : Int) + 1) (by omega) (by omega), wrap_id (n := (i : Int) - 1) (by omega) (by omega)]
      refine Ok.ite (fun h7 => Ok.pos (by omega) (Ok.pos (by omega) ?_)) (fun h7 => good ⟨fb h1 h2 h3 h4 h5 h6, fun h => absurd h (by omega)⟩)
      rw [fAt_prev l i (by omega)]
      exact Ok.ite (fun h8 => Ok.ret ⟨fun h' => (by cases h'), fun h' => by have := (h'.2 i hi).2 (by omega); omega⟩) (fun h8 => good ⟨fb h1 h2 h3 h4 h5 h6, fun _ => by omega⟩)
  · intro _ hinv
    refine Ok.step (fun k => by simp only [spec_FoodsValid.l0]; rfl) (Ok.neg (by omega) (Ok.ret ?_))
    rw [decide_eq_true_iff]
    exact ⟨fun h => ⟨by omega, hinv⟩, fun h => by have := h.1; omega⟩
theorem iFoods_ok (l : List Fd) (hl : l.length ≤ 2000000) : Ok (fun k => impl_FoodsValid.f k l) (fun r => r = true ↔ FV l) := by
  unfold impl_FoodsValid.f
  refine Ok.range (fun (_ : Unit) i k => impl_FoodsValid.l0 k l l (l.length : Int) i) l.length (fun i _ => ∀ j, j < i → fGood l j) _ ?_ ?_ () (fun j hj => absurd hj (by omega))
  · intro i _ hi hinv ih
    refine Ok.step (fun k => by simp only [impl_FoodsValid.l0]; rfl) (Ok.pos (by omega) (Ok.pos (by omega) (Ok.pos (by omega) ?_)))
    have ew : wrap64 ((i : Int) + 1) = (i : Int) + 1 := wrap_id (by omega) (by omega)
    have ew' : wrap64 ((i : Int) - 1) = (i : Int) - 1 := wrap_id (by omega) (by omega)
    simp only [isId_eq, within_eq, isSet_eq, isKind_eq, Option.bind_some, ew, ew', fAt_rd]
    have bad : ¬ fGood l i → Ok (fun _ => some false) (fun r : Bool => r = true ↔ FV l) := fun h => Ok.ret ⟨fun h' => (by cases h'), fun h' => absurd (h'.2 i hi) h⟩
    have good : fGood l i → Ok (fun k => impl_FoodsValid.l0 k l l (l.length : Int) ((i : Int) + 1)) (fun r : Bool => r = true ↔ FV l) := fun h => ih () (fun j hj => by
      rcases Nat.lt_succ_iff_lt_or_eq.1 hj with h1 | rfl
      · exact hinv j h1
      · exact h)
    have fb : inr (fAt l i).f0 1 20 = true → inr (fAt l i).f1 1 3 = true → inr (fAt l i).f2 0 255 = true → inr (fAt l i).f3 1 5 = true → inr (fAt l i).f4 0 999 = true → inr (fAt l i).f5 0 999 = true → fB (fAt l i) = true := fun h1 h2 h3 h4 h5 h6 => by simp [fB, h1, h2, h3, h4, h5, h6]
    refine Ok.ite (fun h1 => Ok.ite (fun h2 => Ok.ite (fun h3 => Ok.ite (fun h4 => Ok.ite (fun h5 => Ok.ite (fun h6 => Ok.ite (fun h7 => ?_) (fun h7 => good ⟨fb h1 h2 h3 h4 h5 h6, fun h => absurd h (by omega)⟩)) (fun h => bad fun g => h (by have := (fB_iff _).1 g.1; exact (inr_iff _ _ _).2 (by omega)))) (fun h => bad fun g => h (by have := (fB_iff _).1 g.1; exact (inr_iff _ _ _).2 (by omega)))) (fun h => bad fun g => h (by have := (fB_iff _).1 g.1; exact (inr_iff _ _ _).2 (by omega)))) (fun h => bad fun g => h (by have := (fB_iff _).1 g.1; exact (inr_iff _ _ _).2 (by omega)))) (fun h => bad fun g => h (by have := (fB_iff _).1 g.1; exact (inr_iff _ _ _).2 (by omega)))) (fun h => bad fun g => h (by have := (fB_iff _).1 g.1; exact (inr_iff _ _ _).2 (by omega)))
    refine Ok.pos (by omega) (Ok.pos (by omega) ?_)
    simp only [fAt_prev l i (by omega)]
    exact Ok.ite (fun h8 => bad fun h => by have := h.2 (by omega); omega) (fun h8 => good ⟨fb h1 h2 h3 h4 h5 h6, fun _ => by omega⟩)
  · intro _ hinv
    refine Ok.step (fun k => by simp only [impl_FoodsValid.l0]; rfl) (Ok.neg (by omega) (Ok.ret ?_))
    rw [decide_eq_true_iff]
    exact ⟨fun h => ⟨by omega, hinv⟩, fun h => by have := h.1; omega⟩
end Go.Proofs.Ytclldijjbmnkeaa.Pure
/- The place of a food, in the program and in the reference. Condition: at most 2,000,000 foods. -/
namespace Go.Proofs.Ytclldijjbmnkeaa.Pure
open Go.RowKit Go.Proofs.YtclldijjbmnkeaaW.PrintWords Go.Proofs.YtclldijjbmnkeaaW.PrintLast Go.Proofs.Ytclldijjbmnkeaa.Q
set_option linter.unusedVariables false
set_option linter.unusedSimpArgs false
def fPl (l : List Fd) (id : Int) : Int := idxOf (fun x => x.f0 == id) l
theorem foodPlace_eq (l : List Fd) (id : Int) : impl_foodPlace.f l id = some (fPl l id) := rfl
theorem fPl_none {l : List Fd} {id : Int} (h : ∀ j, j < l.length → (fAt l j).f0 ≠ id) : fPl l id = -1 := idxOf_miss _ l z63 fun j hj => beq_eq_false_iff_ne.2 (h j hj)
theorem fPl_hit {l : List Fd} {id : Int} {k : Nat} (hk : k < l.length) (h : (fAt l k).f0 = id) (hn : ∀ j, j < k → (fAt l j).f0 ≠ id) : fPl l id = (k : Int) := idxOf_hit _ l z63 k hk (beq_iff_eq.2 h) fun j hj => beq_eq_false_iff_ne.2 (hn j hj)
theorem l5Find_ok (l : List Fd) (id : Int) (hl : l.length ≤ 2000000) : Ok (fun k => spec_l5Find.f k l id) (· = fPl l id) := by
  unfold spec_l5Find.f
  refine Ok.range (fun (_ : Unit) i k => spec_l5Find.l0 k l id i) l.length (fun i _ => ∀ j, j < i → (fAt l j).f0 ≠ id) _ ?_ ?_ () (fun j hj => absurd hj (by omega))
  · intro i _ hi hinv ih
    refine Ok.step (fun k => by simp only [spec_l5Find.l0]; rfl) (Ok.pos (by omega) (Ok.pos (by omega) ?_))
    rw [fAt_rd, wrap_id (n := (i : Int) + 1) (by omega) (by omega)]
    refine Ok.ite (fun h => Ok.ret (fPl_hit hi h hinv).symm) (fun h => ih () fun j hj => ?_)
    rcases Nat.lt_succ_iff_lt_or_eq.1 hj with h1 | rfl
    · exact hinv j h1
    · exact h
  · intro _ hinv
    exact Ok.step (fun k => by simp only [spec_l5Find.l0]; rfl) (Ok.neg (by omega) (Ok.ret (fPl_none hinv).symm))
end Go.Proofs.Ytclldijjbmnkeaa.Pure
/- When dishes are valid, in the program and in the reference. Condition: at most 2,000,000 dishes, each of at most 2,000,000 parts, and as many foods. -/
namespace Go.Proofs.Ytclldijjbmnkeaa.Pure
open Go.RowKit Go.Proofs.YtclldijjbmnkeaaW.PrintWords Go.Proofs.YtclldijjbmnkeaaW.PrintLast Go.Proofs.Ytclldijjbmnkeaa.Q
set_option linter.unusedVariables false
set_option linter.unusedSimpArgs false
def pAt (l : List Pt) (i : Nat) : Pt := l.getD i z55
theorem pAt_rd (l : List Pt) (i : Nat) : rd_T55 l (i : Int) = pAt l i := rfl
theorem dAt_prev (l : List Ds) (i : Nat) (h : 0 < i) : rd_T29 l ((i : Int) - 1) = dAt l (i - 1) := by
  unfold rd_T29 dAt
  rw [show ((i : Int) - 1).toNat = i - 1 by omega]
/-- a part of a dish behind the dishes b -/
def pGood (b : List Ds) (l : List Fd) (p : Pt) : Prop := (p.f1 = 0 ∧ 0 ≤ fPl l p.f0 ∧ 1 ≤ p.f2 ∧ p.f2 ≤ 999) ∨ (p.f1 ≠ 0 ∧ p.f0 = 0 ∧ 0 ≤ dPl b p.f1 ∧ 1 ≤ p.f2 ∧ p.f2 ≤ 9)
def dHead (d : List Ds) (i : Nat) : Prop := (1 ≤ (dAt d i).f0 ∧ (dAt d i).f0 ≤ 20) ∧ (1 ≤ (dAt d i).f1 ∧ (dAt d i).f1 ≤ 12) ∧ (1 ≤ (dAt d i).f2.length ∧ (dAt d i).f2.length ≤ 5) ∧ (0 < i → (dAt d (i - 1)).f0 < (dAt d i).f0)
def dGood (d : List Ds) (l : List Fd) (i : Nat) : Prop := dHead d i ∧ ∀ j, j < (dAt d i).f2.length → pGood (d.take i) l (pAt (dAt d i).f2 j)
def DV (d : List Ds) (l : List Fd) : Prop := FV l ∧ d.length ≤ 4 ∧ ∀ i, i < d.length → dGood d l i
theorem take_dAt (d : List Ds) (i k : Nat) (hk : k < i) : dAt (d.take i) k = dAt d k := by
  unfold dAt
  rw [List.getD_eq_getElem?_getD, List.getD_eq_getElem?_getD, List.getElem?_take, if_pos hk]
theorem dPl_nat {l : List Ds} {id : Int} (h : 0 ≤ dPl l id) : ∃ k : Nat, dPl l id = k ∧ k < l.length ∧ (dAt l k).f0 = id := by
  rcases dPl_is l id with ⟨e, _⟩ | ⟨k, e, hk, hi, _⟩
  · omega
  · exact ⟨k, e, hk, hi⟩
theorem l11Part_ok (b : List Ds) (l : List Fd) (p : Pt) (hb : b.length ≤ 2000000) (hl : l.length ≤ 2000000) : Ok (fun k => spec_l11Part.f k b l p.f0 p.f1 p.f2) (fun r => r = true ↔ pGood b l p) := by
  unfold spec_l11Part.f
  refine Ok.ite (fun h => Ok.bind (l5Find_ok l _ hl) ?_) (fun h => Ok.ite (fun h2 => Ok.bind (l11Find_ok b _ hb) ?_) (fun h2 => Ok.ret ⟨fun h' => (by cases h'), fun h' => by rcases h' with h' | h'; exact absurd h'.1 h; exact absurd h'.2.1 h2⟩))
  · rintro _ rfl
    refine Ok.ite (fun h2 => ?_) (fun h2 => Ok.ret ⟨fun h' => (by cases h'), fun h' => by rcases h' with h' | h'; exact absurd h'.2.1 h2; exact absurd h h'.1⟩)
    rw [l6In_eq]
    refine Ok.val (Ok.ret ?_)
    rw [inr_iff]
    exact ⟨fun h' => .inl ⟨h, h2, h'⟩, fun h' => by rcases h' with h' | h'; exact h'.2.2; exact absurd h h'.1⟩
  · rintro _ rfl
    refine Ok.ite (fun h3 => ?_) (fun h3 => Ok.ret ⟨fun h' => (by cases h'), fun h' => by rcases h' with h' | h'; exact absurd h'.1 h; exact absurd h'.2.2.1 h3⟩)
    rw [l6In_eq]
    refine Ok.val (Ok.ret ?_)
    rw [inr_iff]
    exact ⟨fun h' => .inr ⟨h, h2, h3, h'⟩, fun h' => by rcases h' with h' | h'; exact absurd h'.1 h; exact h'.2.2.2⟩
theorem sDishes_ok (d : List Ds) (l : List Fd) (hd : d.length ≤ 2000000) (hp : ∀ i, i < d.length → (dAt d i).f2.length ≤ 2000000) (hl : l.length ≤ 2000000) : Ok (fun k => spec_DishesValid.f k d l) (fun b => b = true ↔ DV d l) := by
  unfold spec_DishesValid.f
  refine Ok.bind (sFoods_ok l hl) fun b hb => Ok.ite (fun h => ?_) (fun h => Ok.step (fun k => by simp only [spec_DishesValid.j0]; rfl) (Ok.pos (by trivial) (Ok.ret ⟨fun h' => (by cases h'), fun h' => absurd (hb.2 h'.1) h⟩)))
  have fv := hb.1 h
  refine Ok.step (fun k => by simp only [spec_DishesValid.j0]; rfl) (Ok.ite (fun h4 => Ok.ret ⟨fun h' => (by cases h'), fun h' => by have := h'.2.1; simp at h4; omega⟩) (fun h4 => ?_))
  have h4' : d.length ≤ 4 := by simp at h4; omega
  clear h4
  refine Ok.range (fun (_ : Unit) i k => spec_DishesValid.l0 k d l i) d.length (fun i _ => ∀ j, j < i → dGood d l j) _ ?_ ?_ () (fun j hj => absurd hj (by omega))
  · intro i _ hi hinv ih
    refine Ok.step (fun k => by simp only [spec_DishesValid.l0]; rfl) (Ok.pos (by omega) (Ok.pos (by omega) ?_))
    rw [dAt_rd, wrap_id (n := (i : Int) - 1) (by omega) (by omega)]
    simp only [l6In_eq, Option.bind_some]
    have bad : ¬ dGood d l i → Ok (fun k => some false) (fun r : Bool => r = true ↔ DV d l) := fun h => Ok.ret ⟨fun h' => (by cases h'), fun h' => absurd (h'.2.2 i hi) h⟩
    have badj : ¬ dGood d l i → Ok (fun k => spec_DishesValid.j2 k d l (i : Int) true (dAt d i).f0 (dAt d i).f1 (dAt d i).f2) (fun r : Bool => r = true ↔ DV d l) := fun h => Ok.step (fun k => by simp only [spec_DishesValid.j2]; rfl) (Ok.pos (by trivial) (bad h))
    have good : dHead d i → Ok (fun k => spec_DishesValid.l1 k d l (i : Int) 0 (dAt d i).f0 (dAt d i).f1 (dAt d i).f2) (fun r : Bool => r = true ↔ DV d l) := by
      intro g
      refine Ok.range (fun (_ : Unit) j k => spec_DishesValid.l1 k d l (i : Int) j (dAt d i).f0 (dAt d i).f1 (dAt d i).f2) (dAt d i).f2.length (fun j _ => ∀ q, q < j → pGood (d.take i) l (pAt (dAt d i).f2 q)) _ ?_ ?_ () (fun j hj => absurd hj (by omega))
      · intro j _ hj hinv2 ih2
        have hpi := hp i hi
        refine Ok.step (fun k => by simp only [spec_DishesValid.l1]; rfl) (Ok.pos (by omega) (Ok.pos (by omega) (Ok.pos (by omega) (Ok.pos (by omega) ?_))))
        rw [pAt_rd, wrap_id (n := (j : Int) + 1) (by omega) (by omega), Int.toNat_natCast]
        refine Ok.bind (l11Part_ok (d.take i) l (pAt (dAt d i).f2 j) (by rw [List.length_take]; omega) hl) fun r hr => Ok.ite (fun h5 => ih2 () fun q hq => ?_) (fun h5 => bad fun g' => h5 (hr.2 (g'.2 j hj)))
        rcases Nat.lt_succ_iff_lt_or_eq.1 hq with h6 | rfl
        · exact hinv2 q h6
        · exact hr.1 h5
      · intro _ hinv2
        refine Ok.step (fun k => by simp only [spec_DishesValid.l1]; rfl) (Ok.neg (by omega) ?_)
        rw [wrap_id (n := (i : Int) + 1) (by omega) (by omega)]
        refine ih () fun j hj => ?_
        rcases Nat.lt_succ_iff_lt_or_eq.1 hj with h6 | rfl
        · exact hinv j h6
        · exact ⟨g, hinv2⟩
    refine Ok.ite (fun h1 => Ok.ite (fun h2 => Ok.ite (fun h3 => ?_) (fun h => badj fun g => h ((inr_iff _ _ _).2 (by have := g.1.2.2.1; omega)))) (fun h => badj fun g => h ((inr_iff _ _ _).2 g.1.2.1))) (fun h => badj fun g => h ((inr_iff _ _ _).2 g.1.1))
    have h1' := (inr_iff _ _ _).1 h1
    have h2' := (inr_iff _ _ _).1 h2
    have h3' : 1 ≤ (dAt d i).f2.length ∧ (dAt d i).f2.length ≤ 5 := by have := (inr_iff _ _ _).1 h3; omega
    refine Ok.ite (fun h7 => Ok.pos (by omega) (Ok.pos (by omega) ?_)) (fun h7 => Ok.step (fun k => by simp only [spec_DishesValid.j2]; rfl) (Ok.neg (by simp) (good ⟨h1', h2', h3', fun h => absurd h (by omega)⟩)))
    rw [dAt_prev d i (by omega)]
    refine Ok.step (fun k => by simp only [spec_DishesValid.j2]; rfl) (Ok.ite (fun h8 => bad fun g => ?_) (fun h8 => good ⟨h1', h2', h3', fun _ => ?_⟩))
    · have := g.1.2.2.2 (by omega); simp at h8; omega
    · simp at h8; omega
  · intro _ hinv
    exact Ok.step (fun k => by simp only [spec_DishesValid.l0]; rfl) (Ok.neg (by omega) (Ok.ret ⟨fun _ => ⟨fv, h4', hinv⟩, fun _ => rfl⟩))
theorem iDishes_ok (d : List Ds) (l : List Fd) (hd : d.length ≤ 2000000) (hp : ∀ i, i < d.length → (dAt d i).f2.length ≤ 2000000) (hl : l.length ≤ 2000000) : Ok (fun k => impl_DishesValid.f k d l) (fun b => b = true ↔ DV d l) := by
  unfold impl_DishesValid.f
  refine Ok.bind (iFoods_ok l hl) fun b hb => Ok.ite (fun h => ?_) (fun h => Ok.step (fun k => by simp only [impl_DishesValid.j0]; rfl) (Ok.pos (by trivial) (Ok.ret ⟨fun h' => (by cases h'), fun h' => absurd (hb.2 h'.1) h⟩)))
  have fv := hb.1 h
  refine Ok.step (fun k => by simp only [impl_DishesValid.j0]; rfl) (Ok.ite (fun h4 => Ok.ret ⟨fun h' => (by cases h'), fun h' => by have := h'.2.1; simp at h4; omega⟩) (fun h4 => ?_))
  have h4' : d.length ≤ 4 := by simp at h4; omega
  clear h4
  refine Ok.range (fun (_ : Unit) i k => impl_DishesValid.l0 k d l d (d.length : Int) i) d.length (fun i _ => ∀ j, j < i → dGood d l j) _ ?_ ?_ () (fun j hj => absurd hj (by omega))
  · intro i _ hi hinv ih
    refine Ok.step (fun k => by simp only [impl_DishesValid.l0]; rfl) (Ok.pos (by omega) (Ok.pos (by omega) (Ok.pos (by omega) ?_)))
    rw [dAt_rd, wrap_id (n := (i : Int) - 1) (by omega) (by omega)]
    simp only [isId_eq, within_eq, Option.bind_some]
    have bad : ¬ dGood d l i → Ok (fun k => some false) (fun r : Bool => r = true ↔ DV d l) := fun h => Ok.ret ⟨fun h' => (by cases h'), fun h' => absurd (h'.2.2 i hi) h⟩
    have badj : ¬ dGood d l i → Ok (fun k => impl_DishesValid.j2 k d l (i : Int) d (d.length : Int) (i : Int) true (dAt d i).f0 (dAt d i).f1 (dAt d i).f2) (fun r : Bool => r = true ↔ DV d l) := fun h => Ok.step (fun k => by simp only [impl_DishesValid.j2]; rfl) (Ok.pos (by trivial) (bad h))
    have good : dHead d i → Ok (fun k => impl_DishesValid.l1 k d l (i : Int) d (d.length : Int) (i : Int) (dAt d i).f2 ((dAt d i).f2.length : Int) 0) (fun r : Bool => r = true ↔ DV d l) := by
      intro g
      refine Ok.range (fun (_ : Unit) j k => impl_DishesValid.l1 k d l (i : Int) d (d.length : Int) (i : Int) (dAt d i).f2 ((dAt d i).f2.length : Int) j) (dAt d i).f2.length (fun j _ => ∀ q, q < j → pGood (d.take i) l (pAt (dAt d i).f2 q)) _ ?_ ?_ () (fun j hj => absurd hj (by omega))
      · intro j _ hj hinv2 ih2
        have hpi := hp i hi
        refine Ok.step (fun k => by simp only [impl_DishesValid.l1]; rfl) (Ok.pos (by omega) (Ok.pos (by omega) (Ok.pos (by omega) ?_)))
        rw [pAt_rd]
        have next : pGood (d.take i) l (pAt (dAt d i).f2 j) → Ok (fun k => impl_DishesValid.l1 k d l (i : Int) d (d.length : Int) (i : Int) (dAt d i).f2 ((dAt d i).f2.length : Int) (wrap64 ((j : Int) + 1))) (fun r : Bool => r = true ↔ DV d l) := by
          intro hg
          rw [wrap_id (n := (j : Int) + 1) (by omega) (by omega)]
          refine ih2 () fun q hq => ?_
          rcases Nat.lt_succ_iff_lt_or_eq.1 hq with h6 | rfl
          · exact hinv2 q h6
          · exact hg
        have stop : ¬ pGood (d.take i) l (pAt (dAt d i).f2 j) → Ok (fun k => some false) (fun r : Bool => r = true ↔ DV d l) := fun hg => bad fun g' => hg (g'.2 j hj)
        have nz : 0 ≤ dPl (d.take i) (pAt (dAt d i).f2 j).f1 → (pAt (dAt d i).f2 j).f1 ≠ 0 := by
          intro h5 e
          obtain ⟨q, _, hq, hi0⟩ := dPl_nat h5
          have hq' : q < i := by rw [List.length_take] at hq; omega
          rw [take_dAt d i q hq', e] at hi0
          have := (hinv q hq').1.1
          omega
        have j4ok : ∀ b : Bool, (b = true → pGood (d.take i) l (pAt (dAt d i).f2 j)) → (b = false → ¬ ((pAt (dAt d i).f2 j).f1 = 0 ∧ 0 ≤ fPl l (pAt (dAt d i).f2 j).f0 ∧ 1 ≤ (pAt (dAt d i).f2 j).f2 ∧ (pAt (dAt d i).f2 j).f2 ≤ 999)) → Ok (fun k => impl_DishesValid.j4 k d l (i : Int) b d (d.length : Int) (i : Int) (dAt d i).f2 ((dAt d i).f2.length : Int) (j : Int) (pAt (dAt d i).f2 j).f0 (pAt (dAt d i).f2 j).f1 (pAt (dAt d i).f2 j).f2) (fun r : Bool => r = true ↔ DV d l) := by
          intro b hb1 hb2
          have nb : ¬ b = true → b = false := fun h => by simpa using h
          refine Ok.step (fun k => by simp only [impl_DishesValid.j4]; rfl) (Ok.ite (fun h5 => Ok.pos (by omega) (Ok.pos (by omega) ?_)) (fun h5 => Ok.ite (fun h6 => next (hb1 h6)) (fun h6 => stop fun g' => ?_)))
          · rw [iDFind_eq, Int.toNat_natCast, within_eq]
            refine Ok.val (Ok.ite (fun h7 => Ok.val (Ok.ite (fun h6 => next (hb1 h6)) (fun h6 => Ok.ite (fun h8 => next (.inr ⟨nz h7, h5, h7, (inr_iff _ _ _).1 h8⟩)) (fun h8 => stop fun g' => ?_)))) (fun h7 => Ok.ite (fun h6 => next (hb1 h6)) (fun h6 => stop fun g' => ?_)))
            · rcases g' with g' | g'
              · exact hb2 (nb h6) g'
              · exact h8 ((inr_iff _ _ _).2 g'.2.2.2)
            · rcases g' with g' | g'
              · exact hb2 (nb h6) g'
              · exact h7 g'.2.2.1
          · rcases g' with g' | g'
            · exact hb2 (nb h6) g'
            · exact h5 g'.2.1
        refine Ok.ite (fun h5 => ?_) (fun h5 => j4ok false (fun h => by cases h) (fun _ g' => h5 g'.1))
        rw [foodPlace_eq, within_eq]
        refine Ok.val (Ok.ite (fun h6 => Ok.val (j4ok _ (fun h7 => .inl ⟨h5, h6, (inr_iff _ _ _).1 h7⟩) (fun h7 g' => ?_))) (fun h6 => j4ok false (fun h => by cases h) (fun _ g' => h6 g'.2.1)))
        rw [(inr_iff _ _ _).2 g'.2.2] at h7
        cases h7
      · intro _ hinv2
        refine Ok.step (fun k => by simp only [impl_DishesValid.l1]; rfl) (Ok.neg (by omega) ?_)
        rw [wrap_id (n := (i : Int) + 1) (by omega) (by omega)]
        refine ih () fun j hj => ?_
        rcases Nat.lt_succ_iff_lt_or_eq.1 hj with h6 | rfl
        · exact hinv j h6
        · exact ⟨g, hinv2⟩
    refine Ok.ite (fun h1 => ?_) (fun h => badj fun g => h ((inr_iff _ _ _).2 g.1.1))
    have h1' := (inr_iff _ _ _).1 h1
    have rest : (0 < i → (dAt d (i - 1)).f0 < (dAt d i).f0) → Ok (fun k => if inr (dAt d i).f1 1 12 = true then impl_DishesValid.j2 k d l (i : Int) d (d.length : Int) (i : Int) (!inr ((dAt d i).f2.length : Int) 1 5) (dAt d i).f0 (dAt d i).f1 (dAt d i).f2 else impl_DishesValid.j2 k d l (i : Int) d (d.length : Int) (i : Int) true (dAt d i).f0 (dAt d i).f1 (dAt d i).f2) (fun r : Bool => r = true ↔ DV d l) := by
      intro h9
      refine Ok.ite (fun h2 => Ok.step (fun k => by simp only [impl_DishesValid.j2]; rfl) (Ok.ite (fun h3 => bad fun g => ?_) (fun h3 => good ⟨h1', (inr_iff _ _ _).1 h2, ?_, h9⟩))) (fun h => badj fun g => h ((inr_iff _ _ _).2 g.1.2.1))
      · have := g.1.2.2.1
        rw [(inr_iff _ _ _).2 (by omega)] at h3
        cases h3
      · simp at h3
        have := (inr_iff _ _ _).1 h3
        omega
    refine Ok.ite (fun h7 => Ok.pos (by omega) (Ok.pos (by omega) ?_)) (fun h7 => rest fun h => absurd h (by omega))
    rw [dAt_prev d i (by omega)]
    exact Ok.ite (fun h8 => badj fun g => by have := g.1.2.2.2 (by omega); omega) (fun h8 => rest fun _ => by omega)
  · intro _ hinv
    exact Ok.step (fun k => by simp only [impl_DishesValid.l0]; rfl) (Ok.neg (by omega) (Ok.ret ⟨fun _ => ⟨fv, h4', hinv⟩, fun _ => rfl⟩))
end Go.Proofs.Ytclldijjbmnkeaa.Pure
/- Which dishes are in a dish, in the program and in the reference. Condition: valid dishes. -/
namespace Go.Proofs.Ytclldijjbmnkeaa.Pure
open Go.RowKit Go.Proofs.YtclldijjbmnkeaaW.PrintWords Go.Proofs.YtclldijjbmnkeaaW.PrintLast Go.Proofs.Ytclldijjbmnkeaa.Q
set_option linter.unusedVariables false
set_option linter.unusedSimpArgs false
/-- part q of dish i -/
def pt (d : List Ds) (i q : Nat) : Pt := pAt (dAt d i).f2 q
/-- dish j is a part of dish i -/
def Ch (d : List Ds) (i j : Nat) : Prop := ∃ q, q < (dAt d i).f2.length ∧ 0 < (pt d i q).f1 ∧ dPl d (pt d i q).f1 = (j : Int)
inductive Rch (d : List Ds) : Nat → Nat → Prop
  | self (i : Nat) : Rch d i i
  | step {i c j : Nat} : Ch d i c → Rch d c j → Rch d i j
theorem rch_snoc {d : List Ds} {i j : Nat} (h : Rch d i j) : ∀ {k : Nat}, Ch d j k → Rch d i k := by
  induction h with
  | self i => exact fun c => .step c (.self _)
  | step c _ ih => exact fun c' => .step c (ih c')
theorem rch_last {d : List Ds} {i j : Nat} (h : Rch d i j) : j = i ∨ ∃ p, Rch d i p ∧ Ch d p j := by
  induction h with
  | self i => exact .inl rfl
  | step c _ ih =>
    rcases ih with rfl | ⟨p, r, h⟩
    · exact .inr ⟨_, .self _, c⟩
    · exact .inr ⟨p, .step c r, h⟩
theorem dPl_take {d : List Ds} {i : Nat} {id : Int} (h : 0 ≤ dPl (d.take i) id) : ∃ c : Nat, dPl d id = c ∧ c < i ∧ c < d.length ∧ (dAt d c).f0 = id := by
  rcases dPl_is (d.take i) id with ⟨e, _⟩ | ⟨k, e, hk, hi, hn⟩
  · omega
  · rw [List.length_take] at hk
    have e1 := take_dAt d i k (by omega)
    rw [e1] at hi
    refine ⟨k, dPl_hit (by omega) hi fun j hj => ?_, by omega, by omega, hi⟩
    have := hn j hj
    rwa [take_dAt d i j (by omega)] at this
theorem part_dish {d : List Ds} {l : List Fd} (v : DV d l) {i q : Nat} (hi : i < d.length) (hq : q < (dAt d i).f2.length) (h : (pt d i q).f1 ≠ 0) : ∃ c : Nat, dPl d (pt d i q).f1 = c ∧ c < i ∧ 0 < (pt d i q).f1 ∧ (pt d i q).f0 = 0 ∧ 1 ≤ (pt d i q).f2 ∧ (pt d i q).f2 ≤ 9 := by
  rcases (v.2.2 i hi).2 q hq with g | g
  · exact absurd g.1 h
  · obtain ⟨c, e, hc, hcl, e0⟩ := dPl_take g.2.2.1
    have := (v.2.2 c hcl).1.1
    exact ⟨c, e, hc, by unfold pt; omega, g.2.1, g.2.2.2⟩
theorem ch_lt {d : List Ds} {l : List Fd} (v : DV d l) {i j : Nat} (hi : i < d.length) (h : Ch d i j) : j < i := by
  obtain ⟨q, hq, h0, e⟩ := h
  obtain ⟨c, e', hc, _⟩ := part_dish v hi hq (by omega)
  omega
theorem rch_le {d : List Ds} {l : List Fd} (v : DV d l) {i j : Nat} (h : Rch d i j) : i < d.length → j ≤ i := by
  induction h with
  | self i => exact fun _ => Nat.le_refl _
  | step c _ ih =>
    intro hi
    have := ch_lt v hi c
    have := ih (by omega)
    omega
theorem rdOf_nat (l : List Bool) (i : Nat) : rdOf false l (i : Int) = l.getD i false := rfl
theorem getD_set_b (l : List Bool) (i j : Nat) (hi : i < l.length) : (l.set i true).getD j false = true ↔ j = i ∨ l.getD j false = true := by
  rw [getD_set _ _ _ _ _ hi]
  by_cases h : j = i
  · simp [h]
  · simp [h]
/-- the marks of what is in dish i -/
def Mk (d : List Ds) (i : Nat) (M : List Bool) : Prop := M.length = d.length ∧ ∀ j, (M.getD j false = true ↔ Rch d i j)
theorem mk_eq {d : List Ds} {i : Nat} {M M' : List Bool} (h : Mk d i M) (h' : Mk d i M') : M = M' :=
  eq_of_getD false (h.1.trans h'.1.symm) fun j _ => bool_of_iff (h.2 j) (h'.2 j)
theorem uses_ok {d : List Ds} {l : List Fd} (v : DV d l) : ∀ n i, i < n → i < d.length → ∀ m : List Bool, m.length = d.length → Ok (fun k => spec_l11Uses.f k d (i : Int) m) (fun r => r.length = d.length ∧ ∀ j, (r.getD j false = true ↔ m.getD j false = true ∨ Rch d i j)) := by
  intro n
  induction n with
  | zero => intro i h; omega
  | succ n IH =>
    intro i hin hi m hm
    have h4 := v.2.1
    have h5 := (v.2.2 i hi).1.2.2.1
    refine Ok.step (fun k => by simp only [spec_l11Uses.f]; rfl) (Ok.pos (by omega) (Ok.pos (by omega) ?_))
    rw [Int.toNat_natCast]
    refine Ok.range (fun (m : List Bool) q k => spec_l11Uses.l0 k d (i : Int) m q) (dAt d i).f2.length (fun q r => r.length = d.length ∧ ∀ j, (r.getD j false = true ↔ m.getD j false = true ∨ j = i ∨ ∃ q' c : Nat, q' < q ∧ 0 < (pt d i q').f1 ∧ dPl d (pt d i q').f1 = (c : Int) ∧ Rch d c j)) _ ?_ ?_ _ ⟨by simp [hm], fun j => ?_⟩
    · rintro q r hq ⟨h1, h2⟩ ih
      refine Ok.step (fun k => by simp only [spec_l11Uses.l0]; rfl) (Ok.pos (by omega) (Ok.pos (by omega) (Ok.pos (by rw [dAt_rd]; omega) (Ok.pos (by omega) ?_))))
      rw [dAt_rd, pAt_rd, wrap_id (n := (q : Int) + 1) (by omega) (by omega)]
      refine Ok.ite (fun h6 => Ok.bind (l11Find_ok d _ (by omega)) ?_) (fun h6 => ih r ⟨h1, fun j => (h2 j).trans ?_⟩)
      · rintro _ rfl
        obtain ⟨c, e, hc, _⟩ := part_dish v hi hq (show (pt d i q).f1 ≠ 0 by unfold pt; omega)
        have e' : dPl d (pAt (dAt d i).f2 q).f1 = (c : Int) := e
        rw [e']
        refine Ok.bind (IH c (by omega) (by omega) r h1) fun r' ⟨h3, h7⟩ => ih r' ⟨h3, fun j => (h7 j).trans ?_⟩
        rw [h2 j]
        constructor
        · rintro ((h8 | h8 | ⟨q', c', a, b, e2, f⟩) | h8)
          · exact .inl h8
          · exact .inr (.inl h8)
          · exact .inr (.inr ⟨q', c', by omega, b, e2, f⟩)
          · exact .inr (.inr ⟨q, c, by omega, h6, e, h8⟩)
        · rintro (h8 | h8 | ⟨q', c', a, b, e2, f⟩)
          · exact .inl (.inl h8)
          · exact .inl (.inr (.inl h8))
          · rcases Nat.lt_succ_iff_lt_or_eq.1 a with a | rfl
            · exact .inl (.inr (.inr ⟨q', c', a, b, e2, f⟩))
            · have : c' = c := by omega
              subst this
              exact .inr f
      · constructor
        · rintro (h8 | h8 | ⟨q', c', a, b, e2, f⟩)
          · exact .inl h8
          · exact .inr (.inl h8)
          · exact .inr (.inr ⟨q', c', by omega, b, e2, f⟩)
        · rintro (h8 | h8 | ⟨q', c', a, b, e2, f⟩)
          · exact .inl h8
          · exact .inr (.inl h8)
          · rcases Nat.lt_succ_iff_lt_or_eq.1 a with a | rfl
            · exact .inr (.inr ⟨q', c', a, b, e2, f⟩)
            · exact absurd b h6
    · rintro r ⟨h1, h2⟩
      refine Ok.step (fun k => by simp only [spec_l11Uses.l0]; rfl) (Ok.pos (by omega) (Ok.pos (by omega) (Ok.neg (by rw [dAt_rd]; omega) (Ok.ret ⟨h1, fun j => (h2 j).trans ?_⟩))))
      constructor
      · rintro (h8 | rfl | ⟨q', c', a, b, e2, f⟩)
        · exact .inl h8
        · exact .inr (.self _)
        · exact .inr (.step ⟨q', a, b, e2⟩ f)
      · rintro (h8 | h8)
        · exact .inl h8
        · cases h8 with
          | self => exact .inr (.inl rfl)
          | step c f =>
            obtain ⟨q, hq, b, e2⟩ := c
            exact .inr (.inr ⟨q, _, hq, b, e2, f⟩)
    · rw [getD_set_b _ _ _ (by omega)]
      constructor
      · rintro (h8 | h8)
        · exact .inr (.inl h8)
        · exact .inl h8
      · rintro (h8 | h8 | ⟨q', c', a, _⟩)
        · exact .inr h8
        · exact .inl h8
        · omega
theorem inDish_ok {d : List Ds} {l : List Fd} (v : DV d l) (id : Int) (i : Nat) (hid : dPl d id = i) (hi : i < d.length) : Ok (fun k => impl_inDish.f k d id) (Mk d i) := by
  have h4 := v.2.1
  unfold impl_inDish.f
  refine Ok.pos (by omega) (Ok.pos (Nat.le_trans (m := 2000000) (by omega) (by decide)) (Ok.val ?_))
  rw [iDFind_eq, hid]
  refine Ok.val (Ok.pos (by omega) (Ok.pos (by simp; omega) ?_))
  rw [wrap_id (n := (d.length : Int) - 1) (by omega) (by omega)]
  simp only [Int.toNat_natCast]
  refine Ok.down (fun (s : List Bool) x k => impl_inDish.l0 k d s x) d.length (fun n s => s.length = d.length ∧ ∀ j, (s.getD j false = true ↔ j = i ∨ ∃ p, n ≤ p ∧ Rch d i p ∧ Ch d p j)) _ ?_ ?_ _ ⟨by simp, fun j => ?_⟩
  · rintro n s hn ⟨h1, h2⟩ ih
    have h5 := (v.2.2 n hn).1.2.2.1
    refine Ok.step (fun k => by simp only [impl_inDish.l0]; rfl) (Ok.pos (by omega) (Ok.pos (by omega) (Ok.pos (by omega) ?_)))
    rw [dAt_rd]
    have own : s.getD n false = true ↔ Rch d i n := by
      rw [h2 n]
      constructor
      · rintro (rfl | ⟨p, _, a, b⟩)
        · exact .self _
        · exact rch_snoc a b
      · intro a
        rcases rch_last a with e | ⟨p, a, b⟩
        · exact .inl e
        · have := ch_lt v (Nat.lt_of_le_of_lt (rch_le v a hi) hi) b
          exact .inr ⟨p, by omega, a, b⟩
    refine Ok.range (fun (s : List Bool) q k => impl_inDish.l1 k d s (n : Int) (dAt d n).f2 ((dAt d n).f2.length : Int) q) (dAt d n).f2.length (fun q s => s.length = d.length ∧ (s.getD n false = true ↔ Rch d i n) ∧ ∀ j, (s.getD j false = true ↔ (j = i ∨ ∃ p, n + 1 ≤ p ∧ Rch d i p ∧ Ch d p j) ∨ (Rch d i n ∧ ∃ q', q' < q ∧ 0 < (pt d n q').f1 ∧ dPl d (pt d n q').f1 = (j : Int)))) _ ?_ ?_ s ⟨h1, own, fun j => (h2 j).trans ⟨.inl, fun h => h.elim (fun h => h) (fun ⟨_, _, a, _⟩ => absurd a (by omega))⟩⟩
    · rintro q s' hq ⟨g1, g2, g3⟩ ih2
      refine Ok.step (fun k => by simp only [impl_inDish.l1]; rfl) (Ok.pos (by omega) (Ok.pos (by omega) (Ok.pos (by omega) (Ok.pos (by omega) (Ok.pos (by omega) ?_)))))
      rw [pAt_rd, rdOf_nat, wrap_id (n := (q : Int) + 1) (by omega) (by omega)]
      have skip : ¬ (Rch d i n ∧ 0 < (pt d n q).f1) → Ok (fun k => impl_inDish.l1 k d s' (n : Int) (dAt d n).f2 ((dAt d n).f2.length : Int) ((q : Int) + 1)) (Mk d i) := by
        intro hno
        refine ih2 s' ⟨g1, g2, fun j => (g3 j).trans ⟨fun h => h.elim .inl (fun ⟨a, q', b, c⟩ => .inr ⟨a, q', by omega, c⟩), fun h => h.elim .inl (fun ⟨a, q', b, c⟩ => ?_)⟩⟩
        rcases Nat.lt_succ_iff_lt_or_eq.1 b with b | rfl
        · exact .inr ⟨a, q', b, c⟩
        · exact absurd ⟨a, c.1⟩ hno
      refine Ok.ite (fun h6 => Ok.ite (fun h7 => ?_) (fun h7 => skip fun h => h7 h.2)) (fun h6 => skip fun h => h6 (g2.2 h.1))
      obtain ⟨c, e, hc, _⟩ := part_dish v hn hq (show (pt d n q).f1 ≠ 0 by unfold pt; omega)
      have e' : dPl d (pAt (dAt d n).f2 q).f1 = (c : Int) := e
      rw [iDFind_eq, e']
      refine Ok.val (Ok.pos (by omega) (Ok.pos (by omega) (ih2 _ ⟨by simp [g1], ?_, fun j => ?_⟩)))
      · simp only [Int.toNat_natCast]
        rw [getD_set_b _ _ _ (by omega), or_iff_right (by omega)]
        exact g2
      · simp only [Int.toNat_natCast]
        rw [getD_set_b _ _ _ (by omega), g3 j]
        constructor
        · rintro (rfl | h8 | ⟨a, q', b, c'⟩)
          · exact .inr ⟨g2.1 h6, q, by omega, h7, e⟩
          · exact .inl h8
          · exact .inr ⟨a, q', by omega, c'⟩
        · rintro (h8 | ⟨a, q', b, c'⟩)
          · exact .inr (.inl h8)
          · rcases Nat.lt_succ_iff_lt_or_eq.1 b with b | rfl
            · exact .inr (.inr ⟨a, q', b, c'⟩)
            · exact .inl (by have := c'.2; omega)
    · rintro s' ⟨g1, g2, g3⟩
      refine Ok.step (fun k => by simp only [impl_inDish.l1]; rfl) (Ok.neg (by omega) ?_)
      rw [wrap_id (n := (n : Int) - 1) (by omega) (by omega)]
      refine ih s' ⟨g1, fun j => (g3 j).trans ?_⟩
      constructor
      · rintro ((h8 | ⟨p, a, b, c⟩) | ⟨a, q', b, c⟩)
        · exact .inl h8
        · exact .inr ⟨p, by omega, b, c⟩
        · exact .inr ⟨n, Nat.le_refl _, a, q', b, c⟩
      · rintro (h8 | ⟨p, a, b, c⟩)
        · exact .inl (.inl h8)
        · by_cases e : p = n
          · subst e
            obtain ⟨q', c⟩ := c
            exact .inr ⟨b, q', c⟩
          · exact .inl (.inr ⟨p, by omega, b, c⟩)
  · rintro s ⟨h1, h2⟩
    refine Ok.step (fun k => by simp only [impl_inDish.l0]; rfl) (Ok.neg (by omega) (Ok.ret ⟨h1, fun j => (h2 j).trans ?_⟩))
    constructor
    · rintro (rfl | ⟨p, _, a, b⟩)
      · exact .self _
      · exact rch_snoc a b
    · intro a
      rcases rch_last a with e | ⟨p, a, b⟩
      · exact .inl e
      · exact .inr ⟨p, by omega, a, b⟩
  · rw [getD_set_b _ _ _ (by simp; omega)]
    constructor
    · rintro (h8 | h8)
      · exact .inl h8
      · rw [List.getD_eq_getElem?_getD, List.getElem?_replicate] at h8
        split at h8 <;> simp at h8
    · rintro (h8 | ⟨p, a, b, c⟩)
      · exact .inl h8
      · have := rch_le v b hi
        omega
end Go.Proofs.Ytclldijjbmnkeaa.Pure
/- What is said of a dish by what is in it: an answer out of the marks, or another where an argument is invalid. Condition: as for valid dishes. -/
namespace Go.Proofs.Ytclldijjbmnkeaa.Pure
open Go.RowKit Go.Proofs.YtclldijjbmnkeaaW.PrintWords Go.Proofs.YtclldijjbmnkeaaW.PrintLast Go.Proofs.Ytclldijjbmnkeaa.Q
set_option linter.unusedVariables false
set_option linter.unusedSimpArgs false
def Res {α : Type} (d : List Ds) (l : List Fd) (id : Int) (f : Nat → List Bool → α) (z r : α) : Prop :=
  (DV d l ∧ ∃ i : Nat, ∃ M, i < d.length ∧ dPl d id = i ∧ Mk d i M ∧ r = f i M) ∨ (¬ (DV d l ∧ 0 ≤ dPl d id) ∧ r = z)
theorem res_eq {α : Type} {d : List Ds} {l : List Fd} {id : Int} {f : Nat → List Bool → α} {z r r' : α} (h : Res d l id f z r) (h' : Res d l id f z r') : r = r' := by
  rcases h with ⟨v, i, M, hi, e, hM, rfl⟩ | ⟨h, rfl⟩ <;> rcases h' with ⟨v', i', M', hi', e', hM', rfl⟩ | ⟨h', rfl⟩
  · obtain rfl : i = i' := by omega
    rw [mk_eq hM hM']
  · exact absurd ⟨v, by omega⟩ h'
  · exact absurd ⟨v', by omega⟩ h
  · rfl
theorem hasDish_ok (d : List Ds) (l : List Fd) (id : Int) (hd : d.length ≤ 2000000) (hp : ∀ i, i < d.length → (dAt d i).f2.length ≤ 2000000) (hl : l.length ≤ 2000000) : Ok (fun k => impl_hasDish.f k d l id) (fun r => r = true ↔ DV d l ∧ 0 ≤ dPl d id) := by
  unfold impl_hasDish.f
  refine Ok.bind (iDishes_ok d l hd hp hl) fun r hr => Ok.ite (fun h => ?_) (fun h => Ok.ret ⟨fun h' => (by cases h'), fun h' => absurd (hr.2 h'.1) h⟩)
  rw [iDFind_eq]
  refine Ok.val (Ok.ret ?_)
  rw [decide_eq_true_iff]
  exact ⟨fun h' => ⟨hr.1 h, h'⟩, fun h' => h'.2⟩
theorem dPl_lt {d : List Ds} {id : Int} (h : 0 ≤ dPl d id) : ∃ i : Nat, i < d.length ∧ dPl d id = i := by
  obtain ⟨k, e, hk, _⟩ := dPl_nat h
  exact ⟨k, hk, e⟩
end Go.Proofs.Ytclldijjbmnkeaa.Pure
/- Which dishes are in a dish, by their numbers, in the program and in the reference. Condition: as for valid dishes. -/
namespace Go.Proofs.Ytclldijjbmnkeaa.Pure
open Go.RowKit Go.Proofs.YtclldijjbmnkeaaW.PrintWords Go.Proofs.YtclldijjbmnkeaaW.PrintLast Go.Proofs.Ytclldijjbmnkeaa.Q
set_option linter.unusedVariables false
set_option linter.unusedSimpArgs false
/-- the numbers of the marked dishes -/
def uIds (d : List Ds) (M : List Bool) : Nat → List Int
  | 0 => []
  | i + 1 => uIds d M i ++ (if M.getD i false = true then [(dAt d i).f0] else [])
def usF (d : List Ds) (i : Nat) (M : List Bool) : List Int := uIds d M d.length
theorem uIds_len (d : List Ds) (M : List Bool) : ∀ n, (uIds d M n).length ≤ n
  | 0 => by simp [uIds]
  | n + 1 => by
    have := uIds_len d M n
    unfold uIds
    rw [List.length_append]
    split <;> simp <;> omega
theorem sUses_ok (d : List Ds) (l : List Fd) (id : Int) (hd : d.length ≤ 2000000) (hp : ∀ i, i < d.length → (dAt d i).f2.length ≤ 2000000) (hl : l.length ≤ 2000000) : Ok (fun k => spec_DishUses.f k d l id) (Res d l id (usF d) []) := by
  unfold spec_DishUses.f
  refine Ok.val ?_
  have none : ¬ (DV d l ∧ 0 ≤ dPl d id) → Ok (fun k => spec_DishUses.j0 k d id [] true) (Res d l id (usF d) []) := fun h => Ok.step (fun k => by simp only [spec_DishUses.j0]; rfl) (Ok.pos (by trivial) (Ok.ret (.inr ⟨h, rfl⟩)))
  refine Ok.bind (sDishes_ok d l hd hp hl) fun b hb => Ok.ite (fun h => Ok.bind (l11Find_ok d id hd) ?_) (fun h => none fun h' => h (hb.2 h'.1))
  rintro _ rfl
  have v := hb.1 h
  by_cases h2 : dPl d id < 0
  · rw [decide_eq_true h2]
    exact none fun h' => by omega
  rw [decide_eq_false h2]
  obtain ⟨i, hi, e⟩ := dPl_lt (d := d) (id := id) (by omega)
  have h4 := v.2.1
  refine Ok.step (fun k => by simp only [spec_DishUses.j0]; rfl) (Ok.neg (by simp) (Ok.bind (l11Find_ok d id hd) ?_))
  rintro _ rfl
  rw [e]
  refine Ok.pos (by omega) (Ok.pos (Nat.le_trans (m := 2000000) (by omega) (by decide)) (Ok.bind (uses_ok v (i + 1) i (by omega) hi _ (by simp)) fun M ⟨hM1, hM2⟩ => ?_))
  have hM : Mk d i M := ⟨hM1, fun j => (hM2 j).trans ⟨fun h => h.elim (fun h => ?_) (fun h => h), .inr⟩⟩
  rotate_left
  · rw [List.getD_eq_getElem?_getD, List.getElem?_replicate] at h
    split at h <;> simp at h
  refine Ok.range (fun (s : List Int) x k => spec_DishUses.l0 k d s M x) d.length (fun n s => s = uIds d M n) _ ?_ ?_ _ rfl
  · rintro n _ hn rfl ih
    have hl := uIds_len d M n
    refine Ok.step (fun k => by simp only [spec_DishUses.l0]; rfl) (Ok.pos (by omega) (Ok.pos (by omega) (Ok.pos (by omega) ?_)))
    rw [rdOf_nat, dAt_rd, wrap_id (n := (n : Int) + 1) (by omega) (by omega)]
    refine Ok.ite (fun h => Ok.pos (by omega) (ih _ ?_)) (fun h => ih _ ?_)
    · show _ = uIds d M n ++ _
      rw [if_pos h]
    · show _ = uIds d M n ++ _
      rw [if_neg h, List.append_nil]
  · rintro _ rfl
    exact Ok.step (fun k => by simp only [spec_DishUses.l0]; rfl) (Ok.neg (by omega) (Ok.ret (.inl ⟨v, i, M, hi, e, hM, rfl⟩)))
theorem iUses_ok (d : List Ds) (l : List Fd) (id : Int) (hd : d.length ≤ 2000000) (hp : ∀ i, i < d.length → (dAt d i).f2.length ≤ 2000000) (hl : l.length ≤ 2000000) : Ok (fun k => impl_DishUses.f k d l id) (Res d l id (usF d) []) := by
  unfold impl_DishUses.f
  refine Ok.val (Ok.bind (hasDish_ok d l id hd hp hl) fun b hb => Ok.ite (fun h => ?_) (fun h => Ok.ret (.inr ⟨fun h' => h (hb.2 h'), rfl⟩)))
  obtain ⟨v, h0⟩ := hb.1 h
  obtain ⟨i, hi, e⟩ := dPl_lt h0
  have h4 := v.2.1
  refine Ok.bind (inDish_ok v id i e hi) fun M hM => ?_
  have hM1 := hM.1
  rw [hM1]
  refine Ok.range (fun (s : List Int) x k => impl_DishUses.l0 k d s M (d.length : Int) x) d.length (fun n s => s = uIds d M n) _ ?_ ?_ _ rfl
  · rintro n _ hn rfl ih
    have hl := uIds_len d M n
    refine Ok.step (fun k => by simp only [impl_DishUses.l0]; rfl) (Ok.pos (by omega) (Ok.pos (by omega) (Ok.pos (by omega) ?_)))
    rw [rdOf_nat, dAt_rd, wrap_id (n := (n : Int) + 1) (by omega) (by omega)]
    refine Ok.ite (fun h => Ok.pos (by omega) (Ok.pos (by omega) (ih _ ?_))) (fun h => ih _ ?_)
    · show _ = uIds d M n ++ _
      rw [if_pos h]
    · show _ = uIds d M n ++ _
      rw [if_neg h, List.append_nil]
  · rintro _ rfl
    exact Ok.step (fun k => by simp only [impl_DishUses.l0]; rfl) (Ok.neg (by omega) (Ok.ret (.inl ⟨v, i, M, hi, e, hM, rfl⟩)))
end Go.Proofs.Ytclldijjbmnkeaa.Pure
/- The reader of draws: each pick answers a number in its range and goes one place on. Condition: the bytes are bytes. -/
namespace Go.Proofs.Ytclldijjbmnkeaa.Pure
open Go.RowKit Go.Proofs.YtclldijjbmnkeaaW.PrintWords Go.Proofs.YtclldijjbmnkeaaW.PrintLast Go.Proofs.Ytclldijjbmnkeaa.Q
set_option linter.unusedVariables false
set_option linter.unusedSimpArgs false

def Bytes (b : List Int) : Prop := ∀ x ∈ b, 0 ≤ x ∧ x ≤ 255
theorem rd_byte {b : List Int} (h : Bytes b) (i : Int) : 0 ≤ rd b i ∧ rd b i ≤ 255 := by
  unfold rd
  rw [List.getD_eq_getElem?_getD]
  by_cases hi : i.toNat < b.length
  · rw [List.getElem?_eq_getElem hi]
    exact h _ (List.getElem_mem hi)
  · rw [List.getElem?_eq_none (by omega)]
    simp
theorem xor_nonneg (x y : Int) (hx : 0 ≤ x) (hx' : x < 4611686018427387904) (hy : 0 ≤ y) (hy' : y < 4611686018427387904) : 0 ≤ Go.bits .xor .i64 x y := by
  obtain ⟨a, rfl⟩ := Int.eq_ofNat_of_zero_le hx
  obtain ⟨b, rfl⟩ := Int.eq_ofNat_of_zero_le hy
  have ha : a < 2 ^ 62 := by omega
  have hb : b < 2 ^ 62 := by omega
  have hx := Nat.xor_lt_two_pow ha hb
  have ha' : a % 2 ^ 64 = a := Nat.mod_eq_of_lt (by omega)
  have hb' : b % 2 ^ 64 = b := Nat.mod_eq_of_lt (by omega)
  show 0 ≤ IntKind.i64.wrap ((BitVec.ofInt 64 (a : Int) ^^^ BitVec.ofInt 64 (b : Int)).toNat : Int)
  rw [IntKind.wrap_i64]
  simp only [BitVec.ofInt_natCast, BitVec.toNat_xor, BitVec.toNat_ofNat, ha', hb']
  omega
theorem mix_range (r1 r2 p t : Int) (h1 : 0 ≤ r1 ∧ r1 ≤ 255) (h2 : 0 ≤ r2 ∧ r2 ≤ 255) (hp : 0 ≤ p ∧ p ≤ 1099511627776) (ht : 0 ≤ t ∧ t ≤ 1099511627776) :
    wrap64 ((wrap64 ((wrap64 ((wrap64 ((wrap64 r1) * 131)) + (wrap64 ((wrap64 r2) * 1117)))) + (wrap64 (p * 29)))) + (wrap64 ((wrap64 t) * 53))) = r1 * 131 + r2 * 1117 + p * 29 + t * 53 := by
  rw [wrap_id (n := r1) (by omega) (by omega), wrap_id (n := r2) (by omega) (by omega), wrap_id (n := t) (by omega) (by omega)]
  rw [wrap_id (n := r1 * 131) (by omega) (by omega), wrap_id (n := r2 * 1117) (by omega) (by omega), wrap_id (n := p * 29) (by omega) (by omega), wrap_id (n := t * 53) (by omega) (by omega)]
  rw [wrap_id (n := r1 * 131 + r2 * 1117) (by omega) (by omega), wrap_id (n := r1 * 131 + r2 * 1117 + p * 29) (by omega) (by omega), wrap_id (by omega) (by omega)]
theorem tmod_range (x n : Int) (hx : 0 ≤ x) (hn : 1 ≤ n) : 0 ≤ Int.tmod x n ∧ Int.tmod x n < n :=
  ⟨Int.tmod_nonneg _ hx, Int.tmod_lt_of_pos _ (by omega)⟩
theorem tdiv_range (x n : Int) (hx : 0 ≤ x) (hn : 1 ≤ n) : 0 ≤ Int.tdiv x n ∧ Int.tdiv x n ≤ x := by
  refine ⟨Int.tdiv_nonneg hx (by omega), ?_⟩
  rw [Int.tdiv_eq_ediv_of_nonneg hx]
  exact Int.ediv_le_self _ hx

/-- What a pick says. -/
def Picked (p n : Int) (r : Int × Int) : Prop := r.2 = p + 1 ∧ 0 ≤ r.1 ∧ (1 ≤ n → r.1 < n) ∧ (n < 1 → r.1 = 0)
theorem pick_ok (b : List Int) (p n : Int) (hb : Bytes b) (hp : 0 ≤ p) (hp' : p ≤ 1099511627776) (hn : n ≤ 1000000000) : Ok (fun k => spec_l6Rd_pick.f k b p n) (Picked p n) := by
  unfold spec_l6Rd_pick.f
  rw [wrap_id (n := p + 1) (by omega) (by omega)]
  by_cases h1 : n < 1
  · refine Ok.pos h1 (Ok.step (fun k => by simp only [spec_l6Rd_pick.j0, if_true]; rfl) (Ok.ret ⟨rfl, by simp, fun h => absurd h (by omega), fun _ => rfl⟩))
  refine Ok.neg h1 ?_
  by_cases hl : (b.length : Int) = 0
  · rw [show ((b.length : Int) == 0) = true by simpa using hl]
    refine Ok.step (fun k => by simp only [spec_l6Rd_pick.j0, if_true]; rfl) (Ok.ret ⟨rfl, by simp, fun h => by omega, fun _ => rfl⟩)
  rw [show ((b.length : Int) == 0) = false by simpa using hl]
  have hlp : 1 ≤ (b.length : Int) := by omega
  refine Ok.step (f := _) (fun k => by simp only [spec_l6Rd_pick.j0]; rfl) ?_
  refine Ok.neg (by simp) ?_
  rw [show p + 1 - 1 = p by omega, wrap_id (n := p) (by omega) (by omega)]
  by_cases hlt : p < (b.length : Int)
  · refine Ok.pos hlt (Ok.pos hp (Ok.neg (by omega) (Ok.ret ?_)))
    have hr := rd_byte hb p
    rw [wrap_id (n := rd b p) (by omega) (by omega)]
    have := tmod_range (rd b p) n hr.1 (by omega)
    exact ⟨rfl, this.1, fun _ => this.2, fun h => absurd h h1⟩
  · have hm := tmod_range p b.length hp hlp
    have hq : wrap64 ((wrap64 (p * 7)) + 3) = p * 7 + 3 := by
      rw [wrap_id (n := p * 7) (by omega) (by omega), wrap_id (by omega) (by omega)]
    have hm2 := tmod_range (p * 7 + 3) b.length (by omega) hlp
    have ht := tdiv_range p b.length hp hlp
    rw [hq]
    refine Ok.neg hlt (Ok.neg hl (Ok.pos hm.1 (Ok.pos hm.2 (Ok.pos hm2.1 (Ok.pos hm2.2 (Ok.neg (by omega) (Ok.ret ?_)))))))
    rw [mix_range _ _ p _ (rd_byte hb _) (rd_byte hb _) ⟨hp, hp'⟩ ⟨ht.1, by omega⟩]
    have a1 := rd_byte hb (Int.tmod p b.length)
    have a2 := rd_byte hb (Int.tmod (p * 7 + 3) b.length)
    generalize rd b (Int.tmod p b.length) = r1 at *
    generalize rd b (Int.tmod (p * 7 + 3) b.length) = r2 at *
    generalize Int.tdiv p b.length = t at *
    have hx : 0 ≤ r1 * 131 + r2 * 1117 + p * 29 + t * 53 := by omega
    have hx' : r1 * 131 + r2 * 1117 + p * 29 + t * 53 < 4611686018427387904 := by omega
    generalize r1 * 131 + r2 * 1117 + p * 29 + t * 53 = x at *
    have h64 := tdiv_range x 64 hx (by omega)
    rw [wrap_id (n := Int.tdiv x 64) (by omega) (by omega)]
    have := tmod_range (Go.bits .xor .i64 x (Int.tdiv x 64)) n (xor_nonneg _ _ hx hx' h64.1 (by omega)) (by omega)
    exact ⟨rfl, this.1, fun _ => this.2, fun h => absurd h h1⟩
/-- The same, the number of answers at least one. -/
def Pk (p n : Int) (r : Int × Int) : Prop := r.2 = p + 1 ∧ 0 ≤ r.1 ∧ r.1 < n
theorem pick_in (b : List Int) (p n : Int) (hb : Bytes b) (hp : 0 ≤ p) (hp' : p ≤ 1099511627776) (hn : 1 ≤ n) (hn' : n ≤ 1000000000) : Ok (fun k => spec_l6Rd_pick.f k b p n) (Pk p n) :=
  (pick_ok b p n hb hp hp' hn').mono fun _ h => ⟨h.1, h.2.1, h.2.2.1 hn⟩
/-- a place that went on by some, not far -/
def On (p : Int) (m : Int) (q : Int) : Prop := p ≤ q ∧ q ≤ p + m
theorem open_ok (l : List Int) (hl : ∀ x ∈ l, (Lit.int .u8 x).wf = true) : ∃ b, spec_l6Open.f l = some (b, 0) ∧ Bytes b := by
  have hb : Bytes l := fun x hx => wfu8 (hl x hx)
  unfold spec_l6Open.f
  by_cases h : (l.length : Int) > 2000
  · rw [if_pos h, if_pos (by omega)]
    exact ⟨_, rfl, fun x hx => hb x (List.mem_of_mem_take hx)⟩
  · rw [if_neg h]
    exact ⟨_, rfl, hb⟩
end Go.Proofs.Ytclldijjbmnkeaa.Pure
/- The weight of an allergen: two to the power of its number, up to 8. -/
namespace Go.Proofs.Ytclldijjbmnkeaa.Pure
open Go.RowKit Go.Proofs.YtclldijjbmnkeaaW.PrintWords Go.Proofs.YtclldijjbmnkeaaW.PrintLast Go.Proofs.Ytclldijjbmnkeaa.Q
set_option linter.unusedVariables false
set_option linter.unusedSimpArgs false

theorem pow_le (i : Nat) (h : i ≤ 8) : (1 : Int) ≤ 2 ^ i ∧ (2 : Int) ^ i ≤ 256 := by
  have h1 : 2 ^ i ≤ 2 ^ 8 := Nat.pow_le_pow_right (by decide) h
  have h2 : 0 < 2 ^ i := Nat.two_pow_pos i
  constructor
  · have : ((2 ^ i : Nat) : Int) = (2 : Int) ^ i := by simp
    omega
  · have : ((2 ^ i : Nat) : Int) = (2 : Int) ^ i := by simp
    omega
theorem weight_ok (n : Nat) (h : n ≤ 8) : Ok (fun k => spec_l3Weight.f k (n : Int)) (· = (2 : Int) ^ n) := by
  unfold spec_l3Weight.f
  refine Ok.range (fun (s : Int) i k => spec_l3Weight.l0 k (n : Int) s i) n (fun i s => s = 2 ^ i) _ ?_ ?_ 1 rfl
  · rintro i _ hi rfl ih
    have hp := pow_le i (by omega)
    refine Ok.step (fun k => by simp only [spec_l3Weight.l0]; rfl) (Ok.pos (by omega) ?_)
    rw [wrap_id (n := (i : Int) + 1) (by omega) (by omega), wrap_id (n := 2 * 2 ^ i) (by omega) (by omega)]
    exact ih _ (by rw [Int.pow_succ, Int.mul_comm])
  · rintro _ rfl
    exact Ok.step (fun k => by simp only [spec_l3Weight.l0]; rfl) (Ok.neg (by omega) (Ok.ret rfl))
end Go.Proofs.Ytclldijjbmnkeaa.Pure
/- Drawn foods: at most 7. Condition: the bytes are bytes. -/
namespace Go.Proofs.Ytclldijjbmnkeaa.Pure
open Go.RowKit Go.Proofs.YtclldijjbmnkeaaW.PrintWords Go.Proofs.YtclldijjbmnkeaaW.PrintLast Go.Proofs.Ytclldijjbmnkeaa.Q
set_option linter.unusedVariables false
set_option linter.unusedSimpArgs false
theorem l91Food_ok (b : List Int) (p a : Int) (hB : Bytes b) (hp : 0 ≤ p) (hp' : p ≤ 1000000) : Ok (fun k => spec_l91Food.f k b p a) (fun r => On p 16 r.2.2.2.2.2.2) := by
  unfold spec_l91Food.f
  refine Ok.bind (pick_in b p 3 hB (by omega) (by omega) (by omega) (by omega)) ?_
  rintro ⟨v, q⟩ ⟨rfl, h0, h1⟩
  simp only at h0 h1 ⊢
  refine Ok.bind (pick_in b _ 5 hB (by omega) (by omega) (by omega) (by omega)) ?_
  rintro ⟨v2, q⟩ ⟨rfl, h2, h3⟩
  simp only at h2 h3 ⊢
  refine Ok.bind (pick_in b _ 200 hB (by omega) (by omega) (by omega) (by omega)) ?_
  rintro ⟨v3, q⟩ ⟨rfl, h4, h5⟩
  simp only at h4 h5 ⊢
  refine Ok.bind (pick_in b _ 250 hB (by omega) (by omega) (by omega) (by omega)) ?_
  rintro ⟨v4, q⟩ ⟨rfl, h6, h7⟩
  simp only at h6 h7 ⊢
  have key := Ok.range (fun (s : Int × Int × Int × Int × Int × Int × Int) i k => spec_l91Food.l0 k i b s.1 s.2.1 s.2.2.1 s.2.2.2.1 s.2.2.2.2.1 s.2.2.2.2.2.1 s.2.2.2.2.2.2) 8 (fun i s => p + 4 ≤ s.1 ∧ s.1 ≤ p + 4 + i) (fun r => On p 16 r.2.2.2.2.2.2) ?_ ?_ (p + 1 + 1 + 1 + 1, a, wrap64 (1 + v), 0, wrap64 (1 + v2), wrap64 (v3 * 4), v4) ⟨by simp only; omega, by simp only; omega⟩
  · exact key
  · rintro i ⟨q, x0, x1, x2, x3, x4, x5⟩ hi hs ih
    simp only at hs ih ⊢
    refine Ok.step (fun k => by simp only [spec_l91Food.l0]; rfl) (Ok.pos (by omega) (Ok.bind (pick_in b q 6 hB (by omega) (by omega) (by omega) (by omega)) ?_))
    rintro ⟨w, q2⟩ ⟨rfl, h8, h9⟩
    simp only at h8 h9 ⊢
    rw [wrap_id (n := (i : Int) + 1) (by omega) (by omega)]
    exact Ok.ite (fun _ => Ok.bind (weight_ok i (by omega)) fun w _ => ih (q + 1, _, _, _, _, _, _) (by simp only; omega)) (fun _ => ih (q + 1, _, _, _, _, _, _) (by simp only; omega))
  · rintro ⟨q, x0, x1, x2, x3, x4, x5⟩ hs
    simp only at hs ⊢
    refine Ok.step (fun k => by simp only [spec_l91Food.l0]; rfl) (Ok.neg (by omega) (Ok.bind (pick_in b q 60 hB (by omega) (by omega) (by omega) (by omega)) ?_))
    rintro ⟨w, q2⟩ ⟨rfl, h8, h9⟩
    simp only [Option.bind_some] at h8 h9 ⊢
    refine Ok.ite (fun _ => Ok.bind (pick_in b _ 2 hB (by omega) (by omega) (by omega) (by omega)) ?_) (fun _ => Ok.ite (fun _ => Ok.bind (pick_in b _ 2 hB (by omega) (by omega) (by omega) (by omega)) ?_) (fun _ => Ok.ite (fun _ => Ok.bind (pick_in b _ 3 hB (by omega) (by omega) (by omega) (by omega)) ?_) (fun _ => Ok.ret ⟨by simp only; omega, by simp only; omega⟩)))
    · rintro ⟨w2, q3⟩ ⟨rfl, h10, h11⟩
      exact Ok.ret ⟨by simp only; omega, by simp only; omega⟩
    · rintro ⟨w2, q3⟩ ⟨rfl, h10, h11⟩
      exact Ok.ret ⟨by simp only; omega, by simp only; omega⟩
    · rintro ⟨w2, q3⟩ ⟨rfl, h10, h11⟩
      simp only at h10 h11 ⊢
      exact Ok.pos h10 (Ok.pos (by simpa using h11) (Ok.ret ⟨by simp only; omega, by simp only; omega⟩))
theorem l91Foods_ok (b : List Int) (p : Int) (hB : Bytes b) (hp : 0 ≤ p) (hp' : p ≤ 100000) : Ok (fun k => spec_l91Foods.f k b p) (fun r => r.1.length ≤ 7 ∧ On p 200 r.2) := by
  unfold spec_l91Foods.f
  have key : ∀ d i : Nat, i + d = 8 → ∀ (xs : List S63) (q : Int), xs.length ≤ 6 → p ≤ q → q ≤ p + 18 * i → Ok (fun k => spec_l91Foods.l0 k xs ((i : Int) + 1) b q) (fun r => r.1.length ≤ 7 ∧ On p 200 r.2) := by
    intro d
    induction d with
    | zero =>
      intro i hi xs q hx h0 h1
      refine Ok.step (fun k => by simp only [spec_l91Foods.l0]; rfl) (Ok.neg (by omega) (Ok.ite (fun hpos => Ok.bind (pick_in b q 30 hB (by omega) (by omega) (by omega) (by omega)) ?_) (fun _ => Ok.ret ⟨by simp only; omega, by constructor <;> simp only <;> omega⟩)))
      rintro ⟨v, q2⟩ ⟨rfl, h2, h3⟩
      simp only at h2 h3 ⊢
      exact Ok.ite (fun _ => Ok.pos (by omega) (Ok.pos (by omega) (Ok.ret ⟨by simp; omega, by constructor <;> simp only <;> omega⟩))) (fun _ => Ok.ret ⟨by simp only; omega, by constructor <;> simp only <;> omega⟩)
    | succ d ih =>
      intro i hi xs q hx h0 h1
      refine Ok.step (fun k => by simp only [spec_l91Foods.l0]; rfl) (Ok.pos (by omega) (Ok.bind (pick_in b q 3 hB (by omega) (by omega) (by omega) (by omega)) ?_))
      rintro ⟨v, q2⟩ ⟨rfl, h2, h3⟩
      simp only at h2 h3 ⊢
      rw [wrap_id (n := (i : Int) + 1 + 1) (by omega) (by omega)]
      have e : ((i : Int) + 1 + 1) = (((i + 1 : Nat) : Int) + 1) := by omega
      rw [e]
      refine Ok.ite (fun _ => Ok.ite (fun h6 => Ok.bind (l91Food_ok b _ _ hB (by omega) (by omega)) ?_) (fun _ => ih (i + 1) (by omega) _ _ hx (by omega) (by omega))) (fun _ => ih (i + 1) (by omega) _ _ hx (by omega) (by omega))
      rintro ⟨x0, x1, x2, x3, x4, x5, q3⟩ ⟨h4, h5⟩
      simp only at h4 h5 ⊢
      exact Ok.pos (by omega) (ih (i + 1) (by omega) _ _ (by simp; omega) (by omega) (by omega))
  exact key 8 0 rfl [] p (by simp) (by omega) (by omega)
end Go.Proofs.Ytclldijjbmnkeaa.Pure
/- Drawn dishes: at most 5 of at most 5 parts. Condition: the bytes are bytes. -/
namespace Go.Proofs.Ytclldijjbmnkeaa.Pure
open Go.RowKit Go.Proofs.YtclldijjbmnkeaaW.PrintWords Go.Proofs.YtclldijjbmnkeaaW.PrintLast Go.Proofs.Ytclldijjbmnkeaa.Q
set_option linter.unusedVariables false
set_option linter.unusedSimpArgs false
/-- few dishes of few parts -/
def Few (n m : Nat) (l : List S29) : Prop := l.length ≤ n ∧ ∀ x ∈ l, x.f2.length ≤ m
theorem Few.snoc {n m : Nat} {l : List S29} (h : Few n m l) (x : S29) (hx : x.f2.length ≤ m) : Few (n + 1) m (l ++ [x]) := by
  refine ⟨by simp only [List.length_append, List.length_singleton]; exact Nat.succ_le_succ h.1, fun y hy => ?_⟩
  rcases List.mem_append.1 hy with hy | hy
  · exact h.2 y hy
  · rw [List.mem_singleton.1 hy]; exact hx
theorem Few.put {n m : Nat} {l : List S29} (h : Few n m l) (i : Nat) (x : S29) (hx : x.f2.length ≤ m) : Few n m (l.set i x) := by
  refine ⟨by simpa using h.1, fun y hy => ?_⟩
  rcases List.mem_or_eq_of_mem_set hy with hy | rfl
  · exact h.2 y hy
  · exact hx
theorem Few.more {n m n' m' : Nat} {l : List S29} (h : Few n m l) (hn : n ≤ n') (hm : m ≤ m') : Few n' m' l := ⟨Nat.le_trans h.1 hn, fun x hx => Nat.le_trans (h.2 x hx) hm⟩
theorem Few.at_ {n m : Nat} {l : List S29} (h : Few n m l) {i : Int} (h0 : 0 ≤ i) (h1 : i < l.length) : (rd_T29 l i).f2.length ≤ m := by
  refine h.2 _ ?_
  unfold rd_T29
  rw [List.getD_eq_getElem?_getD, List.getElem?_eq_getElem (by omega)]
  exact List.getElem_mem _
theorem l91Dish_ok (b : List Int) (p a : Int) (d : List S29) (l : List S63) (hB : Bytes b) (hp : 0 ≤ p) (hp' : p ≤ 100000) (hd : d.length ≤ 1000) (hl : l.length ≤ 1000) : Ok (fun k => spec_l91Dish.f k b p a d l) (fun r => r.2.2.1.length ≤ 4 ∧ On p 20 r.2.2.2) := by
  unfold spec_l91Dish.f
  refine Ok.bind (pick_in b p 12 hB (by omega) (by omega) (by omega) (by omega)) ?_
  rintro ⟨v, q⟩ ⟨rfl, h0, h1⟩
  simp only at h0 h1 ⊢
  refine Ok.bind (pick_in b _ 4 hB (by omega) (by omega) (by omega) (by omega)) ?_
  rintro ⟨v2, q⟩ ⟨rfl, h2, h3⟩
  simp only at h2 h3 ⊢
  obtain ⟨n, rfl⟩ : ∃ n : Nat, v2 = n := ⟨v2.toNat, by omega⟩
  rw [wrap_id (n := 1 + (n : Int)) (by omega) (by omega), show (1 + (n : Int)) = ((n + 1 : Nat) : Int) by omega]
  have key := Ok.range (fun (s : Int × List S55) i k => spec_l91Dish.l0 k d l ((n + 1 : Nat) : Int) i b s.1 a (wrap64 (1 + v)) s.2) (n + 1) (fun i s => s.2.length ≤ i ∧ p + 2 ≤ s.1 ∧ s.1 ≤ p + 2 + 4 * i) (fun r => r.2.2.1.length ≤ 4 ∧ On p 20 r.2.2.2) ?_ ?_ (p + 1 + 1, []) ⟨by simp, by simp only; omega, by simp only; omega⟩
  · exact key
  · rintro i ⟨q, ps⟩ hi ⟨hs1, hs2, hs3⟩ ih
    simp only at hs1 hs2 hs3 ih ⊢
    have body : ∀ (c : Bool) (q : Int), (c = true → 0 < d.length) → p + 2 ≤ q → q ≤ p + 2 + 4 * i + 1 → Ok (fun k => spec_l91Dish.j1 k d l ((n + 1 : Nat) : Int) (i : Int) c b q a (wrap64 (1 + v)) ps) (fun r => r.2.2.1.length ≤ 4 ∧ On p 20 r.2.2.2) := by
      intro c q hc hq1 hq2
      refine Ok.step (fun k => by simp only [spec_l91Dish.j1]; rfl) ?_
      rw [wrap_id (n := (i : Int) + 1) (by omega) (by omega)]
      refine Ok.ite (fun h => ?_) (fun _ => Ok.ite (fun h => ?_) (fun _ => ih (q, ps) ⟨by simp only; omega, by simp only; omega, by simp only; omega⟩))
      · have := hc h
        refine Ok.bind (pick_in b q _ hB (by omega) (by omega) (by omega) (by omega)) ?_
        rintro ⟨w, q2⟩ ⟨rfl, h4, h5⟩
        simp only at h4 h5 ⊢
        refine Ok.pos h4 (Ok.pos h5 (Ok.bind (pick_in b _ 9 hB (by omega) (by omega) (by omega) (by omega)) ?_))
        rintro ⟨w2, q3⟩ ⟨rfl, h6, h7⟩
        simp only at h6 h7 ⊢
        exact Ok.pos (by omega) (ih (q + 1 + 1, _) ⟨by simp only [List.length_append, List.length_singleton]; omega, by simp only; omega, by simp only; omega⟩)
      · refine Ok.bind (pick_in b q _ hB (by omega) (by omega) (by omega) (by omega)) ?_
        rintro ⟨w, q2⟩ ⟨rfl, h4, h5⟩
        simp only at h4 h5 ⊢
        refine Ok.pos h4 (Ok.pos h5 (Ok.bind (pick_in b _ 200 hB (by omega) (by omega) (by omega) (by omega)) ?_))
        rintro ⟨w2, q3⟩ ⟨rfl, h6, h7⟩
        simp only at h6 h7 ⊢
        exact Ok.pos (by omega) (ih (q + 1 + 1, _) ⟨by simp only [List.length_append, List.length_singleton]; omega, by simp only; omega, by simp only; omega⟩)
    refine Ok.step (fun k => by simp only [spec_l91Dish.l0]; rfl) (Ok.pos (by omega) (Ok.ite (fun h => Ok.bind (pick_in b q 3 hB (by omega) (by omega) (by omega) (by omega)) ?_) (fun _ => body false q (fun h => by cases h) (by omega) (by omega))))
    rintro ⟨w, q2⟩ ⟨rfl, h4, h5⟩
    simp only at h4 h5 ⊢
    exact body _ _ (fun _ => by omega) (by omega) (by omega)
  · rintro ⟨q, ps⟩ ⟨hs1, hs2, hs3⟩
    simp only at hs1 hs2 hs3 ⊢
    exact Ok.step (fun k => by simp only [spec_l91Dish.l0]; rfl) (Ok.neg (by omega) (Ok.ret ⟨by simp only; omega, by simp only; omega, by simp only; omega⟩))
theorem l91Dishes_ok (b : List Int) (p : Int) (l : List S63) (hB : Bytes b) (hp : 0 ≤ p) (hp' : p ≤ 10000) (hl : l.length ≤ 1000) : Ok (fun k => spec_l91Dishes.f k b p l) (fun r => Few 5 5 r.1 ∧ On p 200 r.2) := by
  unfold spec_l91Dishes.f
  refine Ok.bind (pick_in b p 4 hB (by omega) (by omega) (by omega) (by omega)) ?_
  rintro ⟨v, q⟩ ⟨rfl, h0, h1⟩
  simp only at h0 h1 ⊢
  obtain ⟨n, rfl⟩ : ∃ n : Nat, v = n := ⟨v.toNat, by omega⟩
  rw [wrap_id (n := 1 + (n : Int)) (by omega) (by omega), show (1 + (n : Int)) = ((n + 1 : Nat) : Int) by omega]
  have key := Ok.range (fun (s : Int × List S29) i k => spec_l91Dishes.l0 k l s.2 ((n + 1 : Nat) : Int) i b s.1) (n + 1) (fun i s => Few i 4 s.2 ∧ s.2.length = i ∧ p + 1 ≤ s.1 ∧ s.1 ≤ p + 1 + 20 * i) (fun r => Few 5 5 r.1 ∧ On p 200 r.2) ?_ ?_ (p + 1, []) ⟨⟨by simp, by simp⟩, by simp, by simp only; omega, by simp only; omega⟩
  · exact key
  · rintro i ⟨q, ds⟩ hi ⟨hs1, hs0, hs2, hs3⟩ ih
    simp only at hs1 hs0 hs2 hs3 ih ⊢
    refine Ok.step (fun k => by simp only [spec_l91Dishes.l0]; rfl) (Ok.pos (by omega) (Ok.bind (l91Dish_ok b q _ ds l hB (by omega) (by omega) (by omega) hl) ?_))
    rintro ⟨x0, x1, x2, q2⟩ ⟨h4, h5, h6⟩
    simp only at h4 h5 h6 ⊢
    rw [wrap_id (n := (i : Int) + 1) (by omega) (by omega)]
    exact Ok.pos (by omega) (ih (q2, _) ⟨hs1.snoc _ h4, by simp only [List.length_append, List.length_singleton]; omega, by simp only; omega, by simp only; omega⟩)
  · rintro ⟨q, ds⟩ ⟨hs1, hs0, hs2, hs3⟩
    simp only at hs1 hs0 hs2 hs3 ⊢
    have f5 : Few 5 5 ds := hs1.more (by omega) (by omega)
    refine Ok.step (fun k => by simp only [spec_l91Dishes.l0]; rfl) (Ok.neg (by omega) (Ok.bind (pick_in b q 30 hB (by omega) (by omega) (by omega) (by omega)) ?_))
    rintro ⟨w, q2⟩ ⟨rfl, h4, h5⟩
    simp only at h4 h5 ⊢
    have on : ∀ q3 : Int, q ≤ q3 → q3 ≤ q + 5 → On p 200 q3 := fun q3 _ _ => ⟨by omega, by omega⟩
    have a0 : (rd_T29 ds 0).f2.length ≤ 4 := hs1.at_ (by omega) (by omega)
    refine Ok.ite (fun _ => Ok.bind (pick_in b _ _ hB (by omega) (by omega) (by omega) (by omega)) ?_) (fun _ => Ok.ite (fun _ => Ok.pos (by omega) (Ok.pos (by omega) (Ok.ret ⟨f5.put _ _ ?_, on _ (by simp only; omega) (by simp only; omega)⟩))) (fun _ => Ok.ite (fun _ => Ok.pos (by omega) (Ok.pos (by omega) (Ok.ret ⟨f5.put _ _ ?_, on _ (by simp only; omega) (by simp only; omega)⟩))) (fun _ => Ok.ite (fun _ => Ok.pos (by omega) (Ok.pos (by omega) (Ok.ret ⟨((hs1.more (n' := 4) (m' := 5) (by omega) (by omega)).snoc _ ?_), on _ (by simp only; omega) (by simp only; omega)⟩))) (fun _ => Ok.ret ⟨f5, on _ (by simp only; omega) (by simp only; omega)⟩))))
    · rintro ⟨w2, q3⟩ ⟨rfl, h6, h7⟩
      simp only at h6 h7 ⊢
      refine Ok.bind (pick_in b _ 2 hB (by omega) (by omega) (by omega) (by omega)) ?_
      rintro ⟨w3, q4⟩ ⟨rfl, h8, h9⟩
      simp only at h8 h9 ⊢
      exact Ok.pos h6 (Ok.pos (by omega) (Ok.ret ⟨f5.put _ _ (f5.at_ h6 (by omega)), on _ (by simp only; omega) (by simp only; omega)⟩))
    · simp only [List.length_append, List.length_singleton]; omega
    · simp only [List.length_append, List.length_singleton]; omega
    · simp only; omega
theorem l91Menu_ok (b : List Int) (p : Int) (hB : Bytes b) (hp : 0 ≤ p) (hp' : p ≤ 1000) : Ok (fun k => spec_l91Menu.f k b p) (fun r => Few 5 5 r.1 ∧ r.2.1.length ≤ 7 ∧ On p 500 r.2.2) := by
  unfold spec_l91Menu.f
  refine Ok.bind (l91Foods_ok b p hB hp (by omega)) ?_
  rintro ⟨l, q⟩ ⟨h0, h1, h2⟩
  simp only at h0 h1 h2 ⊢
  refine Ok.bind (l91Dishes_ok b q l hB (by omega) (by omega) (by omega)) ?_
  rintro ⟨d, q2⟩ ⟨h3, h4, h5⟩
  simp only at h3 h4 h5 ⊢
  exact Ok.ret ⟨h3, h0, by simp only; omega, by simp only; omega⟩
end Go.Proofs.Ytclldijjbmnkeaa.Pure
/- Few dishes of few parts, as lists. No conditions. -/
namespace Go.Proofs.Ytclldijjbmnkeaa.Pure
open Go.RowKit Go.Proofs.YtclldijjbmnkeaaW.PrintWords Go.Proofs.YtclldijjbmnkeaaW.PrintLast Go.Proofs.Ytclldijjbmnkeaa.Q
set_option linter.unusedVariables false
set_option linter.unusedSimpArgs false
theorem few_at {n m : Nat} {l : List Ds} (h : Few n m l) {i : Nat} (hi : i < l.length) : (dAt l i).f2.length ≤ m := by
  have := h.at_ (i := (i : Int)) (by omega) (by omega)
  rwa [dAt_rd] at this
theorem few_big {n m : Nat} {l : List Ds} (h : Few n m l) (hm : m ≤ 2000000) : ∀ i, i < l.length → (dAt l i).f2.length ≤ 2000000 := fun i hi => Nat.le_trans (few_at h hi) hm
end Go.Proofs.Ytclldijjbmnkeaa.Pure
/- Drawn dishes, foods and a dish's number. Condition: the bytes are bytes. -/
namespace Go.Proofs.Ytclldijjbmnkeaa.Pure
open Go.RowKit Go.Proofs.YtclldijjbmnkeaaW.PrintWords Go.Proofs.YtclldijjbmnkeaaW.PrintLast Go.Proofs.Ytclldijjbmnkeaa.Q
set_option linter.unusedVariables false
set_option linter.unusedSimpArgs false
theorem l91Id_ok (b : List Int) (p : Int) (d : List Ds) (hB : Bytes b) (hp : 0 ≤ p) (hp' : p ≤ 100000) (hd : d.length ≤ 1000) : Ok (fun k => spec_l91Id.f k b p d) (fun r => On p 2 r.2) := by
  unfold spec_l91Id.f
  have main : ∀ (c : Bool) (q : Int), (c = false → 0 < d.length) → p ≤ q → q ≤ p + 1 → Ok (fun k => spec_l91Id.j0 k d c b q) (fun r => On p 2 r.2) := by
    intro c q hc h0 h1
    refine Ok.step (fun k => by simp only [spec_l91Id.j0]; rfl) (Ok.ite (fun _ => Ok.bind (pick_in b q 9 hB (by omega) (by omega) (by omega) (by omega)) ?_) (fun h => ?_))
    · rintro ⟨w, q2⟩ ⟨rfl, h4, h5⟩
      exact Ok.ret ⟨by simp only; omega, by simp only; omega⟩
    · have := hc (by simpa using h)
      refine Ok.bind (pick_in b q _ hB (by omega) (by omega) (by omega) (by omega)) ?_
      rintro ⟨w, q2⟩ ⟨rfl, h4, h5⟩
      simp only at h4 h5 ⊢
      exact Ok.pos h4 (Ok.pos h5 (Ok.ret ⟨by simp only; omega, by simp only; omega⟩))
  refine Ok.ite (fun _ => main true p (fun h => by cases h) (by omega) (by omega)) (fun h => Ok.bind (pick_in b p 16 hB (by omega) (by omega) (by omega) (by omega)) ?_)
  rintro ⟨w, q2⟩ ⟨rfl, h4, h5⟩
  exact main _ _ (fun _ => by omega) (by omega) (by omega)
theorem drawDishAllergens_ok (l : List Int) (hl : ∀ x ∈ l, (Lit.int .u8 x).wf = true) : Ok (fun k => spec_DrawDishAllergens.f k l) (fun r => Few 5 5 r.1 ∧ r.2.1.length ≤ 7) := by
  unfold spec_DrawDishAllergens.f
  obtain ⟨b, hb, hB⟩ := open_ok l hl
  simp only [hb, Option.bind_some]
  refine Ok.bind (l91Menu_ok b 0 hB (by omega) (by omega)) ?_
  rintro ⟨d, f, q⟩ ⟨h0, h1, h2, h3⟩
  simp only at h0 h1 h2 h3 ⊢
  have h5 := h0.1
  refine Ok.bind (l91Id_ok b q d hB (by omega) (by omega) (by omega)) ?_
  rintro ⟨w, q2⟩ _
  exact Ok.ret ⟨h0, h1⟩
end Go.Proofs.Ytclldijjbmnkeaa.Pure
/- Lists of whole numbers. Condition: at most 2,000,000 elements. -/
namespace Go.Proofs.Ytclldijjbmnkeaa.Pure
open Go.RowKit Go.Proofs.YtclldijjbmnkeaaW.PrintWords Go.Proofs.YtclldijjbmnkeaaW.PrintLast Go.Proofs.Ytclldijjbmnkeaa.Q
set_option linter.unusedVariables false
set_option linter.unusedSimpArgs false

theorem sameInts_ok (a b : List Int) (hl : a.length ≤ 2000000) : Ok (fun k => laws_sameInts.f k a b) (fun r => r = true ↔ a = b) := by
  unfold laws_sameInts.f
  by_cases h : a.length = b.length
  · refine Ok.pos (by omega) ?_
    refine Ok.range (fun (_ : Unit) i k => laws_sameInts.l0 k a b i) a.length (fun i _ => ∀ j, j < i → a.getD j 0 = b.getD j 0) _ ?_ ?_ () (fun j hj => absurd hj (by omega))
    · intro i _ hi hinv ih
      have ew : wrap64 ((i : Int) + 1) = (i : Int) + 1 := wrap_id (by omega) (by omega)
      refine Ok.step (fun k => by simp only [laws_sameInts.l0]; rfl) (Ok.pos (by omega) (Ok.pos (by omega) (Ok.pos (by omega) ?_)))
      rw [ew, rd_nat, rd_nat]
      refine Ok.ite (fun h1 => ih () fun j hj => ?_) (fun h1 => Ok.ret ⟨fun h' => (by cases h'), fun h' => absurd (by rw [h']) h1⟩)
      rcases Nat.lt_succ_iff_lt_or_eq.1 hj with h2 | rfl
      · exact hinv j h2
      · exact h1
    · intro _ hinv
      exact Ok.step (fun k => by simp only [laws_sameInts.l0]; rfl) (Ok.neg (by omega) (Ok.ret ⟨fun _ => eq_of_getD 0 h hinv, fun _ => rfl⟩))
  · exact Ok.neg (by omega) (Ok.ret ⟨fun h' => (by cases h'), fun h' => absurd (by rw [h']) h⟩)
end Go.Proofs.Ytclldijjbmnkeaa.Pure
/- What the numbers of the marked dishes are. Condition: valid dishes. -/
namespace Go.Proofs.Ytclldijjbmnkeaa.Pure
open Go.RowKit Go.Proofs.YtclldijjbmnkeaaW.PrintWords Go.Proofs.YtclldijjbmnkeaaW.PrintLast Go.Proofs.Ytclldijjbmnkeaa.Q
set_option linter.unusedVariables false
set_option linter.unusedSimpArgs false
theorem drawDishUses_ok (l : List Int) (hl : ∀ x ∈ l, (Lit.int .u8 x).wf = true) : Ok (fun k => spec_DrawDishUses.f k l) (fun r => Few 5 5 r.1 ∧ r.2.1.length ≤ 7) := by
  unfold spec_DrawDishUses.f
  exact Ok.bind (drawDishAllergens_ok l hl) fun r hr => Ok.ret hr
theorem uIds_mem (d : List Ds) (M : List Bool) (x : Int) : ∀ n, x ∈ uIds d M n ↔ ∃ j, j < n ∧ M.getD j false = true ∧ (dAt d j).f0 = x
  | 0 => ⟨fun h => by simp [uIds] at h, fun ⟨j, hj, _⟩ => absurd hj (by omega)⟩
  | n + 1 => by
    unfold uIds
    rw [List.mem_append, uIds_mem d M x n]
    constructor
    · rintro (⟨j, hj, h⟩ | h)
      · exact ⟨j, by omega, h⟩
      · split at h
        · rename_i hm
          exact ⟨n, by omega, hm, (List.mem_singleton.1 h).symm⟩
        · simp at h
    · rintro ⟨j, hj, hm, he⟩
      rcases Nat.lt_succ_iff_lt_or_eq.1 hj with h | rfl
      · exact .inl ⟨j, h, hm, he⟩
      · rw [if_pos hm, he]; exact .inr (List.mem_singleton.2 rfl)
theorem dAt_lt {d : List Ds} {l : List Fd} (v : DV d l) {i : Nat} : ∀ {j : Nat}, i < j → j < d.length → (dAt d i).f0 < (dAt d j).f0
  | 0, h, _ => absurd h (by omega)
  | j + 1, h, hj => by
    have h1 := (v.2.2 (j + 1) hj).1.2.2.2 (by omega)
    rw [Nat.add_sub_cancel] at h1
    rcases Nat.lt_succ_iff_lt_or_eq.1 h with h2 | rfl
    · have := dAt_lt v h2 (by omega : j < d.length); omega
    · exact h1
theorem dPl_self {d : List Ds} {l : List Fd} (v : DV d l) {i : Nat} (hi : i < d.length) : dPl d (dAt d i).f0 = i :=
  dPl_hit hi rfl fun j hj => by have := dAt_lt v hj hi; omega
theorem dPl_at {d : List Ds} {id : Int} {i : Nat} (h : dPl d id = i) : (dAt d i).f0 = id := by
  rcases dPl_is d id with ⟨e, _⟩ | ⟨k, e, hk, hi, _⟩
  · omega
  · obtain rfl : i = k := by omega
    exact hi
/-- the answer's element t: a dish in the dish -/
theorem used_at {d : List Ds} {l : List Fd} (v : DV d l) {i : Nat} {M : List Bool} (hi : i < d.length) (hM : Mk d i M) {t : Nat} (ht : t < (usF d i M).length) : ∃ j, j < d.length ∧ Rch d i j ∧ (dAt d j).f0 = (usF d i M).getD t 0 ∧ dPl d ((usF d i M).getD t 0) = j := by
  have hm : (usF d i M).getD t 0 ∈ uIds d M d.length := by rw [getD_at _ _ _ ht]; exact List.getElem_mem ht
  obtain ⟨j, hj, hMj, e⟩ := (uIds_mem d M _ _).1 hm
  exact ⟨j, hj, (hM.2 j).1 hMj, e, by rw [← e]; exact dPl_self v hj⟩
theorem used_mem {d : List Ds} {l : List Fd} (v : DV d l) {i j : Nat} {M : List Bool} (hi : i < d.length) (hM : Mk d i M) (h : Rch d i j) : (dAt d j).f0 ∈ usF d i M :=
  (uIds_mem d M _ _).2 ⟨j, by have := rch_le v h hi; omega, (hM.2 j).2 h, rfl⟩
end Go.Proofs.Ytclldijjbmnkeaa.Pure
/- A dish has no others: the law comes to true for every input. No conditions. -/
namespace Go.Proofs.Ytclldijjbmnkeaa.Pure
open Go.RowKit Go.Proofs.YtclldijjbmnkeaaW.PrintWords Go.Proofs.YtclldijjbmnkeaaW.PrintLast Go.Proofs.Ytclldijjbmnkeaa.Q
set_option linter.unusedVariables false
set_option linter.unusedSimpArgs false
/-- x is the number of a part of the dish whose number stands at place j -/
def PtOf (d : List Ds) (X : List Int) (x : Int) (j : Nat) : Prop := ∃ c : Nat, dPl d (X.getD j 0) = c ∧ ∃ q, q < (dAt d c).f2.length ∧ (pt d c q).f1 = x
theorem FnDishUsesPart : laws_FnDishUsesPart.Pure := by
  intro l _ _ hl
  apply Ok.rounds
  unfold laws_FnDishUsesPart.f
  refine Ok.ite (fun _ => Ok.ret rfl) fun _ => Ok.bind (drawDishUses_ok l hl) ?_
  rintro ⟨d, fs, id⟩ ⟨hd, hf⟩
  simp only at hd hf ⊢
  have hd5 := hd.1
  refine Ok.bind (iUses_ok d fs id (by omega) (few_big hd (by omega)) (by omega)) fun r1 h1 => Ok.bind (sUses_ok d fs id (by omega) (few_big hd (by omega)) (by omega)) fun r2 h2 => ?_
  obtain rfl := res_eq h1 h2
  clear h2
  have hlen : r1.length ≤ 2000000 := by
    rcases h1 with ⟨v, i, M, hi, e, hM, rfl⟩ | ⟨_, rfl⟩
    · have := uIds_len d M d.length
      show (uIds d M d.length).length ≤ _
      omega
    · simp
  refine Ok.bind (sameInts_ok r1 r1 hlen) fun s hs => Ok.pos (hs.2 rfl) (Ok.step (fun k => by simp only [laws_FnDishUsesPart.j0]; rfl) (Ok.ite (fun _ => Ok.bind (sameInts_ok r1 r1 hlen) fun s2 hs2 => Ok.ret (hs2.2 rfl)) fun hne => ?_))
  rcases h1 with ⟨v, i, M, hi, e, hM, rfl⟩ | ⟨_, rfl⟩
  rotate_left
  · exact absurd rfl hne
  have eid := dPl_at e
  generalize hX : usF d i M = X at hlen
  refine Ok.range (fun (_ : Unit) t k => laws_FnDishUsesPart.l0 k d id X t) X.length (fun _ _ => True) _ ?_ ?_ () trivial
  · intro t _ ht _ ih
    refine Ok.step (fun k => by simp only [laws_FnDishUsesPart.l0]; rfl) (Ok.pos (by omega) (Ok.pos (by omega) ?_))
    rw [rd_nat]
    have fin : X.getD t 0 = id ∨ ∃ j, j < X.length ∧ PtOf d X (X.getD t 0) j := by
      obtain ⟨m, hm, hr, em, epl⟩ := used_at v hi hM (t := t) (by rw [hX]; exact ht)
      rw [hX] at em epl
      rcases rch_last hr with rfl | ⟨p, hp, q, hq, h0, hc⟩
      · exact .inl (by rw [← em, eid])
      · right
        have hmem := used_mem v hi hM hp
        rw [hX] at hmem
        obtain ⟨j, hj, ej⟩ := List.mem_iff_getElem.1 hmem
        have hpl : p < d.length := by have := rch_le v hp hi; omega
        refine ⟨j, hj, p, ?_, q, hq, ?_⟩
        · rw [getD_at _ _ _ hj, ej]; exact dPl_self v hpl
        · rw [← em, dPl_at hc]
    refine Ok.range (fun (s : Bool) j k => laws_FnDishUsesPart.l1 k d id X (t : Int) s j) X.length (fun j s => (X.getD t 0 = id ∨ ∃ j', j' < j ∧ PtOf d X (X.getD t 0) j') → s = true) _ ?_ ?_ _ (fun h => ?_)
    · intro j s hj hs ih2
      obtain ⟨m, hm, hr, em, epl⟩ := used_at v hi hM (t := j) (by rw [hX]; exact hj)
      rw [hX] at em epl
      have hm5 := few_at hd hm
      refine Ok.step (fun k => by simp only [laws_FnDishUsesPart.l1]; rfl) (Ok.pos (by omega) (Ok.pos (by omega) ?_))
      rw [iDFind_eq, rd_nat, epl]
      refine Ok.val (Ok.pos (by omega) (Ok.pos (by omega) ?_))
      rw [dAt_rd]
      refine Ok.range (fun (s : Bool) q k => laws_FnDishUsesPart.l2 k d id X (t : Int) s (j : Int) q (dAt d m).f0 (dAt d m).f1 (dAt d m).f2) (dAt d m).f2.length (fun q s => ((X.getD t 0 = id ∨ ∃ j', j' < j ∧ PtOf d X (X.getD t 0) j') ∨ ∃ q', q' < q ∧ (pt d m q').f1 = X.getD t 0) → s = true) _ ?_ ?_ _ (fun h => ?_)
      · intro q s hq hs ih3
        refine Ok.step (fun k => by simp only [laws_FnDishUsesPart.l2]; rfl) (Ok.pos (by omega) ?_)
        rw [wrap_id (n := (q : Int) + 1) (by omega) (by omega)]
        refine Ok.ite (fun h => ih3 _ fun _ => rfl) (fun h => Ok.pos (by omega) (Ok.pos (by omega) (Ok.pos (by omega) (ih3 _ ?_))))
        rw [pAt_rd, rd_nat]
        rintro (h2 | ⟨q', hq', e'⟩)
        · exact absurd (hs (.inl h2)) h
        · rcases Nat.lt_succ_iff_lt_or_eq.1 hq' with h2 | rfl
          · exact absurd (hs (.inr ⟨q', h2, e'⟩)) h
          · exact beq_iff_eq.2 e'
      · intro s hs
        refine Ok.step (fun k => by simp only [laws_FnDishUsesPart.l2]; rfl) (Ok.neg (by omega) ?_)
        rw [wrap_id (n := (j : Int) + 1) (by omega) (by omega)]
        refine ih2 _ ?_
        rintro (h2 | ⟨j', hj', c, ec, q, hq, eq⟩)
        · exact hs (.inl (.inl h2))
        · rcases Nat.lt_succ_iff_lt_or_eq.1 hj' with h2 | rfl
          · exact hs (.inl (.inr ⟨j', h2, c, ec, q, hq, eq⟩))
          · obtain rfl : c = m := by omega
            exact hs (.inr ⟨q, hq, eq⟩)
      · rcases h with h | ⟨q', hq', _⟩
        · exact hs h
        · exact absurd hq' (by omega)
    · intro s hs
      refine Ok.step (fun k => by simp only [laws_FnDishUsesPart.l1]; rfl) (Ok.neg (by omega) ?_)
      rw [wrap_id (n := (t : Int) + 1) (by omega) (by omega)]
      exact Ok.pos (hs fin) (ih () trivial)
    · rcases h with h | ⟨j', hj', _⟩
      · exact beq_iff_eq.2 h
      · exact absurd hj' (by omega)
  · intro _ _
    exact Ok.step (fun k => by simp only [laws_FnDishUsesPart.l0]; rfl) (Ok.neg (by omega) (Ok.ret rfl))
end Go.Proofs.Ytclldijjbmnkeaa.Pure
