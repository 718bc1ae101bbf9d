/- The program's DishesValid returns what the reference's returns, for all arguments. No conditions. -/
import Derived.Test.YtclldijjbmnkeaaWMore
import Derived.Test.YtclldijjbmnkeaaQx0
import Derived.Test.YtclldijjbmnkeaaQx10
import Derived.Test.YtclldijjbmnkeaaQx11
import Derived.Test.YtclldijjbmnkeaaQx12
import Derived.Test.YtclldijjbmnkeaaQx25
import Derived.Test.YtclldijjbmnkeaaQx5
import Derived.Test.YtclldijjbmnkeaaQx7
import Derived.Test.YtclldijjbmnkeaaQx9
/- Plain logic for printed functions: from some number of rounds on a function answers, and its answer fits. No conditions. -/
namespace Go.Proofs.Ytclldijjbmnkeaa.Pure
open Go.RowKit Go.Proofs.YtclldijjbmnkeaaW.PrintWords Go.Proofs.YtclldijjbmnkeaaW.PrintLast

/-- g answers from some number of rounds on, and the answer is as Q says. -/
def Ok {α : Type} (g : Nat → Option α) (Q : α → Prop) : Prop := ∃ r, Ev g r ∧ Q r
theorem Ok.ret {α : Type} {r : α} {Q : α → Prop} (h : Q r) : Ok (fun _ => some r) Q := ⟨r, Ev.now r, h⟩
theorem Ok.bind {α β : Type} {g : Nat → Option α} {f : Nat → α → Option β} {P : α → Prop} {Q : β → Prop} (h : Ok g P) (k : ∀ a, P a → Ok (fun n => f n a) Q) : Ok (fun n => (g n).bind (f n)) Q := by
  obtain ⟨a, ha, hp⟩ := h
  obtain ⟨r, hr, hq⟩ := k a hp
  exact ⟨r, Ev.bind ha hr, hq⟩
theorem Ok.val {α β : Type} {a : α} {f : Nat → α → Option β} {Q : β → Prop} (h : Ok (fun n => f n a) Q) : Ok (fun n => (some a).bind (f n)) Q := h
theorem Ok.pos {α : Type} {c : Prop} [Decidable c] {t e : Nat → Option α} {Q : α → Prop} (hc : c) (h : Ok t Q) : Ok (fun n => if c then t n else e n) Q := by simpa only [if_pos hc] using h
theorem Ok.neg {α : Type} {c : Prop} [Decidable c] {t e : Nat → Option α} {Q : α → Prop} (hc : ¬ c) (h : Ok e Q) : Ok (fun n => if c then t n else e n) Q := by simpa only [if_neg hc] using h
theorem Ok.ite {α : Type} {c : Prop} [Decidable c] {t e : Nat → Option α} {Q : α → Prop} (h : c → Ok t Q) (k : ¬ c → Ok e Q) : Ok (fun n => if c then t n else e n) Q := by
  by_cases hc : c
  · exact Ok.pos hc (h hc)
  · exact Ok.neg hc (k hc)
theorem Ok.step {α : Type} {g f : Nat → Option α} {Q : α → Prop} (h : ∀ k, g (k + 1) = f k) (k : Ok f Q) : Ok g Q := by
  obtain ⟨r, hr, hq⟩ := k
  exact ⟨r, Ev.step h hr, hq⟩
theorem Ok.and {α : Type} {g : Nat → Option α} {P Q : α → Prop} (h : Ok g P) (k : Ok g Q) : Ok g (fun a => P a ∧ Q a) := by
  obtain ⟨r, ⟨K, hr⟩, hp⟩ := h
  obtain ⟨r', ⟨K', hr'⟩, hq⟩ := k
  have h1 := hr (max K K') (by omega)
  have h2 := hr' (max K K') (by omega)
  obtain rfl : r = r' := by rw [h1] at h2; injection h2
  exact ⟨r, ⟨K, hr⟩, hp, hq⟩
theorem Ok.rounds {α : Type} {g : Nat → Option α} {r : α} (h : Ok g (· = r)) : ∃ k, g k = some r := by
  obtain ⟨_, hr, rfl⟩ := h
  exact hr.rounds
theorem wrap_id {n : Int} (h0 : -9223372036854775808 ≤ n) (h1 : n ≤ 9223372036854775807) : wrap64 n = n := by unfold wrap64; omega
/-- A loop that counts an index up to n, with what else it carries in s. -/
theorem Ok.range {σ ρ : Type} (L : σ → Int → Nat → Option ρ) (n : Nat) (Inv : Nat → σ → Prop) (Q : ρ → Prop)
    (step : ∀ (i : Nat) (s : σ), i < n → Inv i s → (∀ s', Inv (i + 1) s' → Ok (L s' ((i : Int) + 1)) Q) → Ok (L s (i : Int)) Q)
    (last : ∀ s, Inv n s → Ok (L s (n : Int)) Q) : ∀ s, Inv 0 s → Ok (L s 0) Q := by
  have key : ∀ d i, i + d = n → ∀ s, Inv i s → Ok (L s (i : Int)) Q := by
    intro d
    induction d with
    | zero => intro i hi s hs; obtain rfl : i = n := (by omega); exact last s hs
    | succ d ih =>
      intro i hi s hs
      refine step i s (by omega) hs fun s' hs' => ?_
      have := ih (i + 1) (by omega) s' hs'
      rwa [show ((i + 1 : Nat) : Int) = (i : Int) + 1 by omega] at this
  exact fun s hs => key n 0 (by omega) s hs
theorem bool_of_iff {a b : Bool} {P : Prop} (h : a = true ↔ P) (k : b = true ↔ P) : a = b := by
  cases a <;> cases b <;> simp_all
theorem getD_at {α : Type} (l : List α) (d : α) (i : Nat) (h : i < l.length) : l.getD i d = l[i] := by
  rw [List.getD_eq_getElem?_getD, List.getElem?_eq_getElem h, Option.getD_some]
theorem len_small {α : Type} {l : List α} (h : l.length ≤ maxLen) : (l.length : Int) ≤ 9223372036854775807 := by unfold maxLen at h; omega
end Go.Proofs.Ytclldijjbmnkeaa.Pure
/- Lists, read and written element by element. No conditions. -/
namespace Go.Proofs.Ytclldijjbmnkeaa.Pure
open Go.RowKit Go.Proofs.YtclldijjbmnkeaaW.PrintWords Go.Proofs.YtclldijjbmnkeaaW.PrintLast
set_option linter.unusedVariables false
set_option linter.unusedSimpArgs false

theorem eq_of_getD {α : Type} {a b : List α} (d : α) (h : a.length = b.length) (k : ∀ i, i < a.length → a.getD i d = b.getD i d) : a = b := by
  refine List.ext_getElem h fun i h1 h2 => ?_
  have := k i h1
  rwa [getD_at _ _ _ h1, getD_at _ _ _ h2] at this
theorem getD_set {α : Type} (l : List α) (d v : α) (i j : Nat) (hi : i < l.length) : (l.set i v).getD j d = if j = i then v else l.getD j d := by
  rw [List.getD_eq_getElem?_getD, List.getElem?_set]
  by_cases h : i = j
  · subst h; simp [hi]
  · rw [if_neg h, if_neg (fun e => h e.symm), ← List.getD_eq_getElem?_getD]
end Go.Proofs.Ytclldijjbmnkeaa.Pure
/- The program's dishes, as lists. No conditions. -/
namespace Go.Proofs.Ytclldijjbmnkeaa.Pure
open Go.RowKit Go.Proofs.YtclldijjbmnkeaaW.PrintWords Go.Proofs.YtclldijjbmnkeaaW.PrintLast Go.Proofs.Ytclldijjbmnkeaa.Q
set_option linter.unusedVariables false
set_option linter.unusedSimpArgs false
abbrev Pt := S55
abbrev Ds := S29
def dAt (l : List Ds) (i : Nat) : Ds := l.getD i z29
theorem dAt_rd (l : List Ds) (i : Nat) : rd_T29 l (i : Int) = dAt l i := rfl
end Go.Proofs.Ytclldijjbmnkeaa.Pure
/- The place of a dish, in the program and in the reference. Condition: at most 2,000,000 dishes. -/
namespace Go.Proofs.Ytclldijjbmnkeaa.Pure
open Go.RowKit Go.Proofs.YtclldijjbmnkeaaW.PrintWords Go.Proofs.YtclldijjbmnkeaaW.PrintLast Go.Proofs.Ytclldijjbmnkeaa.Q
set_option linter.unusedVariables false
set_option linter.unusedSimpArgs false
def dPl (l : List Ds) (id : Int) : Int := idxOf (fun x => x.f0 == id) l
theorem iDFind_eq (l : List Ds) (id : Int) : impl_DishesFind.f l id = some (dPl l id) := rfl
theorem dPl_none {l : List Ds} {id : Int} (h : ∀ j, j < l.length → (dAt l j).f0 ≠ id) : dPl l id = -1 := idxOf_miss _ l z29 fun j hj => beq_eq_false_iff_ne.2 (h j hj)
theorem dPl_hit {l : List Ds} {id : Int} {k : Nat} (hk : k < l.length) (h : (dAt l k).f0 = id) (hn : ∀ j, j < k → (dAt l j).f0 ≠ id) : dPl l id = (k : Int) := idxOf_hit _ l z29 k hk (beq_iff_eq.2 h) fun j hj => beq_eq_false_iff_ne.2 (hn j hj)
theorem dPl_is (l : List Ds) (id : Int) : (dPl l id = -1 ∧ ∀ j, j < l.length → (dAt l j).f0 ≠ id) ∨ ∃ k : Nat, dPl l id = k ∧ k < l.length ∧ (dAt l k).f0 = id ∧ ∀ j, j < k → (dAt l j).f0 ≠ id := by
  have key : ∀ d i, i + d = l.length → (∀ j, j < i → (dAt l j).f0 ≠ id) → (dPl l id = -1 ∧ ∀ j, j < l.length → (dAt l j).f0 ≠ id) ∨ ∃ k : Nat, dPl l id = k ∧ k < l.length ∧ (dAt l k).f0 = id ∧ ∀ j, j < k → (dAt l j).f0 ≠ id := by
    intro d
    induction d with
    | zero =>
      intro i hi h
      exact .inl ⟨dPl_none fun j hj => h j (by omega), fun j hj => h j (by omega)⟩
    | succ d ih =>
      intro i hi h
      by_cases e : (dAt l i).f0 = id
      · exact .inr ⟨i, dPl_hit (by omega) e h, by omega, e, h⟩
      · refine ih (i + 1) (by omega) fun j hj => ?_
        rcases Nat.lt_succ_iff_lt_or_eq.1 hj with h1 | rfl
        · exact h j h1
        · exact e
  exact key l.length 0 (by omega) fun j hj => absurd hj (by omega)
theorem l11Find_ok (l : List Ds) (id : Int) (hl : l.length ≤ 2000000) : Ok (fun k => spec_l11Find.f k l id) (· = dPl l id) := by
  unfold spec_l11Find.f
  refine Ok.range (fun (_ : Unit) i k => spec_l11Find.l0 k l id i) l.length (fun i _ => ∀ j, j < i → (dAt l j).f0 ≠ id) _ ?_ ?_ () (fun j hj => absurd hj (by omega))
  · intro i _ hi hinv ih
    refine Ok.step (fun k => by simp only [spec_l11Find.l0]; rfl) (Ok.pos (by omega) (Ok.pos (by omega) ?_))
    rw [dAt_rd, wrap_id (n := (i : Int) + 1) (by omega) (by omega)]
    refine Ok.ite (fun h => Ok.ret (dPl_hit hi h hinv).symm) (fun h => ih () fun j hj => ?_)
    rcases Nat.lt_succ_iff_lt_or_eq.1 hj with h1 | rfl
    · exact hinv j h1
    · exact h
  · intro _ hinv
    exact Ok.step (fun k => by simp only [spec_l11Find.l0]; rfl) (Ok.neg (by omega) (Ok.ret (dPl_none hinv).symm))
end Go.Proofs.Ytclldijjbmnkeaa.Pure
/- Ranges, and the bits of sets. No conditions. -/
namespace Go.Proofs.Ytclldijjbmnkeaa.Pure
open Go.RowKit Go.Proofs.YtclldijjbmnkeaaW.PrintWords Go.Proofs.YtclldijjbmnkeaaW.PrintLast
set_option linter.unusedVariables false
set_option linter.unusedSimpArgs false

def inr (a lo hi : Int) : Bool := decide (lo ≤ a ∧ a ≤ hi)
theorem inr_iff (a lo hi : Int) : inr a lo hi = true ↔ lo ≤ a ∧ a ≤ hi := by simp [inr]
end Go.Proofs.Ytclldijjbmnkeaa.Pure
/- The reference's ranges and sets. No conditions. -/
namespace Go.Proofs.Ytclldijjbmnkeaa.Pure
open Go.RowKit Go.Proofs.YtclldijjbmnkeaaW.PrintWords Go.Proofs.YtclldijjbmnkeaaW.PrintLast Go.Proofs.Ytclldijjbmnkeaa.Q
set_option linter.unusedVariables false
set_option linter.unusedSimpArgs false

theorem l6In_eq (a lo hi : Int) : spec_l6In.f a lo hi = some (inr a lo hi) := by
  unfold spec_l6In.f inr
  by_cases h : a ≥ lo
  · rw [if_pos h]; simp [h]
  · rw [if_neg h]; simp; omega
theorem l3Set_eq (a : Int) : spec_l3Set.f a = some (inr a 0 255) := by simp only [spec_l3Set.f, l6In_eq, Option.bind_some]
end Go.Proofs.Ytclldijjbmnkeaa.Pure
/- The program's ranges, sets and kinds. No conditions. -/
namespace Go.Proofs.Ytclldijjbmnkeaa.Pure
open Go.RowKit Go.Proofs.YtclldijjbmnkeaaW.PrintWords Go.Proofs.YtclldijjbmnkeaaW.PrintLast Go.Proofs.Ytclldijjbmnkeaa.Q
set_option linter.unusedVariables false
set_option linter.unusedSimpArgs false

theorem within_eq (a lo hi : Int) : impl_within.f a lo hi = some (inr a lo hi) := by
  unfold impl_within.f inr
  by_cases h : a ≥ lo
  · rw [if_pos h]; simp [h]
  · rw [if_neg h]; simp; omega
theorem isSet_eq (a : Int) : impl_isSet.f a = some (inr a 0 255) := by simp only [impl_isSet.f, within_eq, Option.bind_some]
theorem isKind_eq (a : Int) : impl_isKind.f a = some (inr a 1 5) := by simp only [impl_isKind.f, within_eq, Option.bind_some]
end Go.Proofs.Ytclldijjbmnkeaa.Pure
/- When foods are valid, in the program and in the reference. Condition: at most 2,000,000. -/
namespace Go.Proofs.Ytclldijjbmnkeaa.Pure
open Go.RowKit Go.Proofs.YtclldijjbmnkeaaW.PrintWords Go.Proofs.YtclldijjbmnkeaaW.PrintLast Go.Proofs.Ytclldijjbmnkeaa.Q
set_option linter.unusedVariables false
set_option linter.unusedSimpArgs false
abbrev Fd := S63
def fAt (l : List Fd) (i : Nat) : Fd := l.getD i z63
theorem fAt_rd (l : List Fd) (i : Nat) : rd_T63 l (i : Int) = fAt l i := rfl
theorem fAt_prev (l : List Fd) (i : Nat) (h : 0 < i) : rd_T63 l ((i : Int) - 1) = fAt l (i - 1) := by
  unfold rd_T63 fAt
  rw [show ((i : Int) - 1).toNat = i - 1 by omega]
def fB (x : Fd) : Bool := inr x.f0 1 20 && inr x.f1 1 3 && inr x.f2 0 255 && inr x.f3 1 5 && inr x.f4 0 999 && inr x.f5 0 999
theorem fB_iff (x : Fd) : fB x = true ↔ (1 ≤ x.f0 ∧ x.f0 ≤ 20) ∧ (1 ≤ x.f1 ∧ x.f1 ≤ 3) ∧ (0 ≤ x.f2 ∧ x.f2 ≤ 255) ∧ (1 ≤ x.f3 ∧ x.f3 ≤ 5) ∧ (0 ≤ x.f4 ∧ x.f4 ≤ 999) ∧ 0 ≤ x.f5 ∧ x.f5 ≤ 999 := by simp [fB, inr_iff, and_assoc]
/-- element i is as it must be -/
def fGood (l : List Fd) (i : Nat) : Prop := fB (fAt l i) = true ∧ (0 < i → (fAt l (i - 1)).f0 < (fAt l i).f0)
/-- foods are valid -/
def FV (l : List Fd) : Prop := l.length ≤ 6 ∧ ∀ i, i < l.length → fGood l i
theorem isId_eq (a : Int) : impl_isId.f a = some (inr a 1 20) := by simp only [impl_isId.f, within_eq, Option.bind_some]
theorem sFoods_ok (l : List Fd) (hl : l.length ≤ 2000000) : Ok (fun k => spec_FoodsValid.f k l) (fun r => r = true ↔ FV l) := by
  unfold spec_FoodsValid.f
  refine Ok.range (fun (_ : Unit) i k => spec_FoodsValid.l0 k l i) l.length (fun i _ => ∀ j, j < i → fGood l j) _ ?_ ?_ () (fun j hj => absurd hj (by omega))
  · intro i _ hi hinv ih
    refine Ok.step (fun k => by simp only [spec_FoodsValid.l0]; rfl) (Ok.pos (by omega) (Ok.pos (by omega) ?_))
    simp only [l6In_eq, l3Set_eq, Option.bind_some, fAt_rd]
    have bad : ¬ fGood l i → Ok (fun k => spec_FoodsValid.j1 k l (i : Int) true (fAt l i).f0 (fAt l i).f1 (fAt l i).f2 (fAt l i).f3 (fAt l i).f4 (fAt l i).f5) (fun r : Bool => r = true ↔ FV l) := fun h => Ok.step (fun k => by simp only [spec_FoodsValid.j1]; rfl) (Ok.pos (by trivial) (Ok.ret ⟨fun h' => (by cases h'), fun h' => absurd (h'.2 i hi) h⟩))
    have good : fGood l i → Ok (fun k => spec_FoodsValid.l0 k l ((i : Int) + 1)) (fun r : Bool => r = true ↔ FV l) := fun h => ih () (fun j hj => by
      rcases Nat.lt_succ_iff_lt_or_eq.1 hj with h1 | rfl
      · exact hinv j h1
      · exact h)
    have fb : inr (fAt l i).f0 1 20 = true → inr (fAt l i).f1 1 3 = true → inr (fAt l i).f2 0 255 = true → inr (fAt l i).f3 1 5 = true → inr (fAt l i).f4 0 999 = true → inr (fAt l i).f5 0 999 = true → fB (fAt l i) = true := fun h1 h2 h3 h4 h5 h6 => by simp [fB, h1, h2, h3, h4, h5, h6]
    refine Ok.ite (fun h1 => Ok.ite (fun h2 => Ok.ite (fun h3 => Ok.ite (fun h4 => Ok.ite (fun h5 => ?_) (fun h => bad fun g => h (by have := (fB_iff _).1 g.1; exact (inr_iff _ _ _).2 (by omega)))) (fun h => bad fun g => h (by have := (fB_iff _).1 g.1; exact (inr_iff _ _ _).2 (by omega)))) (fun h => bad fun g => h (by have := (fB_iff _).1 g.1; exact (inr_iff _ _ _).2 (by omega)))) (fun h => bad fun g => h (by have := (fB_iff _).1 g.1; exact (inr_iff _ _ _).2 (by omega)))) (fun h => bad fun g => h (by have := (fB_iff _).1 g.1; exact (inr_iff _ _ _).2 (by omega)))
    cases h6 : inr (fAt l i).f5 0 999 with
    | false => exact bad fun g => by have := (fB_iff _).1 g.1; rw [(inr_iff _ _ _).2 this.2.2.2.2.2] at h6; cases h6
    | true =>
      refine Ok.step (fun k => by simp only [spec_FoodsValid.j1]; rfl) (Ok.neg (by simp) ?_)
      rw [wrap_id (n := (i : Int) + 1) (by omega) (by omega), wrap_id (n := (i : Int) - 1) (by omega) (by omega)]
      refine Ok.ite (fun h7 => Ok.pos (by omega) (Ok.pos (by omega) ?_)) (fun h7 => good ⟨fb h1 h2 h3 h4 h5 h6, fun h => absurd h (by omega)⟩)
      rw [fAt_prev l i (by omega)]
      exact Ok.ite (fun h8 => Ok.ret ⟨fun h' => (by cases h'), fun h' => by have := (h'.2 i hi).2 (by omega); omega⟩) (fun h8 => good ⟨fb h1 h2 h3 h4 h5 h6, fun _ => by omega⟩)
  · intro _ hinv
    refine Ok.step (fun k => by simp only [spec_FoodsValid.l0]; rfl) (Ok.neg (by omega) (Ok.ret ?_))
    rw [decide_eq_true_iff]
    exact ⟨fun h => ⟨by omega, hinv⟩, fun h => by have := h.1; omega⟩
theorem iFoods_ok (l : List Fd) (hl : l.length ≤ 2000000) : Ok (fun k => impl_FoodsValid.f k l) (fun r => r = true ↔ FV l) := by
  unfold impl_FoodsValid.f
  refine Ok.range (fun (_ : Unit) i k => impl_FoodsValid.l0 k l l (l.length : Int) i) l.length (fun i _ => ∀ j, j < i → fGood l j) _ ?_ ?_ () (fun j hj => absurd hj (by omega))
  · intro i _ hi hinv ih
    refine Ok.step (fun k => by simp only [impl_FoodsValid.l0]; rfl) (Ok.pos (by omega) (Ok.pos (by omega) (Ok.pos (by omega) ?_)))
    have ew : wrap64 ((i : Int) + 1) = (i : Int) + 1 := wrap_id (by omega) (by omega)
    have ew' : wrap64 ((i : Int) - 1) = (i : Int) - 1 := wrap_id (by omega) (by omega)
    simp only [isId_eq, within_eq, isSet_eq, isKind_eq, Option.bind_some, ew, ew', fAt_rd]
    have bad : ¬ fGood l i → Ok (fun _ => some false) (fun r : Bool => r = true ↔ FV l) := fun h => Ok.ret ⟨fun h' => (by cases h'), fun h' => absurd (h'.2 i hi) h⟩
    have good : fGood l i → Ok (fun k => impl_FoodsValid.l0 k l l (l.length : Int) ((i : Int) + 1)) (fun r : Bool => r = true ↔ FV l) := fun h => ih () (fun j hj => by
      rcases Nat.lt_succ_iff_lt_or_eq.1 hj with h1 | rfl
      · exact hinv j h1
      · exact h)
    have fb : inr (fAt l i).f0 1 20 = true → inr (fAt l i).f1 1 3 = true → inr (fAt l i).f2 0 255 = true → inr (fAt l i).f3 1 5 = true → inr (fAt l i).f4 0 999 = true → inr (fAt l i).f5 0 999 = true → fB (fAt l i) = true := fun h1 h2 h3 h4 h5 h6 => by simp [fB, h1, h2, h3, h4, h5, h6]
    refine Ok.ite (fun h1 => Ok.ite (fun h2 => Ok.ite (fun h3 => Ok.ite (fun h4 => Ok.ite (fun h5 => Ok.ite (fun h6 => Ok.ite (fun h7 => ?_) (fun h7 => good ⟨fb h1 h2 h3 h4 h5 h6, fun h => absurd h (by omega)⟩)) (fun h => bad fun g => h (by have := (fB_iff _).1 g.1; exact (inr_iff _ _ _).2 (by omega)))) (fun h => bad fun g => h (by have := (fB_iff _).1 g.1; exact (inr_iff _ _ _).2 (by omega)))) (fun h => bad fun g => h (by have := (fB_iff _).1 g.1; exact (inr_iff _ _ _).2 (by omega)))) (fun h => bad fun g => h (by have := (fB_iff _).1 g.1; exact (inr_iff _ _ _).2 (by omega)))) (fun h => bad fun g => h (by have := (fB_iff _).1 g.1; exact (inr_iff _ _ _).2 (by omega)))) (fun h => bad fun g => h (by have := (fB_iff _).1 g.1; exact (inr_iff _ _ _).2 (by omega)))
    refine Ok.pos (by omega) (Ok.pos (by omega) ?_)
    simp only [fAt_prev l i (by omega)]
    exact Ok.ite (fun h8 => bad fun h => by have := h.2 (by omega); omega) (fun h8 => good ⟨fb h1 h2 h3 h4 h5 h6, fun _ => by omega⟩)
  · intro _ hinv
    refine Ok.step (fun k => by simp only [impl_FoodsValid.l0]; rfl) (Ok.neg (by omega) (Ok.ret ?_))
    rw [decide_eq_true_iff]
    exact ⟨fun h => ⟨by omega, hinv⟩, fun h => by have := h.1; omega⟩
end Go.Proofs.Ytclldijjbmnkeaa.Pure
/- The place of a food, in the program and in the reference. Condition: at most 2,000,000 foods. -/
namespace Go.Proofs.Ytclldijjbmnkeaa.Pure
open Go.RowKit Go.Proofs.YtclldijjbmnkeaaW.PrintWords Go.Proofs.YtclldijjbmnkeaaW.PrintLast Go.Proofs.Ytclldijjbmnkeaa.Q
set_option linter.unusedVariables false
set_option linter.unusedSimpArgs false
def fPl (l : List Fd) (id : Int) : Int := idxOf (fun x => x.f0 == id) l
theorem foodPlace_eq (l : List Fd) (id : Int) : impl_foodPlace.f l id = some (fPl l id) := rfl
theorem fPl_none {l : List Fd} {id : Int} (h : ∀ j, j < l.length → (fAt l j).f0 ≠ id) : fPl l id = -1 := idxOf_miss _ l z63 fun j hj => beq_eq_false_iff_ne.2 (h j hj)
theorem fPl_hit {l : List Fd} {id : Int} {k : Nat} (hk : k < l.length) (h : (fAt l k).f0 = id) (hn : ∀ j, j < k → (fAt l j).f0 ≠ id) : fPl l id = (k : Int) := idxOf_hit _ l z63 k hk (beq_iff_eq.2 h) fun j hj => beq_eq_false_iff_ne.2 (hn j hj)
theorem l5Find_ok (l : List Fd) (id : Int) (hl : l.length ≤ 2000000) : Ok (fun k => spec_l5Find.f k l id) (· = fPl l id) := by
  unfold spec_l5Find.f
  refine Ok.range (fun (_ : Unit) i k => spec_l5Find.l0 k l id i) l.length (fun i _ => ∀ j, j < i → (fAt l j).f0 ≠ id) _ ?_ ?_ () (fun j hj => absurd hj (by omega))
  · intro i _ hi hinv ih
    refine Ok.step (fun k => by simp only [spec_l5Find.l0]; rfl) (Ok.pos (by omega) (Ok.pos (by omega) ?_))
    rw [fAt_rd, wrap_id (n := (i : Int) + 1) (by omega) (by omega)]
    refine Ok.ite (fun h => Ok.ret (fPl_hit hi h hinv).symm) (fun h => ih () fun j hj => ?_)
    rcases Nat.lt_succ_iff_lt_or_eq.1 hj with h1 | rfl
    · exact hinv j h1
    · exact h
  · intro _ hinv
    exact Ok.step (fun k => by simp only [spec_l5Find.l0]; rfl) (Ok.neg (by omega) (Ok.ret (fPl_none hinv).symm))
end Go.Proofs.Ytclldijjbmnkeaa.Pure
/- When dishes are valid, in the program and in the reference. Condition: at most 2,000,000 dishes, each of at most 2,000,000 parts, and as many foods. -/
namespace Go.Proofs.Ytclldijjbmnkeaa.Pure
open Go.RowKit Go.Proofs.YtclldijjbmnkeaaW.PrintWords Go.Proofs.YtclldijjbmnkeaaW.PrintLast Go.Proofs.Ytclldijjbmnkeaa.Q
set_option linter.unusedVariables false
set_option linter.unusedSimpArgs false
def pAt (l : List Pt) (i : Nat) : Pt := l.getD i z55
theorem pAt_rd (l : List Pt) (i : Nat) : rd_T55 l (i : Int) = pAt l i := rfl
theorem dAt_prev (l : List Ds) (i : Nat) (h : 0 < i) : rd_T29 l ((i : Int) - 1) = dAt l (i - 1) := by
  unfold rd_T29 dAt
  rw [show ((i : Int) - 1).toNat = i - 1 by omega]
/-- a part of a dish behind the dishes b -/
def pGood (b : List Ds) (l : List Fd) (p : Pt) : Prop := (p.f1 = 0 ∧ 0 ≤ fPl l p.f0 ∧ 1 ≤ p.f2 ∧ p.f2 ≤ 999) ∨ (p.f1 ≠ 0 ∧ p.f0 = 0 ∧ 0 ≤ dPl b p.f1 ∧ 1 ≤ p.f2 ∧ p.f2 ≤ 9)
def dHead (d : List Ds) (i : Nat) : Prop := (1 ≤ (dAt d i).f0 ∧ (dAt d i).f0 ≤ 20) ∧ (1 ≤ (dAt d i).f1 ∧ (dAt d i).f1 ≤ 12) ∧ (1 ≤ (dAt d i).f2.length ∧ (dAt d i).f2.length ≤ 5) ∧ (0 < i → (dAt d (i - 1)).f0 < (dAt d i).f0)
def dGood (d : List Ds) (l : List Fd) (i : Nat) : Prop := dHead d i ∧ ∀ j, j < (dAt d i).f2.length → pGood (d.take i) l (pAt (dAt d i).f2 j)
def DV (d : List Ds) (l : List Fd) : Prop := FV l ∧ d.length ≤ 4 ∧ ∀ i, i < d.length → dGood d l i
theorem take_dAt (d : List Ds) (i k : Nat) (hk : k < i) : dAt (d.take i) k = dAt d k := by
  unfold dAt
  rw [List.getD_eq_getElem?_getD, List.getD_eq_getElem?_getD, List.getElem?_take, if_pos hk]
theorem dPl_nat {l : List Ds} {id : Int} (h : 0 ≤ dPl l id) : ∃ k : Nat, dPl l id = k ∧ k < l.length ∧ (dAt l k).f0 = id := by
  rcases dPl_is l id with ⟨e, _⟩ | ⟨k, e, hk, hi, _⟩
  · omega
  · exact ⟨k, e, hk, hi⟩
theorem l11Part_ok (b : List Ds) (l : List Fd) (p : Pt) (hb : b.length ≤ 2000000) (hl : l.length ≤ 2000000) : Ok (fun k => spec_l11Part.f k b l p.f0 p.f1 p.f2) (fun r => r = true ↔ pGood b l p) := by
  unfold spec_l11Part.f
  refine Ok.ite (fun h => Ok.bind (l5Find_ok l _ hl) ?_) (fun h => Ok.ite (fun h2 => Ok.bind (l11Find_ok b _ hb) ?_) (fun h2 => Ok.ret ⟨fun h' => (by cases h'), fun h' => by rcases h' with h' | h'; exact absurd h'.1 h; exact absurd h'.2.1 h2⟩))
  · rintro _ rfl
    refine Ok.ite (fun h2 => ?_) (fun h2 => Ok.ret ⟨fun h' => (by cases h'), fun h' => by rcases h' with h' | h'; exact absurd h'.2.1 h2; exact absurd h h'.1⟩)
    rw [l6In_eq]
    refine Ok.val (Ok.ret ?_)
    rw [inr_iff]
    exact ⟨fun h' => .inl ⟨h, h2, h'⟩, fun h' => by rcases h' with h' | h'; exact h'.2.2; exact absurd h h'.1⟩
  · rintro _ rfl
    refine Ok.ite (fun h3 => ?_) (fun h3 => Ok.ret ⟨fun h' => (by cases h'), fun h' => by rcases h' with h' | h'; exact absurd h'.1 h; exact absurd h'.2.2.1 h3⟩)
    rw [l6In_eq]
    refine Ok.val (Ok.ret ?_)
    rw [inr_iff]
    exact ⟨fun h' => .inr ⟨h, h2, h3, h'⟩, fun h' => by rcases h' with h' | h'; exact absurd h'.1 h; exact h'.2.2.2⟩
theorem sDishes_ok (d : List Ds) (l : List Fd) (hd : d.length ≤ 2000000) (hp : ∀ i, i < d.length → (dAt d i).f2.length ≤ 2000000) (hl : l.length ≤ 2000000) : Ok (fun k => spec_DishesValid.f k d l) (fun b => b = true ↔ DV d l) := by
  unfold spec_DishesValid.f
  refine Ok.bind (sFoods_ok l hl) fun b hb => Ok.ite (fun h => ?_) (fun h => Ok.step (fun k => by simp only [spec_DishesValid.j0]; rfl) (Ok.pos (by trivial) (Ok.ret ⟨fun h' => (by cases h'), fun h' => absurd (hb.2 h'.1) h⟩)))
  have fv := hb.1 h
  refine Ok.step (fun k => by simp only [spec_DishesValid.j0]; rfl) (Ok.ite (fun h4 => Ok.ret ⟨fun h' => (by cases h'), fun h' => by have := h'.2.1; simp at h4; omega⟩) (fun h4 => ?_))
  have h4' : d.length ≤ 4 := by simp at h4; omega
  clear h4
  refine Ok.range (fun (_ : Unit) i k => spec_DishesValid.l0 k d l i) d.length (fun i _ => ∀ j, j < i → dGood d l j) _ ?_ ?_ () (fun j hj => absurd hj (by omega))
  · intro i _ hi hinv ih
    refine Ok.step (fun k => by simp only [spec_DishesValid.l0]; rfl) (Ok.pos (by omega) (Ok.pos (by omega) ?_))
    rw [dAt_rd, wrap_id (n := (i : Int) - 1) (by omega) (by omega)]
    simp only [l6In_eq, Option.bind_some]
    have bad : ¬ dGood d l i → Ok (fun k => some false) (fun r : Bool => r = true ↔ DV d l) := fun h => Ok.ret ⟨fun h' => (by cases h'), fun h' => absurd (h'.2.2 i hi) h⟩
    have badj : ¬ dGood d l i → Ok (fun k => spec_DishesValid.j2 k d l (i : Int) true (dAt d i).f0 (dAt d i).f1 (dAt d i).f2) (fun r : Bool => r = true ↔ DV d l) := fun h => Ok.step (fun k => by simp only [spec_DishesValid.j2]; rfl) (Ok.pos (by trivial) (bad h))
    have good : dHead d i → Ok (fun k => spec_DishesValid.l1 k d l (i : Int) 0 (dAt d i).f0 (dAt d i).f1 (dAt d i).f2) (fun r : Bool => r = true ↔ DV d l) := by
      intro g
      refine Ok.range (fun (_ : Unit) j k => spec_DishesValid.l1 k d l (i : Int) j (dAt d i).f0 (dAt d i).f1 (dAt d i).f2) (dAt d i).f2.length (fun j _ => ∀ q, q < j → pGood (d.take i) l (pAt (dAt d i).f2 q)) _ ?_ ?_ () (fun j hj => absurd hj (by omega))
      · intro j _ hj hinv2 ih2
        have hpi := hp i hi
        refine Ok.step (fun k => by simp only [spec_DishesValid.l1]; rfl) (Ok.pos (by omega) (Ok.pos (by omega) (Ok.pos (by omega) (Ok.pos (by omega) ?_))))
        rw [pAt_rd, wrap_id (n := (j : Int) + 1) (by omega) (by omega), Int.toNat_natCast]
        refine Ok.bind (l11Part_ok (d.take i) l (pAt (dAt d i).f2 j) (by rw [List.length_take]; omega) hl) fun r hr => Ok.ite (fun h5 => ih2 () fun q hq => ?_) (fun h5 => bad fun g' => h5 (hr.2 (g'.2 j hj)))
        rcases Nat.lt_succ_iff_lt_or_eq.1 hq with h6 | rfl
        · exact hinv2 q h6
        · exact hr.1 h5
      · intro _ hinv2
        refine Ok.step (fun k => by simp only [spec_DishesValid.l1]; rfl) (Ok.neg (by omega) ?_)
        rw [wrap_id (n := (i : Int) + 1) (by omega) (by omega)]
        refine ih () fun j hj => ?_
        rcases Nat.lt_succ_iff_lt_or_eq.1 hj with h6 | rfl
        · exact hinv j h6
        · exact ⟨g, hinv2⟩
    refine Ok.ite (fun h1 => Ok.ite (fun h2 => Ok.ite (fun h3 => ?_) (fun h => badj fun g => h ((inr_iff _ _ _).2 (by have := g.1.2.2.1; omega)))) (fun h => badj fun g => h ((inr_iff _ _ _).2 g.1.2.1))) (fun h => badj fun g => h ((inr_iff _ _ _).2 g.1.1))
    have h1' := (inr_iff _ _ _).1 h1
    have h2' := (inr_iff _ _ _).1 h2
    have h3' : 1 ≤ (dAt d i).f2.length ∧ (dAt d i).f2.length ≤ 5 := by have := (inr_iff _ _ _).1 h3; omega
    refine Ok.ite (fun h7 => Ok.pos (by omega) (Ok.pos (by omega) ?_)) (fun h7 => Ok.step (fun k => by simp only [spec_DishesValid.j2]; rfl) (Ok.neg (by simp) (good ⟨h1', h2', h3', fun h => absurd h (by omega)⟩)))
    rw [dAt_prev d i (by omega)]
    refine Ok.step (fun k => by simp only [spec_DishesValid.j2]; rfl) (Ok.ite (fun h8 => bad fun g => ?_) (fun h8 => good ⟨h1', h2', h3', fun _ => ?_⟩))
    · have := g.1.2.2.2 (by omega); simp at h8; omega
    · simp at h8; omega
  · intro _ hinv
    exact Ok.step (fun k => by simp only [spec_DishesValid.l0]; rfl) (Ok.neg (by omega) (Ok.ret ⟨fun _ => ⟨fv, h4', hinv⟩, fun _ => rfl⟩))
theorem iDishes_ok (d : List Ds) (l : List Fd) (hd : d.length ≤ 2000000) (hp : ∀ i, i < d.length → (dAt d i).f2.length ≤ 2000000) (hl : l.length ≤ 2000000) : Ok (fun k => impl_DishesValid.f k d l) (fun b => b = true ↔ DV d l) := by
  unfold impl_DishesValid.f
  refine Ok.bind (iFoods_ok l hl) fun b hb => Ok.ite (fun h => ?_) (fun h => Ok.step (fun k => by simp only [impl_DishesValid.j0]; rfl) (Ok.pos (by trivial) (Ok.ret ⟨fun h' => (by cases h'), fun h' => absurd (hb.2 h'.1) h⟩)))
  have fv := hb.1 h
  refine Ok.step (fun k => by simp only [impl_DishesValid.j0]; rfl) (Ok.ite (fun h4 => Ok.ret ⟨fun h' => (by cases h'), fun h' => by have := h'.2.1; simp at h4; omega⟩) (fun h4 => ?_))
  have h4' : d.length ≤ 4 := by simp at h4; omega
  clear h4
  refine Ok.range (fun (_ : Unit) i k => impl_DishesValid.l0 k d l d (d.length : Int) i) d.length (fun i _ => ∀ j, j < i → dGood d l j) _ ?_ ?_ () (fun j hj => absurd hj (by omega))
  · intro i _ hi hinv ih
    refine Ok.step (fun k => by simp only [impl_DishesValid.l0]; rfl) (Ok.pos (by omega) (Ok.pos (by omega) (Ok.pos (by omega) ?_)))
    rw [dAt_rd, wrap_id (n := (i : Int) - 1) (by omega) (by omega)]
    simp only [isId_eq, within_eq, Option.bind_some]
    have bad : ¬ dGood d l i → Ok (fun k => some false) (fun r : Bool => r = true ↔ DV d l) := fun h => Ok.ret ⟨fun h' => (by cases h'), fun h' => absurd (h'.2.2 i hi) h⟩
    have badj : ¬ dGood d l i → Ok (fun k => impl_DishesValid.j2 k d l (i : Int) d (d.length : Int) (i : Int) true (dAt d i).f0 (dAt d i).f1 (dAt d i).f2) (fun r : Bool => r = true ↔ DV d l) := fun h => Ok.step (fun k => by simp only [impl_DishesValid.j2]; rfl) (Ok.pos (by trivial) (bad h))
    have good : dHead d i → Ok (fun k => impl_DishesValid.l1 k d l (i : Int) d (d.length : Int) (i : Int) (dAt d i).f2 ((dAt d i).f2.length : Int) 0) (fun r : Bool => r = true ↔ DV d l) := by
      intro g
      refine Ok.range (fun (_ : Unit) j k => impl_DishesValid.l1 k d l (i : Int) d (d.length : Int) (i : Int) (dAt d i).f2 ((dAt d i).f2.length : Int) j) (dAt d i).f2.length (fun j _ => ∀ q, q < j → pGood (d.take i) l (pAt (dAt d i).f2 q)) _ ?_ ?_ () (fun j hj => absurd hj (by omega))
      · intro j _ hj hinv2 ih2
        have hpi := hp i hi
        refine Ok.step (fun k => by simp only [impl_DishesValid.l1]; rfl) (Ok.pos (by omega) (Ok.pos (by omega) (Ok.pos (by omega) ?_)))
        rw [pAt_rd]
        have next : pGood (d.take i) l (pAt (dAt d i).f2 j) → Ok (fun k => impl_DishesValid.l1 k d l (i : Int) d (d.length : Int) (i : Int) (dAt d i).f2 ((dAt d i).f2.length : Int) (wrap64 ((j : Int) + 1))) (fun r : Bool => r = true ↔ DV d l) := by
          intro hg
          rw [wrap_id (n := (j : Int) + 1) (by omega) (by omega)]
          refine ih2 () fun q hq => ?_
          rcases Nat.lt_succ_iff_lt_or_eq.1 hq with h6 | rfl
          · exact hinv2 q h6
          · exact hg
        have stop : ¬ pGood (d.take i) l (pAt (dAt d i).f2 j) → Ok (fun k => some false) (fun r : Bool => r = true ↔ DV d l) := fun hg => bad fun g' => hg (g'.2 j hj)
        have nz : 0 ≤ dPl (d.take i) (pAt (dAt d i).f2 j).f1 → (pAt (dAt d i).f2 j).f1 ≠ 0 := by
          intro h5 e
          obtain ⟨q, _, hq, hi0⟩ := dPl_nat h5
          have hq' : q < i := by rw [List.length_take] at hq; omega
          rw [take_dAt d i q hq', e] at hi0
          have := (hinv q hq').1.1
          omega
        have j4ok : ∀ b : Bool, (b = true → pGood (d.take i) l (pAt (dAt d i).f2 j)) → (b = false → ¬ ((pAt (dAt d i).f2 j).f1 = 0 ∧ 0 ≤ fPl l (pAt (dAt d i).f2 j).f0 ∧ 1 ≤ (pAt (dAt d i).f2 j).f2 ∧ (pAt (dAt d i).f2 j).f2 ≤ 999)) → Ok (fun k => impl_DishesValid.j4 k d l (i : Int) b d (d.length : Int) (i : Int) (dAt d i).f2 ((dAt d i).f2.length : Int) (j : Int) (pAt (dAt d i).f2 j).f0 (pAt (dAt d i).f2 j).f1 (pAt (dAt d i).f2 j).f2) (fun r : Bool => r = true ↔ DV d l) := by
          intro b hb1 hb2
          have nb : ¬ b = true → b = false := fun h => by simpa using h
          refine Ok.step (fun k => by simp only [impl_DishesValid.j4]; rfl) (Ok.ite (fun h5 => Ok.pos (by omega) (Ok.pos (by omega) ?_)) (fun h5 => Ok.ite (fun h6 => next (hb1 h6)) (fun h6 => stop fun g' => ?_)))
          · rw [iDFind_eq, Int.toNat_natCast, within_eq]
            refine Ok.val (Ok.ite (fun h7 => Ok.val (Ok.ite (fun h6 => next (hb1 h6)) (fun h6 => Ok.ite (fun h8 => next (.inr ⟨nz h7, h5, h7, (inr_iff _ _ _).1 h8⟩)) (fun h8 => stop fun g' => ?_)))) (fun h7 => Ok.ite (fun h6 => next (hb1 h6)) (fun h6 => stop fun g' => ?_)))
            · rcases g' with g' | g'
              · exact hb2 (nb h6) g'
              · exact h8 ((inr_iff _ _ _).2 g'.2.2.2)
            · rcases g' with g' | g'
              · exact hb2 (nb h6) g'
              · exact h7 g'.2.2.1
          · rcases g' with g' | g'
            · exact hb2 (nb h6) g'
            · exact h5 g'.2.1
        refine Ok.ite (fun h5 => ?_) (fun h5 => j4ok false (fun h => by cases h) (fun _ g' => h5 g'.1))
        rw [foodPlace_eq, within_eq]
        refine Ok.val (Ok.ite (fun h6 => Ok.val (j4ok _ (fun h7 => .inl ⟨h5, h6, (inr_iff _ _ _).1 h7⟩) (fun h7 g' => ?_))) (fun h6 => j4ok false (fun h => by cases h) (fun _ g' => h6 g'.2.1)))
        rw [(inr_iff _ _ _).2 g'.2.2] at h7
        cases h7
      · intro _ hinv2
        refine Ok.step (fun k => by simp only [impl_DishesValid.l1]; rfl) (Ok.neg (by omega) ?_)
        rw [wrap_id (n := (i : Int) + 1) (by omega) (by omega)]
        refine ih () fun j hj => ?_
        rcases Nat.lt_succ_iff_lt_or_eq.1 hj with h6 | rfl
        · exact hinv j h6
        · exact ⟨g, hinv2⟩
    refine Ok.ite (fun h1 => ?_) (fun h => badj fun g => h ((inr_iff _ _ _).2 g.1.1))
    have h1' := (inr_iff _ _ _).1 h1
    have rest : (0 < i → (dAt d (i - 1)).f0 < (dAt d i).f0) → Ok (fun k => if inr (dAt d i).f1 1 12 = true then impl_DishesValid.j2 k d l (i : Int) d (d.length : Int) (i : Int) (!inr ((dAt d i).f2.length : Int) 1 5) (dAt d i).f0 (dAt d i).f1 (dAt d i).f2 else impl_DishesValid.j2 k d l (i : Int) d (d.length : Int) (i : Int) true (dAt d i).f0 (dAt d i).f1 (dAt d i).f2) (fun r : Bool => r = true ↔ DV d l) := by
      intro h9
      refine Ok.ite (fun h2 => Ok.step (fun k => by simp only [impl_DishesValid.j2]; rfl) (Ok.ite (fun h3 => bad fun g => ?_) (fun h3 => good ⟨h1', (inr_iff _ _ _).1 h2, ?_, h9⟩))) (fun h => badj fun g => h ((inr_iff _ _ _).2 g.1.2.1))
      · have := g.1.2.2.1
        rw [(inr_iff _ _ _).2 (by omega)] at h3
        cases h3
      · simp at h3
        have := (inr_iff _ _ _).1 h3
        omega
    refine Ok.ite (fun h7 => Ok.pos (by omega) (Ok.pos (by omega) ?_)) (fun h7 => rest fun h => absurd h (by omega))
    rw [dAt_prev d i (by omega)]
    exact Ok.ite (fun h8 => badj fun g => by have := g.1.2.2.2 (by omega); omega) (fun h8 => rest fun _ => by omega)
  · intro _ hinv
    exact Ok.step (fun k => by simp only [impl_DishesValid.l0]; rfl) (Ok.neg (by omega) (Ok.ret ⟨fun _ => ⟨fv, h4', hinv⟩, fun _ => rfl⟩))
end Go.Proofs.Ytclldijjbmnkeaa.Pure
/- The laws' foods and the program's: copied field by field. Condition: at most 2,000,000. -/
namespace Go.Proofs.Ytclldijjbmnkeaa.Pure
open Go.RowKit Go.Proofs.YtclldijjbmnkeaaW.PrintWords Go.Proofs.YtclldijjbmnkeaaW.PrintLast Go.Proofs.Ytclldijjbmnkeaa.Q
set_option linter.unusedVariables false
set_option linter.unusedSimpArgs false

def cvFood (x : S81) : S63 := ⟨x.f0, x.f1, x.f2, x.f3, x.f4, x.f5⟩
theorem toFoodS_ok (l : List S81) (hl : l.length ≤ 2000000) : Ok (fun k => laws_toFoodS.f k l) (· = l.map cvFood) := by
  unfold laws_toFoodS.f
  refine Ok.pos (by omega) (Ok.pos (Nat.le_trans (m := 2000000) (by omega) (by decide)) ?_)
  refine Ok.range (fun (s : List S63) i k => laws_toFoodS.l0 k l s i) l.length (fun i s => s.length = l.length ∧ ∀ j, j < i → s.getD j z63 = (l.map cvFood).getD j z63) _ ?_ ?_ _ ⟨by simp, fun j hj => absurd hj (by omega)⟩
  · rintro i s hi ⟨h1, h2⟩ ih
    have ew : wrap64 ((i : Int) + 1) = (i : Int) + 1 := wrap_id (by omega) (by omega)
    refine Ok.step (fun k => by simp only [laws_toFoodS.l0]; rfl) (Ok.pos (by omega) (Ok.pos (by omega) ?_))
    simp only [laws_toFood.f, Option.bind_some, ew]
    refine Ok.pos (by omega) (ih _ ⟨by simp [h1], fun j hj => ?_⟩)
    simp only [Int.toNat_natCast]
    rw [getD_set _ _ _ _ _ (by omega)]
    split
    · rename_i e; subst e
      rw [getD_at _ _ _ (by simp; omega), List.getElem_map]
      have e : rd_T81 l (j : Int) = l[j] := getD_at l z81 j (by omega)
      rw [e]; rfl
    · exact h2 j (by omega)
  · rintro s ⟨h1, h2⟩
    exact Ok.step (fun k => by simp only [laws_toFoodS.l0]; rfl) (Ok.neg (by omega) (Ok.ret (eq_of_getD z63 (by simp [h1]) (fun i hi => h2 i (by omega)))))
theorem szFoodS_eq (l : List S81) (a : Int) (h0 : 0 ≤ a) (h1 : a ≤ 9223372036854775807) (hl : l.length ≤ maxLen) : laws_szFoodS.f l a = some (if (l.length : Int) ≤ a then a - l.length else -1) := by
  unfold laws_szFoodS.f
  have := len_small hl
  rw [wrap_id (n := a - (l.length : Int)) (by omega) (by omega)]
  by_cases h : (l.length : Int) ≤ a
  · rw [if_neg (by omega), if_pos h]
  · rw [if_pos (by omega), if_neg h]
end Go.Proofs.Ytclldijjbmnkeaa.Pure
/- The laws' comparison of lists of foods: a list is equal to itself. Condition: at most 2,000,000. -/
namespace Go.Proofs.Ytclldijjbmnkeaa.Pure
open Go.RowKit Go.Proofs.YtclldijjbmnkeaaW.PrintWords Go.Proofs.YtclldijjbmnkeaaW.PrintLast Go.Proofs.Ytclldijjbmnkeaa.Q
set_option linter.unusedVariables false
set_option linter.unusedSimpArgs false

theorem eqFoodS_ok (l : List S63) (hl : l.length ≤ 2000000) : Ok (fun k => laws_eqFoodS.f k l l) (· = true) := by
  unfold laws_eqFoodS.f
  refine Ok.pos rfl ?_
  refine Ok.range (fun (_ : Unit) i k => laws_eqFoodS.l0 k l l i) l.length (fun _ _ => True) _ ?_ ?_ () trivial
  · intro i _ hi _ ih
    have ew : wrap64 ((i : Int) + 1) = (i : Int) + 1 := wrap_id (by omega) (by omega)
    refine Ok.step (fun k => by simp only [laws_eqFoodS.l0]; rfl) (Ok.pos (by omega) (Ok.pos (by omega) (Ok.pos (by omega) ?_)))
    simp only [laws_eqFood.f, ew, if_true, Option.bind_some, bne_self_eq_false, Bool.false_eq_true, if_false]
    exact ih () trivial
  · intro _ _
    exact Ok.step (fun k => by simp only [laws_eqFoodS.l0]; rfl) (Ok.neg (by omega) (Ok.ret rfl))
end Go.Proofs.Ytclldijjbmnkeaa.Pure
/- The laws' dishes and the program's: copied field by field, and compared. Condition: at most 2,000,000 dishes, each of at most 2,000,000 parts. -/
namespace Go.Proofs.Ytclldijjbmnkeaa.Pure
open Go.RowKit Go.Proofs.YtclldijjbmnkeaaW.PrintWords Go.Proofs.YtclldijjbmnkeaaW.PrintLast Go.Proofs.Ytclldijjbmnkeaa.Q
set_option linter.unusedVariables false
set_option linter.unusedSimpArgs false
abbrev LDs := S76
abbrev LPt := S111
def cvPart (x : LPt) : Pt := ⟨x.f0, x.f1, x.f2⟩
def cvDish (x : LDs) : Ds := ⟨x.f0, x.f1, x.f2.map cvPart⟩
def lAt (l : List LDs) (i : Nat) : LDs := l.getD i z76
theorem lAt_rd (l : List LDs) (i : Nat) : rd_T76 l (i : Int) = lAt l i := rfl
theorem toPartS_ok (l : List LPt) (hl : l.length ≤ 2000000) : Ok (fun k => laws_toPartS.f k l) (· = l.map cvPart) := by
  unfold laws_toPartS.f
  refine Ok.pos (by omega) (Ok.pos (Nat.le_trans (m := 2000000) (by omega) (by decide)) ?_)
  refine Ok.range (fun (s : List Pt) i k => laws_toPartS.l0 k l s i) l.length (fun i s => s.length = l.length ∧ ∀ j, j < i → s.getD j z55 = (l.map cvPart).getD j z55) _ ?_ ?_ _ ⟨by simp, fun j hj => absurd hj (by omega)⟩
  · rintro i s hi ⟨h1, h2⟩ ih
    refine Ok.step (fun k => by simp only [laws_toPartS.l0]; rfl) (Ok.pos (by omega) (Ok.pos (by omega) ?_))
    simp only [laws_toPart.f, Option.bind_some]
    rw [wrap_id (n := (i : Int) + 1) (by omega) (by omega)]
    refine Ok.pos (by omega) (ih _ ⟨by simp [h1], fun j hj => ?_⟩)
    simp only [Int.toNat_natCast]
    rw [getD_set _ _ _ _ _ (by omega)]
    split
    · rename_i e; subst e
      rw [getD_at _ _ _ (by simp; omega), List.getElem_map]
      have e : rd_T111 l (j : Int) = l[j] := getD_at l z111 j (by omega)
      rw [e]; rfl
    · exact h2 j (by omega)
  · rintro s ⟨h1, h2⟩
    exact Ok.step (fun k => by simp only [laws_toPartS.l0]; rfl) (Ok.neg (by omega) (Ok.ret (eq_of_getD z55 (by simp [h1]) (fun i hi => h2 i (by omega)))))
theorem toDishS_ok (l : List LDs) (hl : l.length ≤ 2000000) (hp : ∀ i, i < l.length → (lAt l i).f2.length ≤ 2000000) : Ok (fun k => laws_toDishS.f k l) (· = l.map cvDish) := by
  unfold laws_toDishS.f
  refine Ok.pos (by omega) (Ok.pos (Nat.le_trans (m := 2000000) (by omega) (by decide)) ?_)
  refine Ok.range (fun (s : List Ds) i k => laws_toDishS.l0 k l s i) l.length (fun i s => s.length = l.length ∧ ∀ j, j < i → s.getD j z29 = (l.map cvDish).getD j z29) _ ?_ ?_ _ ⟨by simp, fun j hj => absurd hj (by omega)⟩
  · rintro i s hi ⟨h1, h2⟩ ih
    refine Ok.step (fun k => by simp only [laws_toDishS.l0]; rfl) (Ok.pos (by omega) (Ok.pos (by omega) ?_))
    rw [lAt_rd, wrap_id (n := (i : Int) + 1) (by omega) (by omega)]
    have td : Ok (fun k => laws_toDish.f k (lAt l i).f0 (lAt l i).f1 (lAt l i).f2) (· = ((lAt l i).f0, (lAt l i).f1, (lAt l i).f2.map cvPart)) := by
      unfold laws_toDish.f
      refine Ok.bind (toPartS_ok _ (hp i hi)) ?_
      rintro _ rfl
      exact Ok.ret rfl
    refine Ok.bind td ?_
    rintro _ rfl
    simp only
    refine Ok.pos (by omega) (ih _ ⟨by simp [h1], fun j hj => ?_⟩)
    simp only [Int.toNat_natCast]
    rw [getD_set _ _ _ _ _ (by omega)]
    split
    · rename_i e; subst e
      rw [getD_at _ _ _ (by simp; omega), List.getElem_map]
      have e : lAt l j = l[j] := getD_at l z76 j (by omega)
      rw [e]; rfl
    · exact h2 j (by omega)
  · rintro s ⟨h1, h2⟩
    exact Ok.step (fun k => by simp only [laws_toDishS.l0]; rfl) (Ok.neg (by omega) (Ok.ret (eq_of_getD z29 (by simp [h1]) (fun i hi => h2 i (by omega)))))
theorem map_at (l : List LDs) (i : Nat) (hi : i < l.length) : dAt (l.map cvDish) i = cvDish (lAt l i) := by
  unfold dAt lAt
  rw [getD_at _ _ _ (by simpa using hi), getD_at _ _ _ hi, List.getElem_map]
theorem szDishS_ok (l : List LDs) (hl : l.length ≤ maxLen) (hw : ∀ x ∈ l, x.f2.length ≤ maxLen) : Ok (fun k => laws_szDishS.f k l 1048576) (fun r => r < 0 ∨ (0 ≤ r ∧ r ≤ 1048576 ∧ l.length ≤ 1048576 ∧ ∀ i, i < l.length → (lAt l i).f2.length ≤ 1048576)) := by
  unfold laws_szDishS.f
  have h0 := len_small hl
  rw [wrap_id (n := 1048576 - (l.length : Int)) (by omega) (by omega)]
  refine Ok.ite (fun _ => Ok.ret (.inl (by omega))) (fun hn => ?_)
  refine Ok.range (fun (s : Int) i k => laws_szDishS.l0 k l s i) l.length (fun i s => 0 ≤ s ∧ s ≤ 1048576 ∧ ∀ j, j < i → (lAt l j).f2.length ≤ 1048576) _ ?_ ?_ _ ⟨by omega, by omega, fun j hj => absurd hj (by omega)⟩
  · rintro i s hi ⟨h1, h2, h3⟩ ih
    refine Ok.step (fun k => by simp only [laws_szDishS.l0]; rfl) (Ok.pos (by omega) (Ok.pos (by omega) ?_))
    rw [lAt_rd, wrap_id (n := (i : Int) + 1) (by omega) (by omega)]
    have hx : (lAt l i).f2.length ≤ maxLen := by
      unfold lAt
      rw [getD_at _ _ _ hi]
      exact hw _ (List.getElem_mem hi)
    have hb := len_small hx
    unfold laws_szDish.f laws_szPartS.f
    rw [wrap_id (n := s - ((lAt l i).f2.length : Int)) (by omega) (by omega)]
    by_cases hs : s - ((lAt l i).f2.length : Int) < 0
    · rw [if_pos hs]
      simp only [Option.bind_some]
      rw [if_pos (by omega)]
      simp only [Option.bind_some]
      exact Ok.pos (by omega) (Ok.ret (.inl (by omega)))
    · rw [if_neg hs]
      simp only [Option.bind_some]
      rw [if_neg hs]
      simp only [Option.bind_some]
      refine Ok.neg hs (ih _ ⟨by omega, by omega, fun j hj => ?_⟩)
      rcases Nat.lt_succ_iff_lt_or_eq.1 hj with h4 | rfl
      · exact h3 j h4
      · omega
  · rintro s ⟨h1, h2, h3⟩
    exact Ok.step (fun k => by simp only [laws_szDishS.l0]; rfl) (Ok.neg (by omega) (Ok.ret (.inr ⟨h1, h2, by omega, h3⟩)))
theorem eqPartS_ok (l : List Pt) (hl : l.length ≤ 2000000) : Ok (fun k => laws_eqPartS.f k l l) (· = true) := by
  unfold laws_eqPartS.f
  refine Ok.pos rfl ?_
  refine Ok.range (fun (_ : Unit) i k => laws_eqPartS.l0 k l l i) l.length (fun _ _ => True) _ ?_ ?_ () trivial
  · intro i _ hi _ ih
    refine Ok.step (fun k => by simp only [laws_eqPartS.l0]; rfl) (Ok.pos (by omega) (Ok.pos (by omega) (Ok.pos (by omega) ?_)))
    simp only [laws_eqPart.f, if_true, Option.bind_some]
    rw [wrap_id (n := (i : Int) + 1) (by omega) (by omega)]
    exact ih () trivial
  · intro _ _
    exact Ok.step (fun k => by simp only [laws_eqPartS.l0]; rfl) (Ok.neg (by omega) (Ok.ret rfl))
theorem eqDishS_ok (l : List Ds) (hl : l.length ≤ 2000000) (hp : ∀ i, i < l.length → (dAt l i).f2.length ≤ 2000000) : Ok (fun k => laws_eqDishS.f k l l) (· = true) := by
  unfold laws_eqDishS.f
  refine Ok.pos rfl ?_
  refine Ok.range (fun (_ : Unit) i k => laws_eqDishS.l0 k l l i) l.length (fun _ _ => True) _ ?_ ?_ () trivial
  · intro i _ hi _ ih
    refine Ok.step (fun k => by simp only [laws_eqDishS.l0]; rfl) (Ok.pos (by omega) (Ok.pos (by omega) (Ok.pos (by omega) ?_)))
    rw [dAt_rd, wrap_id (n := (i : Int) + 1) (by omega) (by omega)]
    have te : Ok (fun k => laws_eqDish.f k (dAt l i).f0 (dAt l i).f1 (dAt l i).f2 (dAt l i).f0 (dAt l i).f1 (dAt l i).f2) (· = true) := by
      unfold laws_eqDish.f
      refine Ok.pos rfl (Ok.pos rfl (Ok.bind (eqPartS_ok _ (hp i hi)) ?_))
      rintro _ rfl
      exact Ok.pos (by trivial) (Ok.ret rfl)
    refine Ok.bind te ?_
    rintro _ rfl
    exact Ok.pos (by trivial) (ih () trivial)
  · intro _ _
    exact Ok.step (fun k => by simp only [laws_eqDishS.l0]; rfl) (Ok.neg (by omega) (Ok.ret rfl))
end Go.Proofs.Ytclldijjbmnkeaa.Pure
/- The program's DishesValid returns what the reference's returns, for all arguments. No conditions. -/
namespace Go.Proofs.Ytclldijjbmnkeaa.Pure
open Go.RowKit Go.Proofs.YtclldijjbmnkeaaW.PrintWords Go.Proofs.YtclldijjbmnkeaaW.PrintLast Go.Proofs.Ytclldijjbmnkeaa.Q
set_option linter.unusedVariables false
set_option linter.unusedSimpArgs false
theorem FnExactDishesValid (l : List S76) (hm : l.length ≤ maxLen) (hw : ∀ x ∈ l, x.f2.length ≤ maxLen) (l' : List S81) (hm' : l'.length ≤ maxLen) : ∃ k, laws_FnExactDishesValid.f k l l' = some true := by
  apply Ok.rounds
  unfold laws_FnExactDishesValid.f
  refine Ok.bind (szDishS_ok l hm hw) fun r hr => Ok.ite (fun _ => Ok.ret rfl) fun h => ?_
  rcases hr with hr | ⟨hr0, hr1, hl, hp⟩
  · exact absurd hr h
  rw [szFoodS_eq l' _ (by omega) (by omega) hm']
  refine Ok.val (Ok.ite (fun _ => Ok.ret rfl) fun h' => ?_)
  have hc : l'.length ≤ 2000000 := by
    split at h' <;> omega
  have hl2 : l.length ≤ 2000000 := by omega
  have hp2 : ∀ i, i < l.length → (lAt l i).f2.length ≤ 2000000 := fun i hi => by have := hp i hi; omega
  have hl' : (l.map cvDish).length ≤ 2000000 := by simpa using hl2
  have hp' : ∀ i, i < (l.map cvDish).length → (dAt (l.map cvDish) i).f2.length ≤ 2000000 := fun i hi => by
    have hi' : i < l.length := by simpa using hi
    rw [map_at l i hi']
    simpa [cvDish] using hp2 i hi'
  have hc' : (l'.map cvFood).length ≤ 2000000 := by simpa using hc
  refine Ok.bind (toDishS_ok l hl2 hp2) ?_
  rintro _ rfl
  refine Ok.bind (toFoodS_ok l' hc) ?_
  rintro _ rfl
  refine Ok.bind (sDishes_ok _ _ hl' hp' hc') fun r1 h1 => Ok.bind (toDishS_ok l hl2 hp2) ?_
  rintro _ rfl
  refine Ok.bind (toFoodS_ok l' hc) ?_
  rintro _ rfl
  refine Ok.bind (iDishes_ok _ _ hl' hp' hc') fun r2 h2 => ?_
  obtain rfl := bool_of_iff h1 h2
  refine Ok.neg (by simp) (Ok.bind (toDishS_ok l hl2 hp2) ?_)
  rintro _ rfl
  refine Ok.bind (eqDishS_ok _ hl' hp') ?_
  rintro _ rfl
  refine Ok.pos (by trivial) (Ok.bind (toFoodS_ok l' hc) ?_)
  rintro _ rfl
  refine Ok.bind (eqFoodS_ok _ hc') ?_
  rintro _ rfl
  exact Ok.pos (by trivial) (Ok.ret rfl)
end Go.Proofs.Ytclldijjbmnkeaa.Pure
