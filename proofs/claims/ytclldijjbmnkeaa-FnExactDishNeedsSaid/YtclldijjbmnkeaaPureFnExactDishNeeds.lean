/- The program's DishNeeds returns what the reference's returns, for all arguments. No conditions. -/
import Derived.Test.YtclldijjbmnkeaaWMore
import Derived.Test.YtclldijjbmnkeaaQx0
import Derived.Test.YtclldijjbmnkeaaQx10
import Derived.Test.YtclldijjbmnkeaaQx11
import Derived.Test.YtclldijjbmnkeaaQx12
import Derived.Test.YtclldijjbmnkeaaQx16
import Derived.Test.YtclldijjbmnkeaaQx19
import Derived.Test.YtclldijjbmnkeaaQx21
import Derived.Test.YtclldijjbmnkeaaQx22
import Derived.Test.YtclldijjbmnkeaaQx23
import Derived.Test.YtclldijjbmnkeaaQx5
import Derived.Test.YtclldijjbmnkeaaQx7
import Derived.Test.YtclldijjbmnkeaaQx9
/- Plain logic for printed functions: from some number of rounds on a function answers, and its answer fits. No conditions. -/
namespace Go.Proofs.Ytclldijjbmnkeaa.Pure
open Go.RowKit Go.Proofs.YtclldijjbmnkeaaW.PrintWords Go.Proofs.YtclldijjbmnkeaaW.PrintLast

/-- g answers from some number of rounds on, and the answer is as Q says. -/
def Ok {α : Type} (g : Nat → Option α) (Q : α → Prop) : Prop := ∃ r, Ev g r ∧ Q r
theorem Ok.ret {α : Type} {r : α} {Q : α → Prop} (h : Q r) : Ok (fun _ => some r) Q := ⟨r, Ev.now r, h⟩
theorem Ok.bind {α β : Type} {g : Nat → Option α} {f : Nat → α → Option β} {P : α → Prop} {Q : β → Prop} (h : Ok g P) (k : ∀ a, P a → Ok (fun n => f n a) Q) : Ok (fun n => (g n).bind (f n)) Q := by
  obtain ⟨a, ha, hp⟩ := h
  obtain ⟨r, hr, hq⟩ := k a hp
  exact ⟨r, Ev.bind ha hr, hq⟩
theorem Ok.val {α β : Type} {a : α} {f : Nat → α → Option β} {Q : β → Prop} (h : Ok (fun n => f n a) Q) : Ok (fun n => (some a).bind (f n)) Q := h
theorem Ok.pos {α : Type} {c : Prop} [Decidable c] {t e : Nat → Option α} {Q : α → Prop} (hc : c) (h : Ok t Q) : Ok (fun n => if c then t n else e n) Q := by simpa only [if_pos hc] using h
theorem Ok.neg {α : Type} {c : Prop} [Decidable c] {t e : Nat → Option α} {Q : α → Prop} (hc : ¬ c) (h : Ok e Q) : Ok (fun n => if c then t n else e n) Q := by simpa only [if_neg hc] using h
theorem Ok.ite {α : Type} {c : Prop} [Decidable c] {t e : Nat → Option α} {Q : α → Prop} (h : c → Ok t Q) (k : ¬ c → Ok e Q) : Ok (fun n => if c then t n else e n) Q := by
  by_cases hc : c
  · exact Ok.pos hc (h hc)
  · exact Ok.neg hc (k hc)
theorem Ok.step {α : Type} {g f : Nat → Option α} {Q : α → Prop} (h : ∀ k, g (k + 1) = f k) (k : Ok f Q) : Ok g Q := by
  obtain ⟨r, hr, hq⟩ := k
  exact ⟨r, Ev.step h hr, hq⟩
theorem Ok.congr {α : Type} {g f : Nat → Option α} {Q : α → Prop} (h : ∀ k, g k = f k) (k : Ok f Q) : Ok g Q := by
  obtain ⟨r, hr, hq⟩ := k
  exact ⟨r, Ev.congr h hr, hq⟩
theorem Ok.and {α : Type} {g : Nat → Option α} {P Q : α → Prop} (h : Ok g P) (k : Ok g Q) : Ok g (fun a => P a ∧ Q a) := by
  obtain ⟨r, ⟨K, hr⟩, hp⟩ := h
  obtain ⟨r', ⟨K', hr'⟩, hq⟩ := k
  have h1 := hr (max K K') (by omega)
  have h2 := hr' (max K K') (by omega)
  obtain rfl : r = r' := by rw [h1] at h2; injection h2
  exact ⟨r, ⟨K, hr⟩, hp, hq⟩
theorem Ok.rounds {α : Type} {g : Nat → Option α} {r : α} (h : Ok g (· = r)) : ∃ k, g k = some r := by
  obtain ⟨_, hr, rfl⟩ := h
  exact hr.rounds
theorem wrap_id {n : Int} (h0 : -9223372036854775808 ≤ n) (h1 : n ≤ 9223372036854775807) : wrap64 n = n := by unfold wrap64; omega
/-- A loop that counts an index up to n, with what else it carries in s. -/
theorem Ok.range {σ ρ : Type} (L : σ → Int → Nat → Option ρ) (n : Nat) (Inv : Nat → σ → Prop) (Q : ρ → Prop)
    (step : ∀ (i : Nat) (s : σ), i < n → Inv i s → (∀ s', Inv (i + 1) s' → Ok (L s' ((i : Int) + 1)) Q) → Ok (L s (i : Int)) Q)
    (last : ∀ s, Inv n s → Ok (L s (n : Int)) Q) : ∀ s, Inv 0 s → Ok (L s 0) Q := by
  have key : ∀ d i, i + d = n → ∀ s, Inv i s → Ok (L s (i : Int)) Q := by
    intro d
    induction d with
    | zero => intro i hi s hs; obtain rfl : i = n := (by omega); exact last s hs
    | succ d ih =>
      intro i hi s hs
      refine step i s (by omega) hs fun s' hs' => ?_
      have := ih (i + 1) (by omega) s' hs'
      rwa [show ((i + 1 : Nat) : Int) = (i : Int) + 1 by omega] at this
  exact fun s hs => key n 0 (by omega) s hs
theorem getD_at {α : Type} (l : List α) (d : α) (i : Nat) (h : i < l.length) : l.getD i d = l[i] := by
  rw [List.getD_eq_getElem?_getD, List.getElem?_eq_getElem h, Option.getD_some]
theorem len_small {α : Type} {l : List α} (h : l.length ≤ maxLen) : (l.length : Int) ≤ 9223372036854775807 := by unfold maxLen at h; omega
end Go.Proofs.Ytclldijjbmnkeaa.Pure
/- Lists, read and written element by element. No conditions. -/
namespace Go.Proofs.Ytclldijjbmnkeaa.Pure
open Go.RowKit Go.Proofs.YtclldijjbmnkeaaW.PrintWords Go.Proofs.YtclldijjbmnkeaaW.PrintLast
set_option linter.unusedVariables false
set_option linter.unusedSimpArgs false

theorem rd_nat (l : List Int) (i : Nat) : rd l (i : Int) = l.getD i 0 := rfl
theorem eq_of_getD {α : Type} {a b : List α} (d : α) (h : a.length = b.length) (k : ∀ i, i < a.length → a.getD i d = b.getD i d) : a = b := by
  refine List.ext_getElem h fun i h1 h2 => ?_
  have := k i h1
  rwa [getD_at _ _ _ h1, getD_at _ _ _ h2] at this
theorem getD_set {α : Type} (l : List α) (d v : α) (i j : Nat) (hi : i < l.length) : (l.set i v).getD j d = if j = i then v else l.getD j d := by
  rw [List.getD_eq_getElem?_getD, List.getElem?_set]
  by_cases h : i = j
  · subst h; simp [hi]
  · rw [if_neg h, if_neg (fun e => h e.symm), ← List.getD_eq_getElem?_getD]
end Go.Proofs.Ytclldijjbmnkeaa.Pure
/- The program's dishes, as lists. No conditions. -/
namespace Go.Proofs.Ytclldijjbmnkeaa.Pure
open Go.RowKit Go.Proofs.YtclldijjbmnkeaaW.PrintWords Go.Proofs.YtclldijjbmnkeaaW.PrintLast Go.Proofs.Ytclldijjbmnkeaa.Q
set_option linter.unusedVariables false
set_option linter.unusedSimpArgs false
abbrev Pt := S55
abbrev Ds := S29
def dAt (l : List Ds) (i : Nat) : Ds := l.getD i z29
theorem dAt_rd (l : List Ds) (i : Nat) : rd_T29 l (i : Int) = dAt l i := rfl
end Go.Proofs.Ytclldijjbmnkeaa.Pure
/- The place of a dish, in the program and in the reference. Condition: at most 2,000,000 dishes. -/
namespace Go.Proofs.Ytclldijjbmnkeaa.Pure
open Go.RowKit Go.Proofs.YtclldijjbmnkeaaW.PrintWords Go.Proofs.YtclldijjbmnkeaaW.PrintLast Go.Proofs.Ytclldijjbmnkeaa.Q
set_option linter.unusedVariables false
set_option linter.unusedSimpArgs false
def dPl (l : List Ds) (id : Int) : Int := idxOf (fun x => x.f0 == id) l
theorem iDFind_eq (l : List Ds) (id : Int) : impl_DishesFind.f l id = some (dPl l id) := rfl
theorem dPl_none {l : List Ds} {id : Int} (h : ∀ j, j < l.length → (dAt l j).f0 ≠ id) : dPl l id = -1 := idxOf_miss _ l z29 fun j hj => beq_eq_false_iff_ne.2 (h j hj)
theorem dPl_hit {l : List Ds} {id : Int} {k : Nat} (hk : k < l.length) (h : (dAt l k).f0 = id) (hn : ∀ j, j < k → (dAt l j).f0 ≠ id) : dPl l id = (k : Int) := idxOf_hit _ l z29 k hk (beq_iff_eq.2 h) fun j hj => beq_eq_false_iff_ne.2 (hn j hj)
theorem dPl_is (l : List Ds) (id : Int) : (dPl l id = -1 ∧ ∀ j, j < l.length → (dAt l j).f0 ≠ id) ∨ ∃ k : Nat, dPl l id = k ∧ k < l.length ∧ (dAt l k).f0 = id ∧ ∀ j, j < k → (dAt l j).f0 ≠ id := by
  have key : ∀ d i, i + d = l.length → (∀ j, j < i → (dAt l j).f0 ≠ id) → (dPl l id = -1 ∧ ∀ j, j < l.length → (dAt l j).f0 ≠ id) ∨ ∃ k : Nat, dPl l id = k ∧ k < l.length ∧ (dAt l k).f0 = id ∧ ∀ j, j < k → (dAt l j).f0 ≠ id := by
    intro d
    induction d with
    | zero =>
      intro i hi h
      exact .inl ⟨dPl_none fun j hj => h j (by omega), fun j hj => h j (by omega)⟩
    | succ d ih =>
      intro i hi h
      by_cases e : (dAt l i).f0 = id
      · exact .inr ⟨i, dPl_hit (by omega) e h, by omega, e, h⟩
      · refine ih (i + 1) (by omega) fun j hj => ?_
        rcases Nat.lt_succ_iff_lt_or_eq.1 hj with h1 | rfl
        · exact h j h1
        · exact e
  exact key l.length 0 (by omega) fun j hj => absurd hj (by omega)
theorem l11Find_ok (l : List Ds) (id : Int) (hl : l.length ≤ 2000000) : Ok (fun k => spec_l11Find.f k l id) (· = dPl l id) := by
  unfold spec_l11Find.f
  refine Ok.range (fun (_ : Unit) i k => spec_l11Find.l0 k l id i) l.length (fun i _ => ∀ j, j < i → (dAt l j).f0 ≠ id) _ ?_ ?_ () (fun j hj => absurd hj (by omega))
  · intro i _ hi hinv ih
    refine Ok.step (fun k => by simp only [spec_l11Find.l0]; rfl) (Ok.pos (by omega) (Ok.pos (by omega) ?_))
    rw [dAt_rd, wrap_id (n := (i : Int) + 1) (by omega) (by omega)]
    refine Ok.ite (fun h => Ok.ret (dPl_hit hi h hinv).symm) (fun h => ih () fun j hj => ?_)
    rcases Nat.lt_succ_iff_lt_or_eq.1 hj with h1 | rfl
    · exact hinv j h1
    · exact h
  · intro _ hinv
    exact Ok.step (fun k => by simp only [spec_l11Find.l0]; rfl) (Ok.neg (by omega) (Ok.ret (dPl_none hinv).symm))
end Go.Proofs.Ytclldijjbmnkeaa.Pure
/- Ranges, and the bits of sets. No conditions. -/
namespace Go.Proofs.Ytclldijjbmnkeaa.Pure
open Go.RowKit Go.Proofs.YtclldijjbmnkeaaW.PrintWords Go.Proofs.YtclldijjbmnkeaaW.PrintLast
set_option linter.unusedVariables false
set_option linter.unusedSimpArgs false

def inr (a lo hi : Int) : Bool := decide (lo ≤ a ∧ a ≤ hi)
theorem inr_iff (a lo hi : Int) : inr a lo hi = true ↔ lo ≤ a ∧ a ≤ hi := by simp [inr]
end Go.Proofs.Ytclldijjbmnkeaa.Pure
/- The reference's ranges and sets. No conditions. -/
namespace Go.Proofs.Ytclldijjbmnkeaa.Pure
open Go.RowKit Go.Proofs.YtclldijjbmnkeaaW.PrintWords Go.Proofs.YtclldijjbmnkeaaW.PrintLast Go.Proofs.Ytclldijjbmnkeaa.Q
set_option linter.unusedVariables false
set_option linter.unusedSimpArgs false

theorem l6In_eq (a lo hi : Int) : spec_l6In.f a lo hi = some (inr a lo hi) := by
  unfold spec_l6In.f inr
  by_cases h : a ≥ lo
  · rw [if_pos h]; simp [h]
  · rw [if_neg h]; simp; omega
theorem l3Set_eq (a : Int) : spec_l3Set.f a = some (inr a 0 255) := by simp only [spec_l3Set.f, l6In_eq, Option.bind_some]
end Go.Proofs.Ytclldijjbmnkeaa.Pure
/- The program's ranges, sets and kinds. No conditions. -/
namespace Go.Proofs.Ytclldijjbmnkeaa.Pure
open Go.RowKit Go.Proofs.YtclldijjbmnkeaaW.PrintWords Go.Proofs.YtclldijjbmnkeaaW.PrintLast Go.Proofs.Ytclldijjbmnkeaa.Q
set_option linter.unusedVariables false
set_option linter.unusedSimpArgs false

theorem within_eq (a lo hi : Int) : impl_within.f a lo hi = some (inr a lo hi) := by
  unfold impl_within.f inr
  by_cases h : a ≥ lo
  · rw [if_pos h]; simp [h]
  · rw [if_neg h]; simp; omega
theorem isSet_eq (a : Int) : impl_isSet.f a = some (inr a 0 255) := by simp only [impl_isSet.f, within_eq, Option.bind_some]
theorem isKind_eq (a : Int) : impl_isKind.f a = some (inr a 1 5) := by simp only [impl_isKind.f, within_eq, Option.bind_some]
end Go.Proofs.Ytclldijjbmnkeaa.Pure
/- When foods are valid, in the program and in the reference. Condition: at most 2,000,000. -/
namespace Go.Proofs.Ytclldijjbmnkeaa.Pure
open Go.RowKit Go.Proofs.YtclldijjbmnkeaaW.PrintWords Go.Proofs.YtclldijjbmnkeaaW.PrintLast Go.Proofs.Ytclldijjbmnkeaa.Q
set_option linter.unusedVariables false
set_option linter.unusedSimpArgs false
abbrev Fd := S63
def fAt (l : List Fd) (i : Nat) : Fd := l.getD i z63
theorem fAt_rd (l : List Fd) (i : Nat) : rd_T63 l (i : Int) = fAt l i := rfl
theorem fAt_prev (l : List Fd) (i : Nat) (h : 0 < i) : rd_T63 l ((i : Int) - 1) = fAt l (i - 1) := by
  unfold rd_T63 fAt
  rw [show ((i : Int) - 1).toNat = i - 1 by omega]
def fB (x : Fd) : Bool := inr x.f0 1 20 && inr x.f1 1 3 && inr x.f2 0 255 && inr x.f3 1 5 && inr x.f4 0 999 && inr x.f5 0 999
theorem fB_iff (x : Fd) : fB x = true ↔ (1 ≤ x.f0 ∧ x.f0 ≤ 20) ∧ (1 ≤ x.f1 ∧ x.f1 ≤ 3) ∧ (0 ≤ x.f2 ∧ x.f2 ≤ 255) ∧ (1 ≤ x.f3 ∧ x.f3 ≤ 5) ∧ (0 ≤ x.f4 ∧ x.f4 ≤ 999) ∧ 0 ≤ x.f5 ∧ x.f5 ≤ 999 := by simp [fB, inr_iff, and_assoc]
/-- element i is as it must be -/
def fGood (l : List Fd) (i : Nat) : Prop := fB (fAt l i) = true ∧ (0 < i → (fAt l (i - 1)).f0 < (fAt l i).f0)
/-- foods are valid -/
def FV (l : List Fd) : Prop := l.length ≤ 6 ∧ ∀ i, i < l.length → fGood l i
theorem isId_eq (a : Int) : impl_isId.f a = some (inr a 1 20) := by simp only [impl_isId.f, within_eq, Option.bind_some]
theorem sFoods_ok (l : List Fd) (hl : l.length ≤ 2000000) : Ok (fun k => spec_FoodsValid.f k l) (fun r => r = true ↔ FV l) := by
  unfold spec_FoodsValid.f
  refine Ok.range (fun (_ : Unit) i k => spec_FoodsValid.l0 k l i) l.length (fun i _ => ∀ j, j < i → fGood l j) _ ?_ ?_ () (fun j hj => absurd hj (by omega))
  · intro i _ hi hinv ih
    refine Ok.step (fun k => by simp only [spec_FoodsValid.l0]; rfl) (Ok.pos (by omega) (Ok.pos (by omega) ?_))
    simp only [l6In_eq, l3Set_eq, Option.bind_some, fAt_rd]
    have bad : ¬ fGood l i → Ok (fun k => spec_FoodsValid.j1 k l (i : Int) true (fAt l i).f0 (fAt l i).f1 (fAt l i).f2 (fAt l i).f3 (fAt l i).f4 (fAt l i).f5) (fun r : Bool => r = true ↔ FV l) := fun h => Ok.step (fun k => by simp only [spec_FoodsValid.j1]; rfl) (Ok.pos (by trivial) (Ok.ret ⟨fun h' => (by cases h'), fun h' => absurd (h'.2 i hi) h⟩))
    have good : fGood l i → Ok (fun k => spec_FoodsValid.l0 k l ((i : Int) + 1)) (fun r : Bool => r = true ↔ FV l) := fun h => ih () (fun j hj => by
      rcases Nat.lt_succ_iff_lt_or_eq.1 hj with h1 | rfl
      · exact hinv j h1
      · exact h)
    have fb : inr (fAt l i).f0 1 20 = true → inr (fAt l i).f1 1 3 = true → inr (fAt l i).f2 0 255 = true → inr (fAt l i).f3 1 5 = true → inr (fAt l i).f4 0 999 = true → inr (fAt l i).f5 0 999 = true → fB (fAt l i) = true := fun h1 h2 h3 h4 h5 h6 => by simp [fB, h1, h2, h3, h4, h5, h6]
    refine Ok.ite (fun h1 => Ok.ite (fun h2 => Ok.ite (fun h3 => Ok.ite (fun h4 => Ok.ite (fun h5 => ?_) (fun h => bad fun g => h (by have := (fB_iff _).1 g.1; exact (inr_iff _ _ _).2 (by omega)))) (fun h => bad fun g => h (by have := (fB_iff _).1 g.1; exact (inr_iff _ _ _).2 (by omega)))) (fun h => bad fun g => h (by have := (fB_iff _).1 g.1; exact (inr_iff _ _ _).2 (by omega)))) (fun h => bad fun g => h (by have := (fB_iff _).1 g.1; exact (inr_iff _ _ _).2 (by omega)))) (fun h => bad fun g => h (by have := (fB_iff _).1 g.1; exact (inr_iff _ _ _).2 (by omega)))
    cases h6 : inr (fAt l i).f5 0 999 with
    | false => exact bad fun g => by have := (fB_iff _).1 g.1; rw [(inr_iff _ _ _).2 this.2.2.2.2.2] at h6; cases h6
    | true =>
      refine Ok.step (fun k => by simp only [spec_FoodsValid.j1]; rfl) (Ok.neg (by simp) ?_)
      rw [wrap_id (n := (i : Int) + 1) (by omega) (by omega), wrap_id (n := (i : Int) - 1) (by omega) (by omega)]
      refine Ok.ite (fun h7 => Ok.pos (by omega) (Ok.pos (by omega) ?_)) (fun h7 => good ⟨fb h1 h2 h3 h4 h5 h6, fun h => absurd h (by omega)⟩)
      rw [fAt_prev l i (by omega)]
      exact Ok.ite (fun h8 => Ok.ret ⟨fun h' => (by cases h'), fun h' => by have := (h'.2 i hi).2 (by omega); omega⟩) (fun h8 => good ⟨fb h1 h2 h3 h4 h5 h6, fun _ => by omega⟩)
  · intro _ hinv
    refine Ok.step (fun k => by simp only [spec_FoodsValid.l0]; rfl) (Ok.neg (by omega) (Ok.ret ?_))
    rw [decide_eq_true_iff]
    exact ⟨fun h => ⟨by omega, hinv⟩, fun h => by have := h.1; omega⟩
theorem iFoods_ok (l : List Fd) (hl : l.length ≤ 2000000) : Ok (fun k => impl_FoodsValid.f k l) (fun r => r = true ↔ FV l) := by
  unfold impl_FoodsValid.f
  refine Ok.range (fun (_ : Unit) i k => impl_FoodsValid.l0 k l l (l.length : Int) i) l.length (fun i _ => ∀ j, j < i → fGood l j) _ ?_ ?_ () (fun j hj => absurd hj (by omega))
  · intro i _ hi hinv ih
    refine Ok.step (fun k => by simp only [impl_FoodsValid.l0]; rfl) (Ok.pos (by omega) (Ok.pos (by omega) (Ok.pos (by omega) ?_)))
    have ew : wrap64 ((i : Int) + 1) = (i : Int) + 1 := wrap_id (by omega) (by omega)
    have ew' : wrap64 ((i : Int) - 1) = (i : Int) - 1 := wrap_id (by omega) (by omega)
    simp only [isId_eq, within_eq, isSet_eq, isKind_eq, Option.bind_some, ew, ew', fAt_rd]
    have bad : ¬ fGood l i → Ok (fun _ => some false) (fun r : Bool => r = true ↔ FV l) := fun h => Ok.ret ⟨fun h' => (by cases h'), fun h' => absurd (h'.2 i hi) h⟩
    have good : fGood l i → Ok (fun k => impl_FoodsValid.l0 k l l (l.length : Int) ((i : Int) + 1)) (fun r : Bool => r = true ↔ FV l) := fun h => ih () (fun j hj => by
      rcases Nat.lt_succ_iff_lt_or_eq.1 hj with h1 | rfl
      · exact hinv j h1
      · exact h)
    have fb : inr (fAt l i).f0 1 20 = true → inr (fAt l i).f1 1 3 = true → inr (fAt l i).f2 0 255 = true → inr (fAt l i).f3 1 5 = true → inr (fAt l i).f4 0 999 = true → inr (fAt l i).f5 0 999 = true → fB (fAt l i) = true := fun h1 h2 h3 h4 h5 h6 => by simp [fB, h1, h2, h3, h4, h5, h6]
    refine Ok.ite (fun h1 => Ok.ite (fun h2 => Ok.ite (fun h3 => Ok.ite (fun h4 => Ok.ite (fun h5 => Ok.ite (fun h6 => Ok.ite (fun h7 => ?_) (fun h7 => good ⟨fb h1 h2 h3 h4 h5 h6, fun h => absurd h (by omega)⟩)) (fun h => bad fun g => h (by have := (fB_iff _).1 g.1; exact (inr_iff _ _ _).2 (by omega)))) (fun h => bad fun g => h (by have := (fB_iff _).1 g.1; exact (inr_iff _ _ _).2 (by omega)))) (fun h => bad fun g => h (by have := (fB_iff _).1 g.1; exact (inr_iff _ _ _).2 (by omega)))) (fun h => bad fun g => h (by have := (fB_iff _).1 g.1; exact (inr_iff _ _ _).2 (by omega)))) (fun h => bad fun g => h (by have := (fB_iff _).1 g.1; exact (inr_iff _ _ _).2 (by omega)))) (fun h => bad fun g => h (by have := (fB_iff _).1 g.1; exact (inr_iff _ _ _).2 (by omega)))
    refine Ok.pos (by omega) (Ok.pos (by omega) ?_)
    simp only [fAt_prev l i (by omega)]
    exact Ok.ite (fun h8 => bad fun h => by have := h.2 (by omega); omega) (fun h8 => good ⟨fb h1 h2 h3 h4 h5 h6, fun _ => by omega⟩)
  · intro _ hinv
    refine Ok.step (fun k => by simp only [impl_FoodsValid.l0]; rfl) (Ok.neg (by omega) (Ok.ret ?_))
    rw [decide_eq_true_iff]
    exact ⟨fun h => ⟨by omega, hinv⟩, fun h => by have := h.1; omega⟩
end Go.Proofs.Ytclldijjbmnkeaa.Pure
/- The place of a food, in the program and in the reference. Condition: at most 2,000,000 foods. -/
namespace Go.Proofs.Ytclldijjbmnkeaa.Pure
open Go.RowKit Go.Proofs.YtclldijjbmnkeaaW.PrintWords Go.Proofs.YtclldijjbmnkeaaW.PrintLast Go.Proofs.Ytclldijjbmnkeaa.Q
set_option linter.unusedVariables false
set_option linter.unusedSimpArgs false
def fPl (l : List Fd) (id : Int) : Int := idxOf (fun x => x.f0 == id) l
theorem foodPlace_eq (l : List Fd) (id : Int) : impl_foodPlace.f l id = some (fPl l id) := rfl
theorem fPl_none {l : List Fd} {id : Int} (h : ∀ j, j < l.length → (fAt l j).f0 ≠ id) : fPl l id = -1 := idxOf_miss _ l z63 fun j hj => beq_eq_false_iff_ne.2 (h j hj)
theorem fPl_hit {l : List Fd} {id : Int} {k : Nat} (hk : k < l.length) (h : (fAt l k).f0 = id) (hn : ∀ j, j < k → (fAt l j).f0 ≠ id) : fPl l id = (k : Int) := idxOf_hit _ l z63 k hk (beq_iff_eq.2 h) fun j hj => beq_eq_false_iff_ne.2 (hn j hj)
theorem fPl_is (l : List Fd) (id : Int) : (fPl l id = -1 ∧ ∀ j, j < l.length → (fAt l j).f0 ≠ id) ∨ ∃ k : Nat, fPl l id = k ∧ k < l.length ∧ (fAt l k).f0 = id ∧ ∀ j, j < k → (fAt l j).f0 ≠ id := by
  have key : ∀ d i, i + d = l.length → (∀ j, j < i → (fAt l j).f0 ≠ id) → (fPl l id = -1 ∧ ∀ j, j < l.length → (fAt l j).f0 ≠ id) ∨ ∃ k : Nat, fPl l id = k ∧ k < l.length ∧ (fAt l k).f0 = id ∧ ∀ j, j < k → (fAt l j).f0 ≠ id := by
    intro d
    induction d with
    | zero =>
      intro i hi h
      exact .inl ⟨fPl_none fun j hj => h j (by omega), fun j hj => h j (by omega)⟩
    | succ d ih =>
      intro i hi h
      by_cases e : (fAt l i).f0 = id
      · exact .inr ⟨i, fPl_hit (by omega) e h, by omega, e, h⟩
      · refine ih (i + 1) (by omega) fun j hj => ?_
        rcases Nat.lt_succ_iff_lt_or_eq.1 hj with h1 | rfl
        · exact h j h1
        · exact e
  exact key l.length 0 (by omega) fun j hj => absurd hj (by omega)
theorem l5Find_ok (l : List Fd) (id : Int) (hl : l.length ≤ 2000000) : Ok (fun k => spec_l5Find.f k l id) (· = fPl l id) := by
  unfold spec_l5Find.f
  refine Ok.range (fun (_ : Unit) i k => spec_l5Find.l0 k l id i) l.length (fun i _ => ∀ j, j < i → (fAt l j).f0 ≠ id) _ ?_ ?_ () (fun j hj => absurd hj (by omega))
  · intro i _ hi hinv ih
    refine Ok.step (fun k => by simp only [spec_l5Find.l0]; rfl) (Ok.pos (by omega) (Ok.pos (by omega) ?_))
    rw [fAt_rd, wrap_id (n := (i : Int) + 1) (by omega) (by omega)]
    refine Ok.ite (fun h => Ok.ret (fPl_hit hi h hinv).symm) (fun h => ih () fun j hj => ?_)
    rcases Nat.lt_succ_iff_lt_or_eq.1 hj with h1 | rfl
    · exact hinv j h1
    · exact h
  · intro _ hinv
    exact Ok.step (fun k => by simp only [spec_l5Find.l0]; rfl) (Ok.neg (by omega) (Ok.ret (fPl_none hinv).symm))
end Go.Proofs.Ytclldijjbmnkeaa.Pure
/- When dishes are valid, in the program and in the reference. Condition: at most 2,000,000 dishes, each of at most 2,000,000 parts, and as many foods. -/
namespace Go.Proofs.Ytclldijjbmnkeaa.Pure
open Go.RowKit Go.Proofs.YtclldijjbmnkeaaW.PrintWords Go.Proofs.YtclldijjbmnkeaaW.PrintLast Go.Proofs.Ytclldijjbmnkeaa.Q
set_option linter.unusedVariables false
set_option linter.unusedSimpArgs false
def pAt (l : List Pt) (i : Nat) : Pt := l.getD i z55
theorem pAt_rd (l : List Pt) (i : Nat) : rd_T55 l (i : Int) = pAt l i := rfl
theorem dAt_prev (l : List Ds) (i : Nat) (h : 0 < i) : rd_T29 l ((i : Int) - 1) = dAt l (i - 1) := by
  unfold rd_T29 dAt
  rw [show ((i : Int) - 1).toNat = i - 1 by omega]
/-- a part of a dish behind the dishes b -/
def pGood (b : List Ds) (l : List Fd) (p : Pt) : Prop := (p.f1 = 0 ∧ 0 ≤ fPl l p.f0 ∧ 1 ≤ p.f2 ∧ p.f2 ≤ 999) ∨ (p.f1 ≠ 0 ∧ p.f0 = 0 ∧ 0 ≤ dPl b p.f1 ∧ 1 ≤ p.f2 ∧ p.f2 ≤ 9)
def dHead (d : List Ds) (i : Nat) : Prop := (1 ≤ (dAt d i).f0 ∧ (dAt d i).f0 ≤ 20) ∧ (1 ≤ (dAt d i).f1 ∧ (dAt d i).f1 ≤ 12) ∧ (1 ≤ (dAt d i).f2.length ∧ (dAt d i).f2.length ≤ 5) ∧ (0 < i → (dAt d (i - 1)).f0 < (dAt d i).f0)
def dGood (d : List Ds) (l : List Fd) (i : Nat) : Prop := dHead d i ∧ ∀ j, j < (dAt d i).f2.length → pGood (d.take i) l (pAt (dAt d i).f2 j)
def DV (d : List Ds) (l : List Fd) : Prop := FV l ∧ d.length ≤ 4 ∧ ∀ i, i < d.length → dGood d l i
theorem take_dAt (d : List Ds) (i k : Nat) (hk : k < i) : dAt (d.take i) k = dAt d k := by
  unfold dAt
  rw [List.getD_eq_getElem?_getD, List.getD_eq_getElem?_getD, List.getElem?_take, if_pos hk]
theorem dPl_nat {l : List Ds} {id : Int} (h : 0 ≤ dPl l id) : ∃ k : Nat, dPl l id = k ∧ k < l.length ∧ (dAt l k).f0 = id := by
  rcases dPl_is l id with ⟨e, _⟩ | ⟨k, e, hk, hi, _⟩
  · omega
  · exact ⟨k, e, hk, hi⟩
theorem l11Part_ok (b : List Ds) (l : List Fd) (p : Pt) (hb : b.length ≤ 2000000) (hl : l.length ≤ 2000000) : Ok (fun k => spec_l11Part.f k b l p.f0 p.f1 p.f2) (fun r => r = true ↔ pGood b l p) := by
  unfold spec_l11Part.f
  refine Ok.ite (fun h => Ok.bind (l5Find_ok l _ hl) ?_) (fun h => Ok.ite (fun h2 => Ok.bind (l11Find_ok b _ hb) ?_) (fun h2 => Ok.ret ⟨fun h' => (by cases h'), fun h' => by rcases h' with h' | h'; exact absurd h'.1 h; exact absurd h'.2.1 h2⟩))
  · rintro _ rfl
    refine Ok.ite (fun h2 => ?_) (fun h2 => Ok.ret ⟨fun h' => (by cases h'), fun h' => by rcases h' with h' | h'; exact absurd h'.2.1 h2; exact absurd h h'.1⟩)
    rw [l6In_eq]
    refine Ok.val (Ok.ret ?_)
    rw [inr_iff]
    exact ⟨fun h' => .inl ⟨h, h2, h'⟩, fun h' => by rcases h' with h' | h'; exact h'.2.2; exact absurd h h'.1⟩
  · rintro _ rfl
    refine Ok.ite (fun h3 => ?_) (fun h3 => Ok.ret ⟨fun h' => (by cases h'), fun h' => by rcases h' with h' | h'; exact absurd h'.1 h; exact absurd h'.2.2.1 h3⟩)
    rw [l6In_eq]
    refine Ok.val (Ok.ret ?_)
    rw [inr_iff]
    exact ⟨fun h' => .inr ⟨h, h2, h3, h'⟩, fun h' => by rcases h' with h' | h'; exact absurd h'.1 h; exact h'.2.2.2⟩
theorem sDishes_ok (d : List Ds) (l : List Fd) (hd : d.length ≤ 2000000) (hp : ∀ i, i < d.length → (dAt d i).f2.length ≤ 2000000) (hl : l.length ≤ 2000000) : Ok (fun k => spec_DishesValid.f k d l) (fun b => b = true ↔ DV d l) := by
  unfold spec_DishesValid.f
  refine Ok.bind (sFoods_ok l hl) fun b hb => Ok.ite (fun h => ?_) (fun h => Ok.step (fun k => by simp only [spec_DishesValid.j0]; rfl) (Ok.pos (by trivial) (Ok.ret ⟨fun h' => (by cases h'), fun h' => absurd (hb.2 h'.1) h⟩)))
  have fv := hb.1 h
  refine Ok.step (fun k => by simp only [spec_DishesValid.j0]; rfl) (Ok.ite (fun h4 => Ok.ret ⟨fun h' => (by cases h'), fun h' => by have := h'.2.1; simp at h4; omega⟩) (fun h4 => ?_))
  have h4' : d.length ≤ 4 := by simp at h4; omega
  clear h4
  refine Ok.range (fun (_ : Unit) i k => spec_DishesValid.l0 k d l i) d.length (fun i _ => ∀ j, j < i → dGood d l j) _ ?_ ?_ () (fun j hj => absurd hj (by omega))
  · intro i _ hi hinv ih
    refine Ok.step (fun k => by simp only [spec_DishesValid.l0]; rfl) (Ok.pos (by omega) (Ok.pos (by omega) ?_))
    rw [dAt_rd, wrap_id (n := (i : Int) - 1) (by omega) (by omega)]
    simp only [l6In_eq, Option.bind_some]
    have bad : ¬ dGood d l i → Ok (fun k => some false) (fun r : Bool => r = true ↔ DV d l) := fun h => Ok.ret ⟨fun h' => (by cases h'), fun h' => absurd (h'.2.2 i hi) h⟩
    have badj : ¬ dGood d l i → Ok (fun k => spec_DishesValid.j2 k d l (i : Int) true (dAt d i).f0 (dAt d i).f1 (dAt d i).f2) (fun r : Bool => r = true ↔ DV d l) := fun h => Ok.step (fun k => by simp only [spec_DishesValid.j2]; rfl) (Ok.pos (by trivial) (bad h))
    have good : dHead d i → Ok (fun k => spec_DishesValid.l1 k d l (i : Int) 0 (dAt d i).f0 (dAt d i).f1 (dAt d i).f2) (fun r : Bool => r = true ↔ DV d l) := by
      intro g
      refine Ok.range (fun (_ : Unit) j k => spec_DishesValid.l1 k d l (i : Int) j (dAt d i).f0 (dAt d i).f1 (dAt d i).f2) (dAt d i).f2.length (fun j _ => ∀ q, q < j → pGood (d.take i) l (pAt (dAt d i).f2 q)) _ ?_ ?_ () (fun j hj => absurd hj (by omega))
      · intro j _ hj hinv2 ih2
        have hpi := hp i hi
        refine Ok.step (fun k => by simp only [spec_DishesValid.l1]; rfl) (Ok.pos (by omega) (Ok.pos (by omega) (Ok.pos (by omega) (Ok.pos (by omega) ?_))))
        rw [pAt_rd, wrap_id (n := (j : Int) + 1) (by omega) (by omega), Int.toNat_natCast]
        refine Ok.bind (l11Part_ok (d.take i) l (pAt (dAt d i).f2 j) (by rw [List.length_take]; omega) hl) fun r hr => Ok.ite (fun h5 => ih2 () fun q hq => ?_) (fun h5 => bad fun g' => h5 (hr.2 (g'.2 j hj)))
        rcases Nat.lt_succ_iff_lt_or_eq.1 hq with h6 | rfl
        · exact hinv2 q h6
        · exact hr.1 h5
      · intro _ hinv2
        refine Ok.step (fun k => by simp only [spec_DishesValid.l1]; rfl) (Ok.neg (by omega) ?_)
        rw [wrap_id (n := (i : Int) + 1) (by omega) (by omega)]
        refine ih () fun j hj => ?_
        rcases Nat.lt_succ_iff_lt_or_eq.1 hj with h6 | rfl
        · exact hinv j h6
        · exact ⟨g, hinv2⟩
    refine Ok.ite (fun h1 => Ok.ite (fun h2 => Ok.ite (fun h3 => ?_) (fun h => badj fun g => h ((inr_iff _ _ _).2 (by have := g.1.2.2.1; omega)))) (fun h => badj fun g => h ((inr_iff _ _ _).2 g.1.2.1))) (fun h => badj fun g => h ((inr_iff _ _ _).2 g.1.1))
    have h1' := (inr_iff _ _ _).1 h1
    have h2' := (inr_iff _ _ _).1 h2
    have h3' : 1 ≤ (dAt d i).f2.length ∧ (dAt d i).f2.length ≤ 5 := by have := (inr_iff _ _ _).1 h3; omega
    refine Ok.ite (fun h7 => Ok.pos (by omega) (Ok.pos (by omega) ?_)) (fun h7 => Ok.step (fun k => by simp only [spec_DishesValid.j2]; rfl) (Ok.neg (by simp) (good ⟨h1', h2', h3', fun h => absurd h (by omega)⟩)))
    rw [dAt_prev d i (by omega)]
    refine Ok.step (fun k => by simp only [spec_DishesValid.j2]; rfl) (Ok.ite (fun h8 => bad fun g => ?_) (fun h8 => good ⟨h1', h2', h3', fun _ => ?_⟩))
    · have := g.1.2.2.2 (by omega); simp at h8; omega
    · simp at h8; omega
  · intro _ hinv
    exact Ok.step (fun k => by simp only [spec_DishesValid.l0]; rfl) (Ok.neg (by omega) (Ok.ret ⟨fun _ => ⟨fv, h4', hinv⟩, fun _ => rfl⟩))
theorem iDishes_ok (d : List Ds) (l : List Fd) (hd : d.length ≤ 2000000) (hp : ∀ i, i < d.length → (dAt d i).f2.length ≤ 2000000) (hl : l.length ≤ 2000000) : Ok (fun k => impl_DishesValid.f k d l) (fun b => b = true ↔ DV d l) := by
  unfold impl_DishesValid.f
  refine Ok.bind (iFoods_ok l hl) fun b hb => Ok.ite (fun h => ?_) (fun h => Ok.step (fun k => by simp only [impl_DishesValid.j0]; rfl) (Ok.pos (by trivial) (Ok.ret ⟨fun h' => (by cases h'), fun h' => absurd (hb.2 h'.1) h⟩)))
  have fv := hb.1 h
  refine Ok.step (fun k => by simp only [impl_DishesValid.j0]; rfl) (Ok.ite (fun h4 => Ok.ret ⟨fun h' => (by cases h'), fun h' => by have := h'.2.1; simp at h4; omega⟩) (fun h4 => ?_))
  have h4' : d.length ≤ 4 := by simp at h4; omega
  clear h4
  refine Ok.range (fun (_ : Unit) i k => impl_DishesValid.l0 k d l d (d.length : Int) i) d.length (fun i _ => ∀ j, j < i → dGood d l j) _ ?_ ?_ () (fun j hj => absurd hj (by omega))
  · intro i _ hi hinv ih
    refine Ok.step (fun k => by simp only [impl_DishesValid.l0]; rfl) (Ok.pos (by omega) (Ok.pos (by omega) (Ok.pos (by omega) ?_)))
    rw [dAt_rd, wrap_id (n := (i : Int) - 1) (by omega) (by omega)]
    simp only [isId_eq, within_eq, Option.bind_some]
    have bad : ¬ dGood d l i → Ok (fun k => some false) (fun r : Bool => r = true ↔ DV d l) := fun h => Ok.ret ⟨fun h' => (by cases h'), fun h' => absurd (h'.2.2 i hi) h⟩
    have badj : ¬ dGood d l i → Ok (fun k => impl_DishesValid.j2 k d l (i : Int) d (d.length : Int) (i : Int) true (dAt d i).f0 (dAt d i).f1 (dAt d i).f2) (fun r : Bool => r = true ↔ DV d l) := fun h => Ok.step (fun k => by simp only [impl_DishesValid.j2]; rfl) (Ok.pos (by trivial) (bad h))
    have good : dHead d i → Ok (fun k => impl_DishesValid.l1 k d l (i : Int) d (d.length : Int) (i : Int) (dAt d i).f2 ((dAt d i).f2.length : Int) 0) (fun r : Bool => r = true ↔ DV d l) := by
      intro g
      refine Ok.range (fun (_ : Unit) j k => impl_DishesValid.l1 k d l (i : Int) d (d.length : Int) (i : Int) (dAt d i).f2 ((dAt d i).f2.length : Int) j) (dAt d i).f2.length (fun j _ => ∀ q, q < j → pGood (d.take i) l (pAt (dAt d i).f2 q)) _ ?_ ?_ () (fun j hj => absurd hj (by omega))
      · intro j _ hj hinv2 ih2
        have hpi := hp i hi
        refine Ok.step (fun k => by simp only [impl_DishesValid.l1]; rfl) (Ok.pos (by omega) (Ok.pos (by omega) (Ok.pos (by omega) ?_)))
        rw [pAt_rd]
        have next : pGood (d.take i) l (pAt (dAt d i).f2 j) → Ok (fun k => impl_DishesValid.l1 k d l (i : Int) d (d.length : Int) (i : Int) (dAt d i).f2 ((dAt d i).f2.length : Int) (wrap64 ((j : Int) + 1))) (fun r : Bool => r = true ↔ DV d l) := by
          intro hg
          rw [wrap_id (n := (j : Int) + 1) (by omega) (by omega)]
          refine ih2 () fun q hq => ?_
          rcases Nat.lt_succ_iff_lt_or_eq.1 hq with h6 | rfl
          · exact hinv2 q h6
          · exact hg
        have stop : ¬ pGood (d.take i) l (pAt (dAt d i).f2 j) → Ok (fun k => some false) (fun r : Bool => r = true ↔ DV d l) := fun hg => bad fun g' => hg (g'.2 j hj)
        have nz : 0 ≤ dPl (d.take i) (pAt (dAt d i).f2 j).f1 → (pAt (dAt d i).f2 j).f1 ≠ 0 := by
          intro h5 e
          obtain ⟨q, _, hq, hi0⟩ := dPl_nat h5
          have hq' : q < i := by rw [List.length_take] at hq; omega
          rw [take_dAt d i q hq', e] at hi0
          have := (hinv q hq').1.1
          omega
        have j4ok : ∀ b : Bool, (b = true → pGood (d.take i) l (pAt (dAt d i).f2 j)) → (b = false → ¬ ((pAt (dAt d i).f2 j).f1 = 0 ∧ 0 ≤ fPl l (pAt (dAt d i).f2 j).f0 ∧ 1 ≤ (pAt (dAt d i).f2 j).f2 ∧ (pAt (dAt d i).f2 j).f2 ≤ 999)) → Ok (fun k => impl_DishesValid.j4 k d l (i : Int) b d (d.length : Int) (i : Int) (dAt d i).f2 ((dAt d i).f2.length : Int) (j : Int) (pAt (dAt d i).f2 j).f0 (pAt (dAt d i).f2 j).f1 (pAt (dAt d i).f2 j).f2) (fun r : Bool => r = true ↔ DV d l) := by
          intro b hb1 hb2
          have nb : ¬ b = true → b = false := fun h => by simpa using h
          refine Ok.step (fun k => by simp only [impl_DishesValid.j4]; rfl) (Ok.ite (fun h5 => Ok.pos (by omega) (Ok.pos (by omega) ?_)) (fun h5 => Ok.ite (fun h6 => next (hb1 h6)) (fun h6 => stop fun g' => ?_)))
          · rw [iDFind_eq, Int.toNat_natCast, within_eq]
            refine Ok.val (Ok.ite (fun h7 => Ok.val (Ok.ite (fun h6 => next (hb1 h6)) (fun h6 => Ok.ite (fun h8 => next (.inr ⟨nz h7, h5, h7, (inr_iff _ _ _).1 h8⟩)) (fun h8 => stop fun g' => ?_)))) (fun h7 => Ok.ite (fun h6 => next (hb1 h6)) (fun h6 => stop fun g' => ?_)))
            · rcases g' with g' | g'
              · exact hb2 (nb h6) g'
              · exact h8 ((inr_iff _ _ _).2 g'.2.2.2)
            · rcases g' with g' | g'
              · exact hb2 (nb h6) g'
              · exact h7 g'.2.2.1
          · rcases g' with g' | g'
            · exact hb2 (nb h6) g'
            · exact h5 g'.2.1
        refine Ok.ite (fun h5 => ?_) (fun h5 => j4ok false (fun h => by cases h) (fun _ g' => h5 g'.1))
        rw [foodPlace_eq, within_eq]
        refine Ok.val (Ok.ite (fun h6 => Ok.val (j4ok _ (fun h7 => .inl ⟨h5, h6, (inr_iff _ _ _).1 h7⟩) (fun h7 g' => ?_))) (fun h6 => j4ok false (fun h => by cases h) (fun _ g' => h6 g'.2.1)))
        rw [(inr_iff _ _ _).2 g'.2.2] at h7
        cases h7
      · intro _ hinv2
        refine Ok.step (fun k => by simp only [impl_DishesValid.l1]; rfl) (Ok.neg (by omega) ?_)
        rw [wrap_id (n := (i : Int) + 1) (by omega) (by omega)]
        refine ih () fun j hj => ?_
        rcases Nat.lt_succ_iff_lt_or_eq.1 hj with h6 | rfl
        · exact hinv j h6
        · exact ⟨g, hinv2⟩
    refine Ok.ite (fun h1 => ?_) (fun h => badj fun g => h ((inr_iff _ _ _).2 g.1.1))
    have h1' := (inr_iff _ _ _).1 h1
    have rest : (0 < i → (dAt d (i - 1)).f0 < (dAt d i).f0) → Ok (fun k => if inr (dAt d i).f1 1 12 = true then impl_DishesValid.j2 k d l (i : Int) d (d.length : Int) (i : Int) (!inr ((dAt d i).f2.length : Int) 1 5) (dAt d i).f0 (dAt d i).f1 (dAt d i).f2 else impl_DishesValid.j2 k d l (i : Int) d (d.length : Int) (i : Int) true (dAt d i).f0 (dAt d i).f1 (dAt d i).f2) (fun r : Bool => r = true ↔ DV d l) := by
      intro h9
      refine Ok.ite (fun h2 => Ok.step (fun k => by simp only [impl_DishesValid.j2]; rfl) (Ok.ite (fun h3 => bad fun g => ?_) (fun h3 => good ⟨h1', (inr_iff _ _ _).1 h2, ?_, h9⟩))) (fun h => badj fun g => h ((inr_iff _ _ _).2 g.1.2.1))
      · have := g.1.2.2.1
        rw [(inr_iff _ _ _).2 (by omega)] at h3
        cases h3
      · simp at h3
        have := (inr_iff _ _ _).1 h3
        omega
    refine Ok.ite (fun h7 => Ok.pos (by omega) (Ok.pos (by omega) ?_)) (fun h7 => rest fun h => absurd h (by omega))
    rw [dAt_prev d i (by omega)]
    exact Ok.ite (fun h8 => badj fun g => by have := g.1.2.2.2 (by omega); omega) (fun h8 => rest fun _ => by omega)
  · intro _ hinv
    exact Ok.step (fun k => by simp only [impl_DishesValid.l0]; rfl) (Ok.neg (by omega) (Ok.ret ⟨fun _ => ⟨fv, h4', hinv⟩, fun _ => rfl⟩))
end Go.Proofs.Ytclldijjbmnkeaa.Pure
/- Which dishes are in a dish, in the program and in the reference. Condition: valid dishes. -/
namespace Go.Proofs.Ytclldijjbmnkeaa.Pure
open Go.RowKit Go.Proofs.YtclldijjbmnkeaaW.PrintWords Go.Proofs.YtclldijjbmnkeaaW.PrintLast Go.Proofs.Ytclldijjbmnkeaa.Q
set_option linter.unusedVariables false
set_option linter.unusedSimpArgs false
/-- part q of dish i -/
def pt (d : List Ds) (i q : Nat) : Pt := pAt (dAt d i).f2 q
theorem dPl_take {d : List Ds} {i : Nat} {id : Int} (h : 0 ≤ dPl (d.take i) id) : ∃ c : Nat, dPl d id = c ∧ c < i ∧ c < d.length ∧ (dAt d c).f0 = id := by
  rcases dPl_is (d.take i) id with ⟨e, _⟩ | ⟨k, e, hk, hi, hn⟩
  · omega
  · rw [List.length_take] at hk
    have e1 := take_dAt d i k (by omega)
    rw [e1] at hi
    refine ⟨k, dPl_hit (by omega) hi fun j hj => ?_, by omega, by omega, hi⟩
    have := hn j hj
    rwa [take_dAt d i j (by omega)] at this
theorem part_dish {d : List Ds} {l : List Fd} (v : DV d l) {i q : Nat} (hi : i < d.length) (hq : q < (dAt d i).f2.length) (h : (pt d i q).f1 ≠ 0) : ∃ c : Nat, dPl d (pt d i q).f1 = c ∧ c < i ∧ 0 < (pt d i q).f1 ∧ (pt d i q).f0 = 0 ∧ 1 ≤ (pt d i q).f2 ∧ (pt d i q).f2 ≤ 9 := by
  rcases (v.2.2 i hi).2 q hq with g | g
  · exact absurd g.1 h
  · obtain ⟨c, e, hc, hcl, e0⟩ := dPl_take g.2.2.1
    have := (v.2.2 c hcl).1.1
    exact ⟨c, e, hc, by unfold pt; omega, g.2.1, g.2.2.2⟩
theorem part_food {d : List Ds} {l : List Fd} (v : DV d l) {i q : Nat} (hi : i < d.length) (hq : q < (dAt d i).f2.length) (h : (pt d i q).f1 = 0) : 0 ≤ fPl l (pt d i q).f0 ∧ 0 < (pt d i q).f0 ∧ 1 ≤ (pt d i q).f2 ∧ (pt d i q).f2 ≤ 999 := by
  rcases (v.2.2 i hi).2 q hq with g | g
  · rcases fPl_is l (pt d i q).f0 with ⟨e, _⟩ | ⟨k, e, hk, e0, _⟩
    · have := g.2.1; unfold pt at e; omega
    · have := ((fB_iff _).1 (v.1.2 k hk).1).1
      exact ⟨g.2.1, by omega, g.2.2⟩
  · exact absurd h g.1
end Go.Proofs.Ytclldijjbmnkeaa.Pure
/- What is said of a dish by what is in it: an answer out of the marks, or another where an argument is invalid. Condition: as for valid dishes. -/
namespace Go.Proofs.Ytclldijjbmnkeaa.Pure
open Go.RowKit Go.Proofs.YtclldijjbmnkeaaW.PrintWords Go.Proofs.YtclldijjbmnkeaaW.PrintLast Go.Proofs.Ytclldijjbmnkeaa.Q
set_option linter.unusedVariables false
set_option linter.unusedSimpArgs false
theorem hasDish_ok (d : List Ds) (l : List Fd) (id : Int) (hd : d.length ≤ 2000000) (hp : ∀ i, i < d.length → (dAt d i).f2.length ≤ 2000000) (hl : l.length ≤ 2000000) : Ok (fun k => impl_hasDish.f k d l id) (fun r => r = true ↔ DV d l ∧ 0 ≤ dPl d id) := by
  unfold impl_hasDish.f
  refine Ok.bind (iDishes_ok d l hd hp hl) fun r hr => Ok.ite (fun h => ?_) (fun h => Ok.ret ⟨fun h' => (by cases h'), fun h' => absurd (hr.2 h'.1) h⟩)
  rw [iDFind_eq]
  refine Ok.val (Ok.ret ?_)
  rw [decide_eq_true_iff]
  exact ⟨fun h' => ⟨hr.1 h, h'⟩, fun h' => h'.2⟩
theorem dPl_lt {d : List Ds} {id : Int} (h : 0 ≤ dPl d id) : ∃ i : Nat, i < d.length ∧ dPl d id = i := by
  obtain ⟨k, e, hk, _⟩ := dPl_nat h
  exact ⟨k, hk, e⟩
end Go.Proofs.Ytclldijjbmnkeaa.Pure
/- What a dish needs of each food, before it is rounded, in the program and in the reference. Condition: valid dishes. -/
namespace Go.Proofs.Ytclldijjbmnkeaa.Pure
open Go.RowKit Go.Proofs.YtclldijjbmnkeaaW.PrintWords Go.Proofs.YtclldijjbmnkeaaW.PrintLast Go.Proofs.Ytclldijjbmnkeaa.Q
set_option linter.unusedVariables false
set_option linter.unusedSimpArgs false
/-- for how many a dish is written; the product of these numbers over the first dishes -/
def sv (d : List Ds) (i : Nat) : Nat := (dAt d i).f1.toNat
def Pr (d : List Ds) : Nat → Nat
  | 0 => 1
  | i + 1 => Pr d i * sv d i
theorem sv_in {d : List Ds} {l : List Fd} (v : DV d l) {i : Nat} (hi : i < d.length) : ((dAt d i).f1 = (sv d i : Int)) ∧ 1 ≤ sv d i ∧ sv d i ≤ 12 := by
  have := (v.2.2 i hi).1.2.1
  unfold sv
  omega
theorem Pr_pos {d : List Ds} {l : List Fd} (v : DV d l) : ∀ i, i ≤ d.length → 0 < Pr d i
  | 0, _ => Nat.one_pos
  | i + 1, h => Nat.mul_pos (Pr_pos v i (by omega)) (sv_in v (i := i) (by omega)).2.1
theorem Pr_le {d : List Ds} {l : List Fd} (v : DV d l) : ∀ i, i ≤ d.length → Pr d i ≤ 12 ^ i
  | 0, _ => Nat.le_refl _
  | i + 1, h => by
    rw [Nat.pow_succ]
    exact Nat.mul_le_mul (Pr_le v i (by omega)) (sv_in v (i := i) (by omega)).2.2
theorem Pr_dvd (d : List Ds) (i : Nat) : ∀ j, i ≤ j → Pr d i ∣ Pr d j
  | 0, h => by obtain rfl : i = 0 := by omega
               exact Nat.dvd_refl _
  | j + 1, h => by
    rcases Nat.lt_or_eq_of_le h with h1 | rfl
    · exact Nat.dvd_trans (Pr_dvd d i j (by omega)) ⟨sv d j, rfl⟩
    · exact Nat.dvd_refl _
/-- what part q of dish i needs of food f, as a multiple; g: what a dish needs of it -/
def ch (d : List Ds) (i q : Nat) : Nat := (dPl d (pt d i q).f1).toNat
def pc (d : List Ds) (l : List Fd) (g : Nat → Nat → Nat) (i q f : Nat) : Nat :=
  if (pt d i q).f1 = 0 then (if fPl l (pt d i q).f0 = (f : Int) then Pr d i * (pt d i q).f2.toNat else 0) else Pr d i / Pr d (ch d i q + 1) * (pt d i q).f2.toNat * g (ch d i q) f
def cfq (d : List Ds) (l : List Fd) (g : Nat → Nat → Nat) (i : Nat) : Nat → Nat → Nat
  | 0, _ => 0
  | q + 1, f => cfq d l g i q f + pc d l g i q f
def cf (d : List Ds) (l : List Fd) : Nat → Nat → Nat → Nat
  | 0, _, _ => 0
  | n + 1, i, f => cfq d l (cf d l n) i (dAt d i).f2.length f
theorem cfq_le (d : List Ds) (l : List Fd) (g : Nat → Nat → Nat) (i f q : Nat) : ∀ q', q ≤ q' → cfq d l g i q f ≤ cfq d l g i q' f
  | 0, h => by obtain rfl : q = 0 := by omega
               exact Nat.le_refl _
  | q' + 1, h => by
    rcases Nat.lt_or_eq_of_le h with h1 | rfl
    · exact Nat.le_trans (cfq_le d l g i f q q' (by omega)) (Nat.le_add_right _ _)
    · exact Nat.le_refl _
def TT0 : Nat := 6220800
/-- a dish as a part: its number, and what is asked of it -/
theorem kid {d : List Ds} {l : List Fd} (v : DV d l) {i q : Nat} (hi : i < d.length) (hq : q < (dAt d i).f2.length) (h : (pt d i q).f1 ≠ 0) (m : Nat) (hm : Pr d (i + 1) * m ≤ TT0 * 9 ^ (3 - i)) :
    ∃ N : Nat, (pt d i q).f2 = (N : Int) ∧ N ≤ 9 ∧ (pt d i q).f2.toNat = N ∧ ch d i q < i ∧ dPl d (pt d i q).f1 = (ch d i q : Int) ∧ Pr d (ch d i q + 1) * (Pr d i / Pr d (ch d i q + 1) * m * N) = Pr d i * m * N ∧ Pr d (ch d i q + 1) * (Pr d i / Pr d (ch d i q + 1) * m * N) ≤ TT0 * 9 ^ (3 - ch d i q) := by
  obtain ⟨c, ec, hc, _, _, hn1, hn2⟩ := part_dish v hi hq h
  have e : ch d i q = c := by unfold ch; rw [ec, Int.toNat_natCast]
  have hdv := Nat.mul_div_cancel' (Pr_dvd d (c + 1) i (by omega))
  have e2 : Pr d (c + 1) * (Pr d i / Pr d (c + 1) * m * (pt d i q).f2.toNat) = Pr d i * m * (pt d i q).f2.toNat := by rw [← Nat.mul_assoc, ← Nat.mul_assoc, hdv]
  refine ⟨(pt d i q).f2.toNat, by omega, by omega, rfl, by omega, by rw [e]; exact ec, by rw [e]; exact e2, ?_⟩
  rw [e, e2]
  have h4 := v.2.1
  have h1 : Pr d i * m ≤ TT0 * 9 ^ (3 - i) := Nat.le_trans (Nat.mul_le_mul_right m (Nat.le_mul_of_pos_right _ (sv_in v hi).2.1)) hm
  have h2 : Pr d i * m * (pt d i q).f2.toNat ≤ TT0 * 9 ^ (3 - i) * 9 := Nat.mul_le_mul h1 (by omega)
  refine Nat.le_trans h2 ?_
  rw [Nat.mul_assoc, ← Nat.pow_succ]
  exact Nat.mul_le_mul_left _ (Nat.pow_le_pow_right (by omega) (by omega))
theorem small_num {d : List Ds} {i m : Nat} (hm : Pr d (i + 1) * m ≤ TT0 * 9 ^ (3 - i)) : Pr d (i + 1) * m ≤ 4534963200 := by
  have : 9 ^ (3 - i) ≤ 9 ^ 3 := Nat.pow_le_pow_right (by omega) (by omega)
  have h2 : TT0 * 9 ^ (3 - i) ≤ TT0 * 9 ^ 3 := Nat.mul_le_mul_left _ this
  have h3 : TT0 * 9 ^ 3 = 4534963200 := by decide
  omega
theorem cf_small {d : List Ds} {l : List Fd} (v : DV d l) (f : Nat) : ∀ n i, i < n → i < d.length → ∀ m, Pr d (i + 1) * m ≤ TT0 * 9 ^ (3 - i) → m * cf d l n i f ≤ 5 ^ (i + 1) * 4530428236800
  | 0, i, h, _, _, _ => absurd h (by omega)
  | n + 1, i, hin, hi, m, hm => by
    have hp5 := (v.2.2 i hi).1.2.2.1
    have key : ∀ q, q ≤ (dAt d i).f2.length → m * cfq d l (cf d l n) i q f ≤ q * (5 ^ i * 4530428236800) := by
      intro q
      induction q with
      | zero => intro _; show m * 0 ≤ _; omega
      | succ q ih =>
        intro hq
        have h1 := ih (by omega)
        have h2 : m * pc d l (cf d l n) i q f ≤ 5 ^ i * 4530428236800 := by
          unfold pc
          split
          · rename_i h0
            obtain ⟨_, _, hn1, hn2⟩ := part_food v hi hq h0
            split
            · have h3 := small_num hm
              have h4 : Pr d i * m ≤ Pr d (i + 1) * m := Nat.mul_le_mul_right m (Nat.le_mul_of_pos_right _ (sv_in v hi).2.1)
              have h5 : Pr d i * m * (pt d i q).f2.toNat ≤ 4534963200 * 999 := Nat.mul_le_mul (by omega) (by omega)
              have e : m * (Pr d i * (pt d i q).f2.toNat) = Pr d i * m * (pt d i q).f2.toNat := by rw [← Nat.mul_assoc, Nat.mul_comm m]
              rw [e]
              have h6 : 1 ≤ 5 ^ i := Nat.succ_le_of_lt (Nat.pow_pos (by decide))
              have h7 : 1 * 4530428236800 ≤ 5 ^ i * 4530428236800 := Nat.mul_le_mul_right _ h6
              exact Nat.le_trans h5 (Nat.le_trans (by decide) h7)
            · rw [Nat.mul_zero]; exact Nat.zero_le _
          · rename_i h0
            obtain ⟨N, eN, hN, eN2, hc, ec, e1, e2⟩ := kid v hi hq h0 m hm
            have h3 := cf_small v f n (ch d i q) (by omega) (by omega) _ e2
            rw [eN2]
            have e : m * (Pr d i / Pr d (ch d i q + 1) * N * cf d l n (ch d i q) f) = Pr d i / Pr d (ch d i q + 1) * m * N * cf d l n (ch d i q) f := by
              rw [← Nat.mul_assoc, ← Nat.mul_assoc, Nat.mul_comm m]
            rw [e]
            exact Nat.le_trans h3 (Nat.mul_le_mul_right _ (Nat.pow_le_pow_right (by omega) (by omega)))
        show m * (cfq d l (cf d l n) i q f + pc d l (cf d l n) i q f) ≤ _
        rw [Nat.mul_add, Nat.succ_mul]
        omega
    refine Nat.le_trans (key _ (Nat.le_refl _)) ?_
    rw [Nat.pow_succ, Nat.mul_comm (5 ^ i) 5, Nat.mul_assoc]
    exact Nat.mul_le_mul_right _ (by omega)
/-- one part's share: what stands behind it -/
def Sh (d : List Ds) (l : List Fd) (n i m : Nat) (s : List Int) (q : Nat) (r : List Int) : Prop := r.length = l.length ∧ ∀ f, f < l.length → r.getD f 0 = s.getD f 0 + ((m * cfq d l (cf d l n) i q f : Nat) : Int)
def Rm (d : List Ds) (l : List Fd) (n i m : Nat) (s : List Int) : Prop := s.length = l.length ∧ ∀ f, f < l.length → 0 ≤ s.getD f 0 ∧ s.getD f 0 + ((m * cf d l n i f : Nat) : Int) ≤ 10000000000000000
theorem sh_food {d : List Ds} {l : List Fd} (v : DV d l) {n i m q : Nat} {s r : List Int} (hi : i < d.length) (hq : q < (dAt d i).f2.length) (h0 : (pt d i q).f1 = 0) (hm : Pr d (i + 1) * m ≤ TT0 * 9 ^ (3 - i)) (hs : Rm d l (n + 1) i m s) (h : Sh d l n i m s q r) (k : Nat) (ek : fPl l (pt d i q).f0 = k) (hk : k < l.length) :
    wrap64 (rd r (k : Int) + ((Pr d i * m * (pt d i q).f2.toNat : Nat) : Int)) = rd r (k : Int) + ((Pr d i * m * (pt d i q).f2.toNat : Nat) : Int) ∧ Sh d l n i m s (q + 1) (r.set k (rd r (k : Int) + ((Pr d i * m * (pt d i q).f2.toNat : Nat) : Int))) := by
  have epc : ∀ f, m * pc d l (cf d l n) i q f = if f = k then Pr d i * m * (pt d i q).f2.toNat else 0 := by
    intro f
    unfold pc
    rw [if_pos h0, ek]
    by_cases hf : f = k
    · rw [if_pos (by omega), if_pos hf, ← Nat.mul_assoc, Nat.mul_comm m]
    · rw [if_neg (by omega), if_neg hf, Nat.mul_zero]
  have nx : ∀ f, m * cfq d l (cf d l n) i (q + 1) f = m * cfq d l (cf d l n) i q f + (if f = k then Pr d i * m * (pt d i q).f2.toNat else 0) := by
    intro f
    show m * (cfq d l (cf d l n) i q f + pc d l (cf d l n) i q f) = _
    rw [Nat.mul_add, epc]
  have erd : rd r (k : Int) = r.getD k 0 := rfl
  have hle := Nat.mul_le_mul_left m (cfq_le d l (cf d l n) i k (q + 1) _ hq)
  have e1 := h.2 k hk
  have e2 := hs.2 k hk
  have e3 := nx k
  rw [if_pos rfl] at e3
  have e4 : cf d l (n + 1) i k = cfq d l (cf d l n) i (dAt d i).f2.length k := rfl
  rw [e4] at e2
  refine ⟨wrap_id (by rw [erd]; omega) (by rw [erd]; omega), by rw [List.length_set]; exact h.1, fun f hf => ?_⟩
  rw [getD_set _ _ _ _ _ (by rw [h.1]; exact hk), nx f, erd]
  by_cases hfk : f = k
  · subst hfk
    rw [if_pos rfl, if_pos rfl, e1]
    push_cast
    omega
  · rw [if_neg hfk, if_neg hfk, h.2 f hf]
    simp
theorem sh_kid {d : List Ds} {l : List Fd} (v : DV d l) {n i m q : Nat} {s r : List Int} (hi : i < d.length) (hq : q < (dAt d i).f2.length) (h0 : (pt d i q).f1 ≠ 0) (hm : Pr d (i + 1) * m ≤ TT0 * 9 ^ (3 - i)) (hs : Rm d l (n + 1) i m s) (h : Sh d l n i m s q r) :
    Rm d l n (ch d i q) (Pr d i / Pr d (ch d i q + 1) * m * (pt d i q).f2.toNat) r ∧ ∀ r', r'.length = l.length → (∀ f, f < l.length → r'.getD f 0 = r.getD f 0 + ((Pr d i / Pr d (ch d i q + 1) * m * (pt d i q).f2.toNat * cf d l n (ch d i q) f : Nat) : Int)) → Sh d l n i m s (q + 1) r' := by
  have epc : ∀ f, m * pc d l (cf d l n) i q f = Pr d i / Pr d (ch d i q + 1) * m * (pt d i q).f2.toNat * cf d l n (ch d i q) f := by
    intro f
    unfold pc
    rw [if_neg h0, ← Nat.mul_assoc, ← Nat.mul_assoc, Nat.mul_comm m]
  have nx : ∀ f, m * cfq d l (cf d l n) i (q + 1) f = m * cfq d l (cf d l n) i q f + Pr d i / Pr d (ch d i q + 1) * m * (pt d i q).f2.toNat * cf d l n (ch d i q) f := by
    intro f
    show m * (cfq d l (cf d l n) i q f + pc d l (cf d l n) i q f) = _
    rw [Nat.mul_add, epc]
  refine ⟨⟨h.1, fun f hf => ?_⟩, fun r' hl hr => ⟨hl, fun f hf => ?_⟩⟩
  · have hle := Nat.mul_le_mul_left m (cfq_le d l (cf d l n) i f (q + 1) _ hq)
    have e1 := h.2 f hf
    have e2 := hs.2 f hf
    have e3 := nx f
    have e4 : cf d l (n + 1) i f = cfq d l (cf d l n) i (dAt d i).f2.length f := rfl
    rw [e4] at e2
    omega
  · rw [hr f hf, h.2 f hf, nx f]
    push_cast
    omega
theorem num_div (a S : Nat) (hS : 1 ≤ S) : Int.tdiv ((a * S : Nat) : Int) (S : Int) = (a : Int) := by
  rw [Int.natCast_mul]
  exact Int.mul_tdiv_cancel _ (by omega)
theorem sAdd_ok {d : List Ds} {l : List Fd} (v : DV d l) (hl : l.length ≤ 2000000) : ∀ n i, i < n → i < d.length → ∀ (m : Nat) (s : List Int), Pr d (i + 1) * m ≤ TT0 * 9 ^ (3 - i) → Rm d l n i m s → Ok (fun k => spec_l11Add.f k d l (i : Int) ((Pr d (i + 1) * m : Nat) : Int) s) (fun r => r.length = l.length ∧ ∀ f, f < l.length → r.getD f 0 = s.getD f 0 + ((m * cf d l n i f : Nat) : Int))
  | 0, i, h, _, _, _, _, _ => absurd h (by omega)
  | n + 1, i, hin, hi, m, s, hm, hs => by
    have h4 := v.2.1
    have hp5 := (v.2.2 i hi).1.2.2.1
    obtain ⟨eS, hS1, hS2⟩ := sv_in v hi
    have hsm := small_num hm
    refine Ok.step (fun k => by simp only [spec_l11Add.f]; rfl) (Ok.pos (by omega) (Ok.pos (by omega) ?_))
    rw [dAt_rd]
    refine Ok.range (fun (r : List Int) q k => spec_l11Add.l0 k d l ((Pr d (i + 1) * m : Nat) : Int) r q (dAt d i).f0 (dAt d i).f1 (dAt d i).f2) (dAt d i).f2.length (fun q r => Sh d l n i m s q r) _ ?_ ?_ s ⟨hs.1, fun f hf => by show _ = _ + ((m * 0 : Nat) : Int); simp⟩
    · intro q r hq hr ih
      refine Ok.step (fun k => by simp only [spec_l11Add.l0]; rfl) (Ok.pos (by omega) (Ok.pos (by omega) (Ok.neg (by omega) ?_)))
      rw [pAt_rd, wrap_id (n := (q : Int) + 1) (by omega) (by omega)]
      have eN : ∀ N : Nat, pAt (dAt d i).f2 q = pt d i q → (pt d i q).f2 = (N : Int) → N ≤ 999 → wrap64 (Int.tdiv (wrap64 (((Pr d (i + 1) * m : Nat) : Int) * (pt d i q).f2)) (dAt d i).f1) = ((Pr d i * m * N : Nat) : Int) := by
        intro N _ hN hN9
        have e : ((Pr d (i + 1) * m : Nat) : Int) * (N : Int) = ((Pr d i * m * N * sv d i : Nat) : Int) := by
          rw [← Int.natCast_mul]
          congr 1
          show Pr d i * sv d i * m * N = _
          ac_rfl
        have hb : Pr d (i + 1) * m * N ≤ 4534963200 * 999 := Nat.mul_le_mul hsm hN9
        have hb2 : Pr d i * m * N ≤ Pr d i * m * N * sv d i := Nat.le_mul_of_pos_right _ hS1
        have hb3 : Pr d i * m * N * sv d i = Pr d (i + 1) * m * N := by
          show _ = Pr d i * sv d i * m * N
          ac_rfl
        rw [hN, e, wrap_id (n := ((Pr d i * m * N * sv d i : Nat) : Int)) (by omega) (by omega), eS, num_div _ _ hS1, wrap_id (by omega) (by omega)]
      show Ok (fun k => if (pt d i q).f1 > 0 then _ else _) _
      by_cases h0 : (pt d i q).f1 = 0
      · refine Ok.neg (by omega) (Ok.bind (l5Find_ok l _ hl) ?_)
        rintro _ rfl
        obtain ⟨hp, _, hn1, hn2⟩ := part_food v hi hq h0
        obtain ⟨k, ek, hk⟩ : ∃ k : Nat, fPl l (pt d i q).f0 = k ∧ k < l.length := by
          rcases fPl_is l (pt d i q).f0 with ⟨e, _⟩ | ⟨k, e, hk, _⟩
          · omega
          · exact ⟨k, e, hk⟩
        have ek' : fPl l (pAt (dAt d i).f2 q).f0 = k := ek
        rw [ek']
        obtain ⟨hw, hsh⟩ := sh_food v hi hq h0 hm hs hr k ek hk
        refine Ok.pos (by omega) (Ok.pos (by rw [hr.1]; omega) ?_)
        have e := eN (pt d i q).f2.toNat rfl (by omega) (by omega)
        have e' : wrap64 (Int.tdiv (wrap64 (((Pr d (i + 1) * m : Nat) : Int) * (pAt (dAt d i).f2 q).f2)) (dAt d i).f1) = ((Pr d i * m * (pt d i q).f2.toNat : Nat) : Int) := e
        rw [e', hw, Int.toNat_natCast]
        exact ih _ hsh
      · obtain ⟨N, hN, hN9, eN2, hc, ec, e1, e2⟩ := kid v hi hq h0 m hm
        obtain ⟨_, _, _, hp, _⟩ := part_dish v hi hq h0
        refine Ok.pos (by omega) (Ok.bind (l11Find_ok d _ (by omega)) ?_)
        rintro _ rfl
        have ec' : dPl d (pAt (dAt d i).f2 q).f1 = (ch d i q : Int) := ec
        have e' : wrap64 (Int.tdiv (wrap64 (((Pr d (i + 1) * m : Nat) : Int) * (pAt (dAt d i).f2 q).f2)) (dAt d i).f1) = ((Pr d i * m * N : Nat) : Int) := eN N rfl hN (by omega)
        rw [ec', e', ← e1]
        obtain ⟨hrm, hnx⟩ := sh_kid v hi hq h0 hm hs hr
        rw [eN2] at hrm hnx
        refine Ok.bind (sAdd_ok v hl n (ch d i q) (by omega) (by omega) _ r e2 hrm) fun r' hr' => ih r' (hnx r' hr'.1 hr'.2)
    · intro r hr
      exact Ok.step (fun k => by simp only [spec_l11Add.l0]; rfl) (Ok.neg (by omega) (Ok.ret hr))
end Go.Proofs.Ytclldijjbmnkeaa.Pure
/- The same sums in the program. Condition: valid dishes. -/
namespace Go.Proofs.Ytclldijjbmnkeaa.Pure
open Go.RowKit Go.Proofs.YtclldijjbmnkeaaW.PrintWords Go.Proofs.YtclldijjbmnkeaaW.PrintLast Go.Proofs.Ytclldijjbmnkeaa.Q
set_option linter.unusedVariables false
set_option linter.unusedSimpArgs false
theorem iAdd_ok {d : List Ds} {l : List Fd} (v : DV d l) (hl : l.length ≤ 2000000) : ∀ n i, i < n → i < d.length → ∀ (id : Int), dPl d id = (i : Int) → ∀ (m : Nat) (s : List Int), Pr d (i + 1) * m ≤ TT0 * 9 ^ (3 - i) → Rm d l n i m s → Ok (fun k => impl_addNeeds.f k d l id ((Pr d (i + 1) * m : Nat) : Int) s) (fun r => r.length = l.length ∧ ∀ f, f < l.length → r.getD f 0 = s.getD f 0 + ((m * cf d l n i f : Nat) : Int))
  | 0, i, h, _, _, _, _, _, _, _ => absurd h (by omega)
  | n + 1, i, hin, hi, id, hid, m, s, hm, hs => by
    have h4 := v.2.1
    have hp5 := (v.2.2 i hi).1.2.2.1
    obtain ⟨eS, hS1, hS2⟩ := sv_in v hi
    have hsm := small_num hm
    refine Ok.step (fun k => by simp only [impl_addNeeds.f]; rfl) ?_
    rw [iDFind_eq, hid]
    refine Ok.val (Ok.pos (by omega) (Ok.pos (by omega) ?_))
    rw [dAt_rd]
    refine Ok.range (fun (r : List Int) q k => impl_addNeeds.l0 k d l ((Pr d (i + 1) * m : Nat) : Int) r (dAt d i).f2 ((dAt d i).f2.length : Int) q (dAt d i).f0 (dAt d i).f1 (dAt d i).f2) (dAt d i).f2.length (fun q r => Sh d l n i m s q r) _ ?_ ?_ s ⟨hs.1, fun f hf => by show _ = _ + ((m * 0 : Nat) : Int); simp⟩
    · intro q r hq hr ih
      refine Ok.step (fun k => by simp only [impl_addNeeds.l0]; rfl) (Ok.pos (by omega) (Ok.pos (by omega) (Ok.pos (by omega) (Ok.neg (by omega) ?_))))
      rw [pAt_rd, wrap_id (n := (q : Int) + 1) (by omega) (by omega)]
      have eN : ∀ N : Nat, (pt d i q).f2 = (N : Int) → N ≤ 999 → wrap64 ((wrap64 (Int.tdiv ((Pr d (i + 1) * m : Nat) : Int) (dAt d i).f1)) * (pAt (dAt d i).f2 q).f2) = ((Pr d i * m * N : Nat) : Int) := by
        intro N hN hN9
        have e : Pr d (i + 1) * m = Pr d i * m * sv d i := by
          show Pr d i * sv d i * m = _
          ac_rfl
        have hb : Pr d i * m ≤ Pr d i * m * sv d i := Nat.le_mul_of_pos_right _ hS1
        have hb2 : Pr d i * m * N ≤ 4534963200 * 999 := Nat.mul_le_mul (by omega) hN9
        have hN' : (pAt (dAt d i).f2 q).f2 = (N : Int) := hN
        rw [e, eS, num_div _ _ hS1, wrap_id (n := ((Pr d i * m : Nat) : Int)) (by omega) (by omega), hN', ← Int.natCast_mul, wrap_id (by omega) (by omega)]
      by_cases h0 : (pt d i q).f1 = 0
      · obtain ⟨hp, hf0, hn1, hn2⟩ := part_food v hi hq h0
        have hf0' : (pAt (dAt d i).f2 q).f0 > 0 := hf0
        refine Ok.pos hf0' ?_
        obtain ⟨k, ek, hk⟩ : ∃ k : Nat, fPl l (pt d i q).f0 = k ∧ k < l.length := by
          rcases fPl_is l (pt d i q).f0 with ⟨e, _⟩ | ⟨k, e, hk, _⟩
          · omega
          · exact ⟨k, e, hk⟩
        have ek' : fPl l (pAt (dAt d i).f2 q).f0 = k := ek
        rw [foodPlace_eq, ek']
        obtain ⟨hw, hsh⟩ := sh_food v hi hq h0 hm hs hr k ek hk
        refine Ok.val (Ok.pos (by omega) (Ok.pos (by rw [hr.1]; omega) ?_))
        rw [eN (pt d i q).f2.toNat (by omega) (by omega), hw, Int.toNat_natCast]
        exact ih _ hsh
      · obtain ⟨N, hN, hN9, eN2, hc, ec, e1, e2⟩ := kid v hi hq h0 m hm
        obtain ⟨_, _, _, hp, hf0, _⟩ := part_dish v hi hq h0
        have hf0' : ¬ (pAt (dAt d i).f2 q).f0 > 0 := by
          have : (pAt (dAt d i).f2 q).f0 = 0 := hf0
          omega
        refine Ok.neg hf0' ?_
        rw [eN N hN (by omega), ← e1]
        obtain ⟨hrm, hnx⟩ := sh_kid v hi hq h0 hm hs hr
        rw [eN2] at hrm hnx
        exact Ok.bind (iAdd_ok v hl n (ch d i q) (by omega) (by omega) _ ec _ r e2 hrm) fun r' hr' => ih r' (hnx r' hr'.1 hr'.2)
    · intro r hr
      exact Ok.step (fun k => by simp only [impl_addNeeds.l0]; rfl) (Ok.neg (by omega) (Ok.ret hr))
theorem Pr_small {d : List Ds} {l : List Fd} (v : DV d l) (i : Nat) (hi : i ≤ d.length) : Pr d i ≤ 20736 := by
  have h4 := v.2.1
  have h1 := Pr_le v i hi
  have h2 : 12 ^ i ≤ 12 ^ 4 := Nat.pow_le_pow_right (by omega) (by omega)
  have h3 : 12 ^ 4 = 20736 := by decide
  omega
theorem whole_next {d : List Ds} {l : List Fd} (v : DV d l) (i : Nat) (hi : i < d.length) : wrap64 (((Pr d i : Nat) : Int) * (dAt d i).f1) = ((Pr d (i + 1) : Nat) : Int) := by
  have h := Pr_small v (i + 1) (by omega)
  rw [(sv_in v hi).1, ← Int.natCast_mul]
  exact wrap_id (n := ((Pr d (i + 1) : Nat) : Int)) (by omega) (by omega)
theorem whole_ok {d : List Ds} {l : List Fd} (v : DV d l) : Ok (fun k => spec_l11Whole.f k d) (· = ((Pr d d.length : Nat) : Int)) := by
  have h4 := v.2.1
  unfold spec_l11Whole.f
  refine Ok.range (fun (s : Int) i k => spec_l11Whole.l0 k d s i) d.length (fun i s => s = ((Pr d i : Nat) : Int)) _ ?_ ?_ 1 rfl
  · rintro i _ hi rfl ih
    refine Ok.step (fun k => by simp only [spec_l11Whole.l0]; rfl) (Ok.pos (by omega) (Ok.pos (by omega) ?_))
    rw [dAt_rd, wrap_id (n := (i : Int) + 1) (by omega) (by omega)]
    exact ih _ (whole_next v i hi)
  · rintro _ rfl
    exact Ok.step (fun k => by simp only [spec_l11Whole.l0]; rfl) (Ok.neg (by omega) (Ok.ret rfl))
end Go.Proofs.Ytclldijjbmnkeaa.Pure
/- What a dish needs, in the program and in the reference. Condition: as for valid dishes. -/
namespace Go.Proofs.Ytclldijjbmnkeaa.Pure
open Go.RowKit Go.Proofs.YtclldijjbmnkeaaW.PrintWords Go.Proofs.YtclldijjbmnkeaaW.PrintLast Go.Proofs.Ytclldijjbmnkeaa.Q
set_option linter.unusedVariables false
set_option linter.unusedSimpArgs false
/-- what one guest of dish i needs of food f, in parts of the product of all; for c guests, rounded up -/
def nB (d : List Ds) (l : List Fd) (i f : Nat) : Nat := Pr d d.length / Pr d (i + 1) * cf d l d.length i f
def nU (d : List Ds) (l : List Fd) (i c f : Nat) : Nat := (c * nB d l i f + Pr d d.length - 1) / Pr d d.length
def NdR (d : List Ds) (l : List Fd) (id cv : Int) (r : List Int × Bool) : Prop :=
  (DV d l ∧ 0 ≤ cv ∧ cv ≤ 300 ∧ ∃ i : Nat, i < d.length ∧ dPl d id = (i : Int) ∧ ((r.2 = true ∧ r.1.length = l.length ∧ ∀ f, f < l.length → r.1.getD f 0 = ((nU d l i cv.toNat f : Nat) : Int) ∧ nU d l i cv.toNat f ≤ 999999) ∨ ((∃ f, f < l.length ∧ 999999 < nU d l i cv.toNat f) ∧ r = ([], false)))) ∨
  (¬ (DV d l ∧ 0 ≤ dPl d id ∧ 0 ≤ cv ∧ cv ≤ 300) ∧ r = ([], false))
theorem ndR_eq {d : List Ds} {l : List Fd} {id cv : Int} {r r' : List Int × Bool} (h : NdR d l id cv r) (h' : NdR d l id cv r') : r = r' := by
  rcases h with ⟨v, c0, c1, i, hi, e, h⟩ | ⟨h, rfl⟩ <;> rcases h' with ⟨v', c0', c1', i', hi', e', h'⟩ | ⟨h', rfl⟩
  · obtain rfl : i = i' := by omega
    rcases h with ⟨h1, h2, h3⟩ | ⟨⟨f, hf, h1⟩, rfl⟩ <;> rcases h' with ⟨h1', h2', h3'⟩ | ⟨⟨f', hf', h1'⟩, rfl⟩
    · refine Prod.ext (eq_of_getD 0 (by omega) fun f hf => ?_) (by rw [h1, h1'])
      rw [(h3 f (by omega)).1, (h3' f (by omega)).1]
    · have := (h3 f' hf').2
      omega
    · have := (h3' f hf).2
      omega
    · rfl
  · exact absurd ⟨v, by omega, c0, c1⟩ h'
  · exact absurd ⟨v', by omega, c0', c1'⟩ h
  · rfl
theorem up_eq (a w : Nat) (ha : a ≤ 10000000000000000) (hw : 1 ≤ w) (hw' : w ≤ 20736) : wrap64 (Int.tdiv (wrap64 ((wrap64 ((a : Int) + (w : Int))) - 1)) (w : Int)) = (((a + w - 1) / w : Nat) : Int) := by
  have e : (a : Int) + (w : Int) - 1 = ((a + w - 1 : Nat) : Int) := by omega
  have hle : (a + w - 1) / w ≤ a + w - 1 := Nat.div_le_self _ _
  rw [wrap_id (n := (a : Int) + (w : Int)) (by omega) (by omega), wrap_id (n := (a : Int) + (w : Int) - 1) (by omega) (by omega), e, Int.tdiv_eq_ediv_of_nonneg (by omega), ← Int.natCast_ediv]
  generalize (a + w - 1) / w = z at hle ⊢
  exact wrap_id (by omega) (by omega)
/-- what is asked of a dish at first, for cv guests -/
theorem first_num {d : List Ds} {l : List Fd} (v : DV d l) {i : Nat} (hi : i < d.length) {c : Nat} (hc : c ≤ 300) :
    Pr d (i + 1) * (Pr d d.length / Pr d (i + 1) * c) = c * Pr d d.length ∧ Pr d (i + 1) * (Pr d d.length / Pr d (i + 1) * c) ≤ TT0 * 9 ^ (3 - i) ∧ (∀ f, Pr d d.length / Pr d (i + 1) * c * cf d l d.length i f = c * nB d l i f) ∧ (∀ f, c * nB d l i f ≤ 10000000000000000) ∧ wrap64 ((c : Int) * ((Pr d d.length : Nat) : Int)) = ((Pr d (i + 1) * (Pr d d.length / Pr d (i + 1) * c) : Nat) : Int) := by
  have h4 := v.2.1
  have hP := Pr_small v d.length (Nat.le_refl _)
  have e1 : Pr d (i + 1) * (Pr d d.length / Pr d (i + 1) * c) = c * Pr d d.length := by
    rw [← Nat.mul_assoc, Nat.mul_div_cancel' (Pr_dvd d (i + 1) d.length (by omega)), Nat.mul_comm]
  have hb : c * Pr d d.length ≤ 300 * 20736 := Nat.mul_le_mul hc hP
  have hT : TT0 * 1 ≤ TT0 * 9 ^ (3 - i) := Nat.mul_le_mul_left _ (Nat.succ_le_of_lt (Nat.pow_pos (by decide)))
  have hT0 : TT0 = 6220800 := rfl
  have e2 : Pr d (i + 1) * (Pr d d.length / Pr d (i + 1) * c) ≤ TT0 * 9 ^ (3 - i) := by rw [e1]; omega
  have e3 : ∀ f, Pr d d.length / Pr d (i + 1) * c * cf d l d.length i f = c * nB d l i f := by
    intro f
    unfold nB
    ac_rfl
  refine ⟨e1, e2, e3, fun f => ?_, ?_⟩
  · rw [← e3]
    refine Nat.le_trans (cf_small v f d.length i hi hi _ e2) ?_
    have h5 : 5 ^ (i + 1) ≤ 5 ^ 4 := Nat.pow_le_pow_right (by omega) (by omega)
    exact Nat.le_trans (Nat.mul_le_mul_right _ h5) (by decide)
  · rw [e1, ← Int.natCast_mul, wrap_id (by omega) (by omega)]
/-- the sums that stand before they are rounded -/
def Sum0 (d : List Ds) (l : List Fd) (i c : Nat) (r : List Int) : Prop := r.length = l.length ∧ ∀ f, f < l.length → r.getD f 0 = ((c * nB d l i f : Nat) : Int)
theorem rm_zero {d : List Ds} {l : List Fd} (v : DV d l) {i : Nat} (hi : i < d.length) {c : Nat} (hc : c ≤ 300) : Rm d l d.length i (Pr d d.length / Pr d (i + 1) * c) (List.replicate l.length 0) := by
  obtain ⟨e1, e2, e3, e4, _⟩ := first_num v hi hc
  refine ⟨by simp, fun f hf => ?_⟩
  have e0 : (List.replicate l.length (0 : Int)).getD f 0 = 0 := by rw [getD_at _ _ _ (by simpa using hf)]; simp
  have := e4 f
  rw [e0, e3]
  omega
theorem sum0_of {d : List Ds} {l : List Fd} (v : DV d l) {i : Nat} (hi : i < d.length) {c : Nat} (hc : c ≤ 300) {r : List Int} (h : r.length = l.length ∧ ∀ f, f < l.length → r.getD f 0 = (List.replicate l.length (0 : Int)).getD f 0 + ((Pr d d.length / Pr d (i + 1) * c * cf d l d.length i f : Nat) : Int)) : Sum0 d l i c r := by
  obtain ⟨e1, e2, e3, e4, _⟩ := first_num v hi hc
  refine ⟨h.1, fun f hf => ?_⟩
  have e0 : (List.replicate l.length (0 : Int)).getD f 0 = 0 := by rw [getD_at _ _ _ (by simpa using hf)]; simp
  rw [h.2 f hf, e0, e3, Int.zero_add]
/-- while they are rounded -/
def Rnd (d : List Ds) (l : List Fd) (i c q : Nat) (r : List Int) : Prop := r.length = l.length ∧ ∀ f, f < l.length → if f < q then r.getD f 0 = ((nU d l i c f : Nat) : Int) ∧ nU d l i c f ≤ 999999 else r.getD f 0 = ((c * nB d l i f : Nat) : Int)
theorem rnd_next {d : List Ds} {l : List Fd} {i c q : Nat} {r : List Int} (h : Rnd d l i c q r) (hq : q < l.length) (hu : nU d l i c q ≤ 999999) : Rnd d l i c (q + 1) (r.set q ((nU d l i c q : Nat) : Int)) := by
  refine ⟨by rw [List.length_set]; exact h.1, fun f hf => ?_⟩
  rw [getD_set _ _ _ _ _ (by rw [h.1]; exact hq)]
  have := h.2 f hf
  by_cases e : f = q
  · subst e
    rw [if_pos (by omega), if_pos rfl]
    exact ⟨rfl, hu⟩
  · rw [if_neg e]
    by_cases h1 : f < q
    · rw [if_pos h1] at this
      rw [if_pos (by omega)]
      exact this
    · rw [if_neg h1] at this
      rw [if_neg (by omega)]
      exact this
theorem sNeeds_ok (d : List Ds) (l : List Fd) (id cv : Int) (hd : d.length ≤ 2000000) (hp : ∀ i, i < d.length → (dAt d i).f2.length ≤ 2000000) (hl : l.length ≤ 2000000) : Ok (fun k => spec_DishNeeds.f k d l id cv) (NdR d l id cv) := by
  unfold spec_DishNeeds.f
  have none : ¬ (DV d l ∧ 0 ≤ dPl d id ∧ 0 ≤ cv ∧ cv ≤ 300) → Ok (fun k => spec_DishNeeds.j0 k d l id cv true) (NdR d l id cv) := fun h => Ok.step (fun k => by simp only [spec_DishNeeds.j0]; rfl) (Ok.pos (by trivial) (Ok.ret (.inr ⟨h, rfl⟩)))
  refine Ok.bind (sDishes_ok d l hd hp hl) fun b hb => Ok.ite (fun h => Ok.bind (l11Find_ok d id hd) ?_) (fun h => none fun h' => h (hb.2 h'.1))
  rintro _ rfl
  have v := hb.1 h
  refine Ok.ite (fun h2 => none fun h' => by omega) (fun h2 => ?_)
  rw [l6In_eq]
  refine Ok.val ?_
  cases hc : inr cv 0 300 with
  | false => exact none fun h' => by rw [(inr_iff _ _ _).2 h'.2.2] at hc; cases hc
  | true =>
    have hcv := (inr_iff _ _ _).1 hc
    obtain ⟨i, hi, e⟩ := dPl_lt (d := d) (id := id) (by omega)
    have h4 := v.2.1
    obtain ⟨c, rfl⟩ : ∃ c : Nat, cv = c := ⟨cv.toNat, by omega⟩
    have hP := Pr_small v d.length (Nat.le_refl _)
    have hP0 := Pr_pos v d.length (Nat.le_refl _)
    obtain ⟨e1, e2, e3, e4, e5⟩ := first_num v hi (c := c) (by omega)
    refine Ok.step (fun k => by simp only [spec_DishNeeds.j0]; rfl) (Ok.neg (by simp) (Ok.bind (whole_ok v) ?_))
    rintro _ rfl
    refine Ok.bind (l11Find_ok d id hd) ?_
    rintro _ rfl
    rw [e, e5, Int.toNat_natCast]
    refine Ok.pos (by omega) (Ok.pos (Nat.le_trans (m := 2000000) (by omega) (by decide)) (Ok.bind (sAdd_ok v hl d.length i hi hi _ _ e2 (rm_zero v hi (by omega))) fun r hr => ?_))
    have hs := sum0_of v hi (c := c) (by omega) hr
    have fin : Ok (fun k => spec_DishNeeds.l0 k ((Pr d d.length : Nat) : Int) r 0) (NdR d l id (c : Int)) := by
      refine Ok.range (fun (s : List Int) q k => spec_DishNeeds.l0 k ((Pr d d.length : Nat) : Int) s q) l.length (fun q s => Rnd d l i c q s) _ ?_ ?_ r ⟨hs.1, fun f hf => by rw [if_neg (by omega)]; exact hs.2 f hf⟩
      · intro q s hq hs ih
        have hq2 := hs.2 q hq
        rw [if_neg (by omega)] at hq2
        have h9 := e4 q
        refine Ok.step (fun k => by simp only [spec_DishNeeds.l0]; rfl) (Ok.pos (by rw [hs.1]; omega) (Ok.pos (by omega) ?_))
        simp only [spec_l1Up.f]
        have erd : rd s (q : Int) = ((c * nB d l i q : Nat) : Int) := hq2
        rw [erd, if_neg (by omega), up_eq _ _ h9 (by omega) hP, wrap_id (n := (q : Int) + 1) (by omega) (by omega), Int.toNat_natCast]
        refine Ok.val (Ok.val ?_)
        have erd2 : rd (s.set q (((c * nB d l i q + Pr d d.length - 1) / Pr d d.length : Nat) : Int)) (q : Int) = ((nU d l i c q : Nat) : Int) := by
          show (s.set q _).getD q 0 = _
          rw [getD_set _ _ _ _ _ (by rw [hs.1]; exact hq), if_pos rfl]
          rfl
        rw [erd2]
        refine Ok.ite (fun h10 => Ok.ret (.inl ⟨v, by omega, by omega, i, hi, e, .inr ⟨⟨q, hq, by rw [Int.toNat_natCast]; omega⟩, rfl⟩⟩)) (fun h10 => ih _ (rnd_next hs hq (by omega)))
      · intro s hs
        refine Ok.step (fun k => by simp only [spec_DishNeeds.l0]; rfl) (Ok.neg (by rw [hs.1]; omega) (Ok.ret (.inl ⟨v, by omega, by omega, i, hi, e, .inl ⟨rfl, hs.1, fun f hf => ?_⟩⟩)))
        have := hs.2 f hf
        rw [if_pos hf] at this
        rw [Int.toNat_natCast]
        exact this
    exact fin
theorem iNeeds_ok (d : List Ds) (l : List Fd) (id cv : Int) (hd : d.length ≤ 2000000) (hp : ∀ i, i < d.length → (dAt d i).f2.length ≤ 2000000) (hl : l.length ≤ 2000000) : Ok (fun k => impl_DishNeeds.f k d l id cv) (NdR d l id cv) := by
  unfold impl_DishNeeds.f
  have none : ¬ (DV d l ∧ 0 ≤ dPl d id ∧ 0 ≤ cv ∧ cv ≤ 300) → Ok (fun k => impl_DishNeeds.j0 k d l id cv true) (NdR d l id cv) := fun h => Ok.step (fun k => by simp only [impl_DishNeeds.j0]; rfl) (Ok.pos (by trivial) (Ok.ret (.inr ⟨h, rfl⟩)))
  refine Ok.bind (hasDish_ok d l id hd hp hl) fun b hb => Ok.ite (fun h => ?_) (fun h => none fun h' => h (hb.2 ⟨h'.1, h'.2.1⟩))
  obtain ⟨v, h2⟩ := hb.1 h
  rw [within_eq]
  refine Ok.val ?_
  cases hc : inr cv 0 300 with
  | false => exact none fun h' => by rw [(inr_iff _ _ _).2 h'.2.2] at hc; cases hc
  | true =>
    have hcv := (inr_iff _ _ _).1 hc
    obtain ⟨i, hi, e⟩ := dPl_lt h2
    have h4 := v.2.1
    obtain ⟨c, rfl⟩ : ∃ c : Nat, cv = c := ⟨cv.toNat, by omega⟩
    have hP := Pr_small v d.length (Nat.le_refl _)
    have hP0 := Pr_pos v d.length (Nat.le_refl _)
    obtain ⟨e1, e2, e3, e4, e5⟩ := first_num v hi (c := c) (by omega)
    refine Ok.step (fun k => by simp only [impl_DishNeeds.j0]; rfl) (Ok.neg (by simp) ?_)
    refine Ok.range (fun (s : Int) x k => impl_DishNeeds.l0 k d l id (c : Int) s d (d.length : Int) x) d.length (fun x s => s = ((Pr d x : Nat) : Int)) _ ?_ ?_ 1 rfl
    · rintro x _ hx rfl ih
      refine Ok.step (fun k => by simp only [impl_DishNeeds.l0]; rfl) (Ok.pos (by omega) (Ok.pos (by omega) (Ok.pos (by omega) ?_)))
      rw [dAt_rd, wrap_id (n := (x : Int) + 1) (by omega) (by omega)]
      exact ih _ (whole_next v x hx)
    · rintro _ rfl
      refine Ok.step (fun k => by simp only [impl_DishNeeds.l0]; rfl) (Ok.neg (by omega) ?_)
      rw [e5, Int.toNat_natCast]
      refine Ok.pos (by omega) (Ok.pos (Nat.le_trans (m := 2000000) (by omega) (by decide)) (Ok.val (Ok.bind (iAdd_ok v hl d.length i hi hi id e _ _ e2 (rm_zero v hi (by omega))) fun r hr => ?_)))
      have hs := sum0_of v hi (c := c) (by omega) hr
      rw [List.length_replicate]
      have fin : Ok (fun k => impl_DishNeeds.l1 k ((Pr d d.length : Nat) : Int) r (l.length : Int) 0) (NdR d l id (c : Int)) := by
        refine Ok.range (fun (s : List Int) q k => impl_DishNeeds.l1 k ((Pr d d.length : Nat) : Int) s (l.length : Int) q) l.length (fun q s => Rnd d l i c q s) _ ?_ ?_ r ⟨hs.1, fun f hf => by rw [if_neg (by omega)]; exact hs.2 f hf⟩
        · intro q s hq hs ih
          have hq2 := hs.2 q hq
          rw [if_neg (by omega)] at hq2
          have h9 := e4 q
          refine Ok.step (fun k => by simp only [impl_DishNeeds.l1]; rfl) (Ok.pos (by omega) (Ok.pos (by omega) (Ok.pos (by rw [hs.1]; omega) ?_)))
          simp only [impl_roundedUp.f]
          have erd : rd s (q : Int) = ((c * nB d l i q : Nat) : Int) := hq2
          rw [erd, if_neg (by omega), up_eq _ _ h9 (by omega) hP, wrap_id (n := (q : Int) + 1) (by omega) (by omega), Int.toNat_natCast]
          refine Ok.val (Ok.val ?_)
          have erd2 : rd (s.set q (((c * nB d l i q + Pr d d.length - 1) / Pr d d.length : Nat) : Int)) (q : Int) = ((nU d l i c q : Nat) : Int) := by
            show (s.set q _).getD q 0 = _
            rw [getD_set _ _ _ _ _ (by rw [hs.1]; exact hq), if_pos rfl]
            rfl
          rw [erd2]
          refine Ok.ite (fun h10 => Ok.ret (.inl ⟨v, by omega, by omega, i, hi, e, .inr ⟨⟨q, hq, by rw [Int.toNat_natCast]; omega⟩, rfl⟩⟩)) (fun h10 => ih _ (rnd_next hs hq (by omega)))
        · intro s hs
          refine Ok.step (fun k => by simp only [impl_DishNeeds.l1]; rfl) (Ok.neg (by omega) (Ok.ret (.inl ⟨v, by omega, by omega, i, hi, e, .inl ⟨rfl, hs.1, fun f hf => ?_⟩⟩)))
          have := hs.2 f hf
          rw [if_pos hf] at this
          rw [Int.toNat_natCast]
          exact this
      exact fin
end Go.Proofs.Ytclldijjbmnkeaa.Pure
/- The laws' dishes and the program's: copied field by field, and compared. Condition: at most 2,000,000 dishes, each of at most 2,000,000 parts. -/
namespace Go.Proofs.Ytclldijjbmnkeaa.Pure
open Go.RowKit Go.Proofs.YtclldijjbmnkeaaW.PrintWords Go.Proofs.YtclldijjbmnkeaaW.PrintLast Go.Proofs.Ytclldijjbmnkeaa.Q
set_option linter.unusedVariables false
set_option linter.unusedSimpArgs false
abbrev LDs := S76
abbrev LPt := S111
def cvPart (x : LPt) : Pt := ⟨x.f0, x.f1, x.f2⟩
def cvDish (x : LDs) : Ds := ⟨x.f0, x.f1, x.f2.map cvPart⟩
def lAt (l : List LDs) (i : Nat) : LDs := l.getD i z76
theorem lAt_rd (l : List LDs) (i : Nat) : rd_T76 l (i : Int) = lAt l i := rfl
theorem toPartS_ok (l : List LPt) (hl : l.length ≤ 2000000) : Ok (fun k => laws_toPartS.f k l) (· = l.map cvPart) := by
  unfold laws_toPartS.f
  refine Ok.pos (by omega) (Ok.pos (Nat.le_trans (m := 2000000) (by omega) (by decide)) ?_)
  refine Ok.range (fun (s : List Pt) i k => laws_toPartS.l0 k l s i) l.length (fun i s => s.length = l.length ∧ ∀ j, j < i → s.getD j z55 = (l.map cvPart).getD j z55) _ ?_ ?_ _ ⟨by simp, fun j hj => absurd hj (by omega)⟩
  · rintro i s hi ⟨h1, h2⟩ ih
    refine Ok.step (fun k => by simp only [laws_toPartS.l0]; rfl) (Ok.pos (by omega) (Ok.pos (by omega) ?_))
    simp only [laws_toPart.f, Option.bind_some]
    rw [wrap_id (n := (i : Int) + 1) (by omega) (by omega)]
    refine Ok.pos (by omega) (ih _ ⟨by simp [h1], fun j hj => ?_⟩)
    simp only [Int.toNat_natCast]
    rw [getD_set _ _ _ _ _ (by omega)]
    split
    · rename_i e; subst e
      rw [getD_at _ _ _ (by simp; omega), List.getElem_map]
      have e : rd_T111 l (j : Int) = l[j] := getD_at l z111 j (by omega)
      rw [e]; rfl
    · exact h2 j (by omega)
  · rintro s ⟨h1, h2⟩
    exact Ok.step (fun k => by simp only [laws_toPartS.l0]; rfl) (Ok.neg (by omega) (Ok.ret (eq_of_getD z55 (by simp [h1]) (fun i hi => h2 i (by omega)))))
theorem toDishS_ok (l : List LDs) (hl : l.length ≤ 2000000) (hp : ∀ i, i < l.length → (lAt l i).f2.length ≤ 2000000) : Ok (fun k => laws_toDishS.f k l) (· = l.map cvDish) := by
  unfold laws_toDishS.f
  refine Ok.pos (by omega) (Ok.pos (Nat.le_trans (m := 2000000) (by omega) (by decide)) ?_)
  refine Ok.range (fun (s : List Ds) i k => laws_toDishS.l0 k l s i) l.length (fun i s => s.length = l.length ∧ ∀ j, j < i → s.getD j z29 = (l.map cvDish).getD j z29) _ ?_ ?_ _ ⟨by simp, fun j hj => absurd hj (by omega)⟩
  · rintro i s hi ⟨h1, h2⟩ ih
    refine Ok.step (fun k => by simp only [laws_toDishS.l0]; rfl) (Ok.pos (by omega) (Ok.pos (by omega) ?_))
    rw [lAt_rd, wrap_id (n := (i : Int) + 1) (by omega) (by omega)]
    have td : Ok (fun k => laws_toDish.f k (lAt l i).f0 (lAt l i).f1 (lAt l i).f2) (· = ((lAt l i).f0, (lAt l i).f1, (lAt l i).f2.map cvPart)) := by
      unfold laws_toDish.f
      refine Ok.bind (toPartS_ok _ (hp i hi)) ?_
      rintro _ rfl
      exact Ok.ret rfl
    refine Ok.bind td ?_
    rintro _ rfl
    simp only
    refine Ok.pos (by omega) (ih _ ⟨by simp [h1], fun j hj => ?_⟩)
    simp only [Int.toNat_natCast]
    rw [getD_set _ _ _ _ _ (by omega)]
    split
    · rename_i e; subst e
      rw [getD_at _ _ _ (by simp; omega), List.getElem_map]
      have e : lAt l j = l[j] := getD_at l z76 j (by omega)
      rw [e]; rfl
    · exact h2 j (by omega)
  · rintro s ⟨h1, h2⟩
    exact Ok.step (fun k => by simp only [laws_toDishS.l0]; rfl) (Ok.neg (by omega) (Ok.ret (eq_of_getD z29 (by simp [h1]) (fun i hi => h2 i (by omega)))))
theorem map_at (l : List LDs) (i : Nat) (hi : i < l.length) : dAt (l.map cvDish) i = cvDish (lAt l i) := by
  unfold dAt lAt
  rw [getD_at _ _ _ (by simpa using hi), getD_at _ _ _ hi, List.getElem_map]
theorem szDishS_ok (l : List LDs) (hl : l.length ≤ maxLen) (hw : ∀ x ∈ l, x.f2.length ≤ maxLen) : Ok (fun k => laws_szDishS.f k l 1048576) (fun r => r < 0 ∨ (0 ≤ r ∧ r ≤ 1048576 ∧ l.length ≤ 1048576 ∧ ∀ i, i < l.length → (lAt l i).f2.length ≤ 1048576)) := by
  unfold laws_szDishS.f
  have h0 := len_small hl
  rw [wrap_id (n := 1048576 - (l.length : Int)) (by omega) (by omega)]
  refine Ok.ite (fun _ => Ok.ret (.inl (by omega))) (fun hn => ?_)
  refine Ok.range (fun (s : Int) i k => laws_szDishS.l0 k l s i) l.length (fun i s => 0 ≤ s ∧ s ≤ 1048576 ∧ ∀ j, j < i → (lAt l j).f2.length ≤ 1048576) _ ?_ ?_ _ ⟨by omega, by omega, fun j hj => absurd hj (by omega)⟩
  · rintro i s hi ⟨h1, h2, h3⟩ ih
    refine Ok.step (fun k => by simp only [laws_szDishS.l0]; rfl) (Ok.pos (by omega) (Ok.pos (by omega) ?_))
    rw [lAt_rd, wrap_id (n := (i : Int) + 1) (by omega) (by omega)]
    have hx : (lAt l i).f2.length ≤ maxLen := by
      unfold lAt
      rw [getD_at _ _ _ hi]
      exact hw _ (List.getElem_mem hi)
    have hb := len_small hx
    unfold laws_szDish.f laws_szPartS.f
    rw [wrap_id (n := s - ((lAt l i).f2.length : Int)) (by omega) (by omega)]
    by_cases hs : s - ((lAt l i).f2.length : Int) < 0
    · rw [if_pos hs]
      simp only [Option.bind_some]
      rw [if_pos (by omega)]
      simp only [Option.bind_some]
      exact Ok.pos (by omega) (Ok.ret (.inl (by omega)))
    · rw [if_neg hs]
      simp only [Option.bind_some]
      rw [if_neg hs]
      simp only [Option.bind_some]
      refine Ok.neg hs (ih _ ⟨by omega, by omega, fun j hj => ?_⟩)
      rcases Nat.lt_succ_iff_lt_or_eq.1 hj with h4 | rfl
      · exact h3 j h4
      · omega
  · rintro s ⟨h1, h2, h3⟩
    exact Ok.step (fun k => by simp only [laws_szDishS.l0]; rfl) (Ok.neg (by omega) (Ok.ret (.inr ⟨h1, h2, by omega, h3⟩)))
theorem eqPartS_ok (l : List Pt) (hl : l.length ≤ 2000000) : Ok (fun k => laws_eqPartS.f k l l) (· = true) := by
  unfold laws_eqPartS.f
  refine Ok.pos rfl ?_
  refine Ok.range (fun (_ : Unit) i k => laws_eqPartS.l0 k l l i) l.length (fun _ _ => True) _ ?_ ?_ () trivial
  · intro i _ hi _ ih
    refine Ok.step (fun k => by simp only [laws_eqPartS.l0]; rfl) (Ok.pos (by omega) (Ok.pos (by omega) (Ok.pos (by omega) ?_)))
    simp only [laws_eqPart.f, if_true, Option.bind_some]
    rw [wrap_id (n := (i : Int) + 1) (by omega) (by omega)]
    exact ih () trivial
  · intro _ _
    exact Ok.step (fun k => by simp only [laws_eqPartS.l0]; rfl) (Ok.neg (by omega) (Ok.ret rfl))
theorem eqDishS_ok (l : List Ds) (hl : l.length ≤ 2000000) (hp : ∀ i, i < l.length → (dAt l i).f2.length ≤ 2000000) : Ok (fun k => laws_eqDishS.f k l l) (· = true) := by
  unfold laws_eqDishS.f
  refine Ok.pos rfl ?_
  refine Ok.range (fun (_ : Unit) i k => laws_eqDishS.l0 k l l i) l.length (fun _ _ => True) _ ?_ ?_ () trivial
  · intro i _ hi _ ih
    refine Ok.step (fun k => by simp only [laws_eqDishS.l0]; rfl) (Ok.pos (by omega) (Ok.pos (by omega) (Ok.pos (by omega) ?_)))
    rw [dAt_rd, wrap_id (n := (i : Int) + 1) (by omega) (by omega)]
    have te : Ok (fun k => laws_eqDish.f k (dAt l i).f0 (dAt l i).f1 (dAt l i).f2 (dAt l i).f0 (dAt l i).f1 (dAt l i).f2) (· = true) := by
      unfold laws_eqDish.f
      refine Ok.pos rfl (Ok.pos rfl (Ok.bind (eqPartS_ok _ (hp i hi)) ?_))
      rintro _ rfl
      exact Ok.pos (by trivial) (Ok.ret rfl)
    refine Ok.bind te ?_
    rintro _ rfl
    exact Ok.pos (by trivial) (ih () trivial)
  · intro _ _
    exact Ok.step (fun k => by simp only [laws_eqDishS.l0]; rfl) (Ok.neg (by omega) (Ok.ret rfl))
end Go.Proofs.Ytclldijjbmnkeaa.Pure
/- The laws' marks in lists of dishes. Condition: at most 2,000,000 dishes, each of at most 2,000,000 parts. -/
namespace Go.Proofs.Ytclldijjbmnkeaa.Pure
open Go.RowKit Go.Proofs.YtclldijjbmnkeaaW.PrintWords Go.Proofs.YtclldijjbmnkeaaW.PrintLast Go.Proofs.Ytclldijjbmnkeaa.Q
set_option linter.unusedVariables false
set_option linter.unusedSimpArgs false
theorem markPartS_ok (l : List Pt) (c0 : Int) (h0 : 0 ≤ c0) (h1 : c0 ≤ 1000000000000000) (hl : l.length ≤ 2000000) : Ok (fun k => laws_markPartS.f k l c0) (fun r => r.1 = c0 + 3 * l.length ∧ r.2.length = l.length) := by
  unfold laws_markPartS.f
  refine Ok.range (fun (s : List Pt × Int) i k => laws_markPartS.l0 k s.1 s.2 i) l.length (fun i s => s.1.length = l.length ∧ s.2 = c0 + 3 * i) _ ?_ ?_ (l, c0) ⟨rfl, by simp⟩
  · rintro i ⟨xs, c⟩ hi ⟨h2, h3⟩ ih
    simp only at h2 h3
    have ew : wrap64 ((i : Int) + 1) = (i : Int) + 1 := wrap_id (by omega) (by omega)
    have e1 : wrap64 (c + 1) = c + 1 := wrap_id (by omega) (by omega)
    have e2 : wrap64 (c + 1 + 1) = c + 2 := by rw [wrap_id (n := c + 1 + 1) (by omega) (by omega)]; omega
    have e3 : wrap64 (c + 2 + 1) = c + 3 := by rw [wrap_id (n := c + 2 + 1) (by omega) (by omega)]; omega
    refine Ok.step (fun k => by simp only [laws_markPartS.l0]; rfl) (Ok.pos (by omega) (Ok.pos (by omega) ?_))
    simp only [e1, e2, e3, ew]
    refine Ok.val (Ok.val (ih (_, _) ⟨by simp [h2], by simp only; omega⟩))
  · rintro ⟨xs, c⟩ ⟨h2, h3⟩
    simp only at h2 h3
    refine Ok.step (fun k => by simp only [laws_markPartS.l0]; rfl) (Ok.neg (by omega) (Ok.ret ⟨h3, h2⟩))
theorem markDishS_ok (l : List Ds) (hl : l.length ≤ 2000000) (hp : ∀ i, i < l.length → (dAt l i).f2.length ≤ 2000000) : Ok (fun k => laws_markDishS.f k l 1) (fun r => 0 ≤ r ∧ r ≤ 100000000000000) := by
  unfold laws_markDishS.f laws_markDishS.f2
  refine Ok.bind (P := fun t => 0 ≤ t.1 ∧ t.1 ≤ 100000000000000) ?_ (fun t ht => Ok.ret ht)
  refine Ok.range (fun (s : List Ds × Int) i k => laws_markDishS.l0 k s.1 s.2 i) l.length (fun i s => s.1.length = l.length ∧ (∀ j, j < l.length → (dAt s.1 j).f2.length ≤ 2000000) ∧ 0 ≤ s.2 ∧ s.2 ≤ 1 + 6000002 * i) _ ?_ ?_ (l, 1) ⟨rfl, hp, by simp, by simp⟩
  · rintro i ⟨xs, c⟩ hi ⟨h2, h3, h4, h5⟩ ih
    simp only at h2 h3 h4 h5 ih
    refine Ok.step (fun k => by simp only [laws_markDishS.l0]; rfl) (Ok.pos (by omega) (Ok.pos (by omega) (Ok.val ?_)))
    have e2 : wrap64 ((wrap64 (c + 1)) + 1) = c + 2 := by
      rw [wrap_id (n := c + 1) (by omega) (by omega), wrap_id (n := c + 1 + 1) (by omega) (by omega)]; omega
    rw [e2, wrap_id (n := (i : Int) + 1) (by omega) (by omega), Int.toNat_natCast]
    have ge : ∀ (ys : List Ds) (x : Ds), ys.length = l.length → rd_T29 (ys.set i x) (i : Int) = x := by
      intro ys x hy
      show (ys.set i x).getD i z29 = x
      rw [getD_set _ _ _ _ _ (by omega), if_pos rfl]
    have h2' : ∀ a : Ds, (xs.set i a).length = l.length := fun a => by rw [List.length_set]; exact h2
    simp only [ge _ _ h2, ge _ _ (h2' _)]
    have hpi : (rd_T29 xs (i : Int)).f2.length ≤ 2000000 := h3 i hi
    refine Ok.bind (markPartS_ok _ (c + 2) (by omega) (by omega) hpi) ?_
    rintro ⟨c2, ps⟩ ⟨h6, h7⟩
    simp only at h6 h7 ⊢
    refine ih (_, c2) ⟨by simp [h2], fun j hj => ?_, by simp only; omega, by simp only; omega⟩
    unfold dAt
    rw [getD_set _ _ _ _ _ (by simp; omega)]
    split
    · simp only; omega
    · rename_i hne
      rw [getD_set _ _ _ _ _ (by simp; omega), if_neg hne, getD_set _ _ _ _ _ (by omega), if_neg hne]
      exact h3 j hj
  · rintro ⟨xs, c⟩ ⟨h2, h3, h4, h5⟩
    simp only at h2 h3 h4 h5
    exact Ok.step (fun k => by simp only [laws_markDishS.l0]; rfl) (Ok.neg (by omega) (Ok.ret ⟨h4, by simp only; omega⟩))
end Go.Proofs.Ytclldijjbmnkeaa.Pure
/- The laws' foods and the program's: copied field by field. Condition: at most 2,000,000. -/
namespace Go.Proofs.Ytclldijjbmnkeaa.Pure
open Go.RowKit Go.Proofs.YtclldijjbmnkeaaW.PrintWords Go.Proofs.YtclldijjbmnkeaaW.PrintLast Go.Proofs.Ytclldijjbmnkeaa.Q
set_option linter.unusedVariables false
set_option linter.unusedSimpArgs false

def cvFood (x : S81) : S63 := ⟨x.f0, x.f1, x.f2, x.f3, x.f4, x.f5⟩
theorem toFoodS_ok (l : List S81) (hl : l.length ≤ 2000000) : Ok (fun k => laws_toFoodS.f k l) (· = l.map cvFood) := by
  unfold laws_toFoodS.f
  refine Ok.pos (by omega) (Ok.pos (Nat.le_trans (m := 2000000) (by omega) (by decide)) ?_)
  refine Ok.range (fun (s : List S63) i k => laws_toFoodS.l0 k l s i) l.length (fun i s => s.length = l.length ∧ ∀ j, j < i → s.getD j z63 = (l.map cvFood).getD j z63) _ ?_ ?_ _ ⟨by simp, fun j hj => absurd hj (by omega)⟩
  · rintro i s hi ⟨h1, h2⟩ ih
    have ew : wrap64 ((i : Int) + 1) = (i : Int) + 1 := wrap_id (by omega) (by omega)
    refine Ok.step (fun k => by simp only [laws_toFoodS.l0]; rfl) (Ok.pos (by omega) (Ok.pos (by omega) ?_))
    simp only [laws_toFood.f, Option.bind_some, ew]
    refine Ok.pos (by omega) (ih _ ⟨by simp [h1], fun j hj => ?_⟩)
    simp only [Int.toNat_natCast]
    rw [getD_set _ _ _ _ _ (by omega)]
    split
    · rename_i e; subst e
      rw [getD_at _ _ _ (by simp; omega), List.getElem_map]
      have e : rd_T81 l (j : Int) = l[j] := getD_at l z81 j (by omega)
      rw [e]; rfl
    · exact h2 j (by omega)
  · rintro s ⟨h1, h2⟩
    exact Ok.step (fun k => by simp only [laws_toFoodS.l0]; rfl) (Ok.neg (by omega) (Ok.ret (eq_of_getD z63 (by simp [h1]) (fun i hi => h2 i (by omega)))))
theorem szFoodS_eq (l : List S81) (a : Int) (h0 : 0 ≤ a) (h1 : a ≤ 9223372036854775807) (hl : l.length ≤ maxLen) : laws_szFoodS.f l a = some (if (l.length : Int) ≤ a then a - l.length else -1) := by
  unfold laws_szFoodS.f
  have := len_small hl
  rw [wrap_id (n := a - (l.length : Int)) (by omega) (by omega)]
  by_cases h : (l.length : Int) ≤ a
  · rw [if_neg (by omega), if_pos h]
  · rw [if_pos (by omega), if_neg h]
end Go.Proofs.Ytclldijjbmnkeaa.Pure
/- The laws' comparison of lists of foods: a list is equal to itself. Condition: at most 2,000,000. -/
namespace Go.Proofs.Ytclldijjbmnkeaa.Pure
open Go.RowKit Go.Proofs.YtclldijjbmnkeaaW.PrintWords Go.Proofs.YtclldijjbmnkeaaW.PrintLast Go.Proofs.Ytclldijjbmnkeaa.Q
set_option linter.unusedVariables false
set_option linter.unusedSimpArgs false

theorem eqFoodS_ok (l : List S63) (hl : l.length ≤ 2000000) : Ok (fun k => laws_eqFoodS.f k l l) (· = true) := by
  unfold laws_eqFoodS.f
  refine Ok.pos rfl ?_
  refine Ok.range (fun (_ : Unit) i k => laws_eqFoodS.l0 k l l i) l.length (fun _ _ => True) _ ?_ ?_ () trivial
  · intro i _ hi _ ih
    have ew : wrap64 ((i : Int) + 1) = (i : Int) + 1 := wrap_id (by omega) (by omega)
    refine Ok.step (fun k => by simp only [laws_eqFoodS.l0]; rfl) (Ok.pos (by omega) (Ok.pos (by omega) (Ok.pos (by omega) ?_)))
    simp only [laws_eqFood.f, ew, if_true, Option.bind_some, bne_self_eq_false, Bool.false_eq_true, if_false]
    exact ih () trivial
  · intro _ _
    exact Ok.step (fun k => by simp only [laws_eqFoodS.l0]; rfl) (Ok.neg (by omega) (Ok.ret rfl))
end Go.Proofs.Ytclldijjbmnkeaa.Pure
/- The laws' marks in lists of foods. Condition: at most 2,000,000. -/
namespace Go.Proofs.Ytclldijjbmnkeaa.Pure
open Go.RowKit Go.Proofs.YtclldijjbmnkeaaW.PrintWords Go.Proofs.YtclldijjbmnkeaaW.PrintLast Go.Proofs.Ytclldijjbmnkeaa.Q
set_option linter.unusedVariables false
set_option linter.unusedSimpArgs false

theorem markFoodS_ok (l : List S63) (c0 : Int) (h0 : 0 ≤ c0) (h1 : c0 ≤ 1000000000000000) (hl : l.length ≤ 2000000) : Ok (fun k => laws_markFoodS.f k l c0) (fun r => r.1 = c0 + 6 * l.length) := by
  unfold laws_markFoodS.f
  refine Ok.range (fun (s : List S63 × Int) i k => laws_markFoodS.l0 k s.1 s.2 i) l.length (fun i s => s.1.length = l.length ∧ s.2 = c0 + 6 * i) _ ?_ ?_ (l, c0) ⟨rfl, by simp⟩
  · rintro i ⟨xs, c⟩ hi ⟨h2, h3⟩ ih
    simp only at h2 h3
    have ew : wrap64 ((i : Int) + 1) = (i : Int) + 1 := wrap_id (by omega) (by omega)
    have e1 : wrap64 (c + 1) = c + 1 := wrap_id (by omega) (by omega)
    have e2 : wrap64 (c + 1 + 1) = c + 2 := by rw [wrap_id (n := c + 1 + 1) (by omega) (by omega)]; omega
    have e3 : wrap64 (c + 2 + 1) = c + 3 := by rw [wrap_id (n := c + 2 + 1) (by omega) (by omega)]; omega
    have e4 : wrap64 (c + 3 + 1) = c + 4 := by rw [wrap_id (n := c + 3 + 1) (by omega) (by omega)]; omega
    have e5 : wrap64 (c + 4 + 1) = c + 5 := by rw [wrap_id (n := c + 4 + 1) (by omega) (by omega)]; omega
    have e6 : wrap64 (c + 5 + 1) = c + 6 := by rw [wrap_id (n := c + 5 + 1) (by omega) (by omega)]; omega
    refine Ok.step (fun k => by simp only [laws_markFoodS.l0]; rfl) (Ok.pos (by omega) (Ok.pos (by omega) ?_))
    simp only [e1, e2, e3, e4, e5, e6, ew]
    refine Ok.val (Ok.val (Ok.val (Ok.val (Ok.val (ih (_, _) ⟨by simp [h2], by simp only; omega⟩)))))
  · rintro ⟨xs, c⟩ ⟨h2, h3⟩
    simp only at h2 h3
    refine Ok.step (fun k => by simp only [laws_markFoodS.l0]; rfl) (Ok.neg (by omega) (Ok.ret ?_))
    exact h3
end Go.Proofs.Ytclldijjbmnkeaa.Pure
/- Lists of whole numbers. Condition: at most 2,000,000 elements. -/
namespace Go.Proofs.Ytclldijjbmnkeaa.Pure
open Go.RowKit Go.Proofs.YtclldijjbmnkeaaW.PrintWords Go.Proofs.YtclldijjbmnkeaaW.PrintLast Go.Proofs.Ytclldijjbmnkeaa.Q
set_option linter.unusedVariables false
set_option linter.unusedSimpArgs false

theorem eqIntS_ok (a b : List Int) (hl : a.length ≤ 2000000) : Ok (fun k => laws_eqIntS.f k a b) (fun r => r = true ↔ a = b) := by
  unfold laws_eqIntS.f
  by_cases h : a.length = b.length
  · refine Ok.pos (by omega) ?_
    refine Ok.range (fun (_ : Unit) i k => laws_eqIntS.l0 k a b i) a.length (fun i _ => ∀ j, j < i → a.getD j 0 = b.getD j 0) _ ?_ ?_ () (fun j hj => absurd hj (by omega))
    · intro i _ hi hinv ih
      have ew : wrap64 ((i : Int) + 1) = (i : Int) + 1 := wrap_id (by omega) (by omega)
      refine Ok.step (fun k => by simp only [laws_eqIntS.l0]; rfl) (Ok.pos (by omega) (Ok.pos (by omega) (Ok.pos (by omega) ?_)))
      rw [ew, rd_nat, rd_nat]
      refine Ok.ite (fun h1 => ih () fun j hj => ?_) (fun h1 => Ok.ret ⟨fun h' => (by cases h'), fun h' => absurd (by rw [h']) h1⟩)
      rcases Nat.lt_succ_iff_lt_or_eq.1 hj with h2 | rfl
      · exact hinv j h2
      · exact h1
    · intro _ hinv
      exact Ok.step (fun k => by simp only [laws_eqIntS.l0]; rfl) (Ok.neg (by omega) (Ok.ret ⟨fun _ => eq_of_getD 0 h hinv, fun _ => rfl⟩))
  · exact Ok.neg (by omega) (Ok.ret ⟨fun h' => (by cases h'), fun h' => absurd (by rw [h']) h⟩)
end Go.Proofs.Ytclldijjbmnkeaa.Pure
/- Lists of whole numbers. Condition: at most 2,000,000 elements. -/
namespace Go.Proofs.Ytclldijjbmnkeaa.Pure
open Go.RowKit Go.Proofs.YtclldijjbmnkeaaW.PrintWords Go.Proofs.YtclldijjbmnkeaaW.PrintLast Go.Proofs.Ytclldijjbmnkeaa.Q
set_option linter.unusedVariables false
set_option linter.unusedSimpArgs false

theorem markIntS_ok (l : List Int) (hl : l.length ≤ 2000000) : Ok (fun k => laws_markIntS.f k l 1) (fun r => r.1 = (l.length : Int) + 1 ∧ r.2.length = l.length ∧ ∀ j, j < l.length → r.2.getD j 0 = (j : Int) + 1) := by
  unfold laws_markIntS.f
  refine Ok.range (fun (s : List Int × Int) i k => laws_markIntS.l0 k s.1 s.2 i) l.length (fun i s => s.1.length = l.length ∧ s.2 = (i : Int) + 1 ∧ ∀ j, j < i → s.1.getD j 0 = (j : Int) + 1) _ ?_ ?_ (l, 1) ⟨rfl, rfl, fun j hj => absurd hj (by omega)⟩
  · rintro i ⟨xs, c⟩ hi ⟨h1, h2, h3⟩ ih
    simp only at h1 h2 h3
    subst h2
    have ew : wrap64 ((i : Int) + 1) = (i : Int) + 1 := wrap_id (by omega) (by omega)
    have ew2 : wrap64 ((i : Int) + 1 + 1) = ((i : Int) + 1) + 1 := wrap_id (by omega) (by omega)
    refine Ok.step (fun k => by simp only [laws_markIntS.l0]; rfl) (Ok.pos (by omega) (Ok.pos (by omega) ?_))
    rw [ew2, ew]
    refine ih (_, _) ⟨by simp [h1], by simp, fun j hj => ?_⟩
    simp only [Int.toNat_natCast]
    rw [getD_set _ _ _ _ _ (by omega)]
    split
    · rename_i e; subst e; rfl
    · exact h3 j (by omega)
  · rintro ⟨xs, c⟩ ⟨h1, h2, h3⟩
    simp only at h1 h2 h3
    exact Ok.step (fun k => by simp only [laws_markIntS.l0]; rfl) (Ok.neg (by omega) (Ok.ret ⟨h2, h1, h3⟩))
theorem heldIntS_ok (l : List Int) (hl : l.length ≤ 2000000) (h : ∀ j, j < l.length → l.getD j 0 = (j : Int) + 1) : Ok (fun k => laws_heldIntS.f k l 1) (· = (l.length : Int) + 1) := by
  unfold laws_heldIntS.f
  refine Ok.range (fun (c : Int) i k => laws_heldIntS.l0 k l c i) l.length (fun i c => c = (i : Int) + 1) _ ?_ ?_ 1 rfl
  · rintro i _ hi rfl ih
    have ew : wrap64 ((i : Int) + 1) = (i : Int) + 1 := wrap_id (by omega) (by omega)
    have ew2 : wrap64 ((i : Int) + 1 + 1) = ((i : Int) + 1) + 1 := wrap_id (by omega) (by omega)
    refine Ok.step (fun k => by simp only [laws_heldIntS.l0]; rfl) (Ok.pos (by omega) (Ok.pos (by omega) (Ok.pos (by rw [rd_nat, h i hi]) ?_)))
    rw [ew2, ew]
    exact ih _ (by simp)
  · rintro _ rfl
    exact Ok.step (fun k => by simp only [laws_heldIntS.l0]; rfl) (Ok.neg (by omega) (Ok.ret rfl))
end Go.Proofs.Ytclldijjbmnkeaa.Pure
/- The program's DishNeeds returns what the reference's returns, for all arguments. No conditions. -/
namespace Go.Proofs.Ytclldijjbmnkeaa.Pure
open Go.RowKit Go.Proofs.YtclldijjbmnkeaaW.PrintWords Go.Proofs.YtclldijjbmnkeaaW.PrintLast Go.Proofs.Ytclldijjbmnkeaa.Q
set_option linter.unusedVariables false
set_option linter.unusedSimpArgs false
theorem FnExactDishNeeds (l : List S76) (hm : l.length ≤ maxLen) (hw : ∀ x ∈ l, x.f2.length ≤ maxLen) (l' : List S81) (hm' : l'.length ≤ maxLen) (id : Int) (_ : (Lit.int .i64 id).wf = true) (cv : Int) (_ : (Lit.int .i64 cv).wf = true) : ∃ k, laws_FnExactDishNeeds.f k l l' id cv = some true := by
  apply Ok.rounds
  unfold laws_FnExactDishNeeds.f
  refine Ok.bind (szDishS_ok l hm hw) fun r hr => Ok.ite (fun _ => Ok.ret rfl) fun h => ?_
  rcases hr with hr | ⟨hr0, hr1, hl, hp⟩
  · exact absurd hr h
  rw [szFoodS_eq l' _ (by omega) (by omega) hm']
  refine Ok.val (Ok.ite (fun _ => Ok.ret rfl) fun h' => ?_)
  have hc : l'.length ≤ 2000000 := by
    split at h' <;> omega
  have hl2 : l.length ≤ 2000000 := by omega
  have hp2 : ∀ i, i < l.length → (lAt l i).f2.length ≤ 2000000 := fun i hi => by have := hp i hi; omega
  have hl' : (l.map cvDish).length ≤ 2000000 := by simpa using hl2
  have hp' : ∀ i, i < (l.map cvDish).length → (dAt (l.map cvDish) i).f2.length ≤ 2000000 := fun i hi => by
    have hi' : i < l.length := by simpa using hi
    rw [map_at l i hi']
    simpa [cvDish] using hp2 i hi'
  have hc' : (l'.map cvFood).length ≤ 2000000 := by simpa using hc
  refine Ok.bind (toDishS_ok l hl2 hp2) ?_
  rintro _ rfl
  refine Ok.bind (toFoodS_ok l' hc) ?_
  rintro _ rfl
  refine Ok.bind (sNeeds_ok _ _ id cv hl' hp' hc') fun r1 h1 => Ok.bind (toDishS_ok l hl2 hp2) ?_
  rintro _ rfl
  refine Ok.bind (toFoodS_ok l' hc) ?_
  rintro _ rfl
  have hr : r1.1.length ≤ 2000000 := by
    rcases h1 with ⟨v, c0, c1, i, hi, e, ⟨h1, h2, h3⟩ | ⟨_, rfl⟩⟩ | ⟨h, rfl⟩
    · omega
    · simp
    · simp
  refine Ok.bind (iNeeds_ok _ _ id cv hl' hp' hc') fun r2 h2 => ?_
  obtain rfl := ndR_eq h1 h2
  refine Ok.bind (eqIntS_ok r1.1 r1.1 hr) fun b hb => Ok.pos (hb.2 rfl) (Ok.step (fun k => by simp only [laws_FnExactDishNeeds.j0]; rfl) (Ok.neg (by simp) (Ok.bind (toDishS_ok l hl2 hp2) ?_)))
  rintro _ rfl
  refine Ok.bind (eqDishS_ok _ hl' hp') ?_
  rintro _ rfl
  refine Ok.pos (by trivial) (Ok.bind (toFoodS_ok l' hc) ?_)
  rintro _ rfl
  refine Ok.bind (eqFoodS_ok _ hc') ?_
  rintro _ rfl
  refine Ok.pos (by trivial) (Ok.bind (markDishS_ok _ hl' hp') fun m hmk => Ok.bind (markFoodS_ok _ m (by omega) (by omega) hc') fun m2 hm2 => Ok.neg (by omega) (Ok.bind (eqIntS_ok r1.1 r1.1 hr) fun b hb => Ok.pos (hb.2 rfl) ?_))
  refine Ok.step (fun k => by simp only [laws_FnExactDishNeeds.j1]; rfl) (Ok.neg (by simp) (Ok.bind (markIntS_ok r1.1 hr) ?_))
  rintro ⟨c, ys⟩ ⟨e1, e2, e3⟩
  simp only at e1 e2 e3 ⊢
  have held := heldIntS_ok ys (by omega) (by rw [e2]; exact e3)
  rw [e2, ← e1] at held
  refine Ok.bind held ?_
  rintro _ rfl
  refine Ok.neg (by omega) (Ok.pos rfl (Ok.bind (toDishS_ok l hl2 hp2) ?_))
  rintro _ rfl
  refine Ok.bind (toFoodS_ok l' hc) ?_
  rintro _ rfl
  refine Ok.bind (iNeeds_ok _ _ id cv hl' hp' hc') fun r3 h3 => ?_
  obtain rfl := ndR_eq h1 h3
  refine Ok.bind (eqIntS_ok r1.1 r1.1 hr) fun b hb => Ok.pos (hb.2 rfl) (Ok.step (fun k => by simp only [laws_FnExactDishNeeds.j2]; rfl) (Ok.neg (by simp) (Ok.bind held ?_)))
  rintro _ rfl
  exact Ok.neg (by omega) (Ok.pos rfl (Ok.ret rfl))
end Go.Proofs.Ytclldijjbmnkeaa.Pure
