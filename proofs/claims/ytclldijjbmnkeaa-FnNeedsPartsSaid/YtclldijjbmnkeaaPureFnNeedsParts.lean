/- A dish needs what its parts need: the law comes to true for every input. No conditions. -/
import Derived.Test.YtclldijjbmnkeaaWMore
import Derived.Test.YtclldijjbmnkeaaQx0
import Derived.Test.YtclldijjbmnkeaaQx1
import Derived.Test.YtclldijjbmnkeaaQx10
import Derived.Test.YtclldijjbmnkeaaQx11
import Derived.Test.YtclldijjbmnkeaaQx12
import Derived.Test.YtclldijjbmnkeaaQx16
import Derived.Test.YtclldijjbmnkeaaQx2
import Derived.Test.YtclldijjbmnkeaaQx21
import Derived.Test.YtclldijjbmnkeaaQx22
import Derived.Test.YtclldijjbmnkeaaQx26
import Derived.Test.YtclldijjbmnkeaaQx29
import Derived.Test.YtclldijjbmnkeaaQx3
import Derived.Test.YtclldijjbmnkeaaQx32
import Derived.Test.YtclldijjbmnkeaaQx34
import Derived.Test.YtclldijjbmnkeaaQx5
/- Plain logic for printed functions: from some number of rounds on a function answers, and its answer fits. No conditions. -/
namespace Go.Proofs.Ytclldijjbmnkeaa.Pure
open Go.RowKit Go.Proofs.YtclldijjbmnkeaaW.PrintWords Go.Proofs.YtclldijjbmnkeaaW.PrintLast

/-- g answers from some number of rounds on, and the answer is as Q says. -/
def Ok {α : Type} (g : Nat → Option α) (Q : α → Prop) : Prop := ∃ r, Ev g r ∧ Q r
theorem Ok.ret {α : Type} {r : α} {Q : α → Prop} (h : Q r) : Ok (fun _ => some r) Q := ⟨r, Ev.now r, h⟩
theorem Ok.bind {α β : Type} {g : Nat → Option α} {f : Nat → α → Option β} {P : α → Prop} {Q : β → Prop} (h : Ok g P) (k : ∀ a, P a → Ok (fun n => f n a) Q) : Ok (fun n => (g n).bind (f n)) Q := by
  obtain ⟨a, ha, hp⟩ := h
  obtain ⟨r, hr, hq⟩ := k a hp
  exact ⟨r, Ev.bind ha hr, hq⟩
theorem Ok.val {α β : Type} {a : α} {f : Nat → α → Option β} {Q : β → Prop} (h : Ok (fun n => f n a) Q) : Ok (fun n => (some a).bind (f n)) Q := h
theorem Ok.pos {α : Type} {c : Prop} [Decidable c] {t e : Nat → Option α} {Q : α → Prop} (hc : c) (h : Ok t Q) : Ok (fun n => if c then t n else e n) Q := by simpa only [if_pos hc] using h
theorem Ok.neg {α : Type} {c : Prop} [Decidable c] {t e : Nat → Option α} {Q : α → Prop} (hc : ¬ c) (h : Ok e Q) : Ok (fun n => if c then t n else e n) Q := by simpa only [if_neg hc] using h
theorem Ok.ite {α : Type} {c : Prop} [Decidable c] {t e : Nat → Option α} {Q : α → Prop} (h : c → Ok t Q) (k : ¬ c → Ok e Q) : Ok (fun n => if c then t n else e n) Q := by
  by_cases hc : c
  · exact Ok.pos hc (h hc)
  · exact Ok.neg hc (k hc)
theorem Ok.step {α : Type} {g f : Nat → Option α} {Q : α → Prop} (h : ∀ k, g (k + 1) = f k) (k : Ok f Q) : Ok g Q := by
  obtain ⟨r, hr, hq⟩ := k
  exact ⟨r, Ev.step h hr, hq⟩
theorem Ok.congr {α : Type} {g f : Nat → Option α} {Q : α → Prop} (h : ∀ k, g k = f k) (k : Ok f Q) : Ok g Q := by
  obtain ⟨r, hr, hq⟩ := k
  exact ⟨r, Ev.congr h hr, hq⟩
theorem Ok.mono {α : Type} {g : Nat → Option α} {P Q : α → Prop} (h : Ok g P) (k : ∀ a, P a → Q a) : Ok g Q := by
  obtain ⟨r, hr, hp⟩ := h
  exact ⟨r, hr, k r hp⟩
theorem Ok.and {α : Type} {g : Nat → Option α} {P Q : α → Prop} (h : Ok g P) (k : Ok g Q) : Ok g (fun a => P a ∧ Q a) := by
  obtain ⟨r, ⟨K, hr⟩, hp⟩ := h
  obtain ⟨r', ⟨K', hr'⟩, hq⟩ := k
  have h1 := hr (max K K') (by omega)
  have h2 := hr' (max K K') (by omega)
  obtain rfl : r = r' := by rw [h1] at h2; injection h2
  exact ⟨r, ⟨K, hr⟩, hp, hq⟩
theorem Ok.rounds {α : Type} {g : Nat → Option α} {r : α} (h : Ok g (· = r)) : ∃ k, g k = some r := by
  obtain ⟨_, hr, rfl⟩ := h
  exact hr.rounds
theorem wrap_id {n : Int} (h0 : -9223372036854775808 ≤ n) (h1 : n ≤ 9223372036854775807) : wrap64 n = n := by unfold wrap64; omega
theorem wfu8 {n : Int} (h : (Lit.int .u8 n).wf = true) : 0 ≤ n ∧ n ≤ 255 := by
  simp [Lit.wf, IntKind.min, IntKind.max, IntKind.signed, IntKind.bits] at h
  omega
/-- A loop that counts an index up to n, with what else it carries in s. -/
theorem Ok.range {σ ρ : Type} (L : σ → Int → Nat → Option ρ) (n : Nat) (Inv : Nat → σ → Prop) (Q : ρ → Prop)
    (step : ∀ (i : Nat) (s : σ), i < n → Inv i s → (∀ s', Inv (i + 1) s' → Ok (L s' ((i : Int) + 1)) Q) → Ok (L s (i : Int)) Q)
    (last : ∀ s, Inv n s → Ok (L s (n : Int)) Q) : ∀ s, Inv 0 s → Ok (L s 0) Q := by
  have key : ∀ d i, i + d = n → ∀ s, Inv i s → Ok (L s (i : Int)) Q := by
    intro d
    induction d with
    | zero => intro i hi s hs; obtain rfl : i = n := (by omega); exact last s hs
    | succ d ih =>
      intro i hi s hs
      refine step i s (by omega) hs fun s' hs' => ?_
      have := ih (i + 1) (by omega) s' hs'
      rwa [show ((i + 1 : Nat) : Int) = (i : Int) + 1 by omega] at this
  exact fun s hs => key n 0 (by omega) s hs
theorem getD_at {α : Type} (l : List α) (d : α) (i : Nat) (h : i < l.length) : l.getD i d = l[i] := by
  rw [List.getD_eq_getElem?_getD, List.getElem?_eq_getElem h, Option.getD_some]
end Go.Proofs.Ytclldijjbmnkeaa.Pure
/- Lists, read and written element by element. No conditions. -/
namespace Go.Proofs.Ytclldijjbmnkeaa.Pure
open Go.RowKit Go.Proofs.YtclldijjbmnkeaaW.PrintWords Go.Proofs.YtclldijjbmnkeaaW.PrintLast
set_option linter.unusedVariables false
set_option linter.unusedSimpArgs false

theorem rd_nat (l : List Int) (i : Nat) : rd l (i : Int) = l.getD i 0 := rfl
theorem eq_of_getD {α : Type} {a b : List α} (d : α) (h : a.length = b.length) (k : ∀ i, i < a.length → a.getD i d = b.getD i d) : a = b := by
  refine List.ext_getElem h fun i h1 h2 => ?_
  have := k i h1
  rwa [getD_at _ _ _ h1, getD_at _ _ _ h2] at this
theorem getD_set {α : Type} (l : List α) (d v : α) (i j : Nat) (hi : i < l.length) : (l.set i v).getD j d = if j = i then v else l.getD j d := by
  rw [List.getD_eq_getElem?_getD, List.getElem?_set]
  by_cases h : i = j
  · subst h; simp [hi]
  · rw [if_neg h, if_neg (fun e => h e.symm), ← List.getD_eq_getElem?_getD]
end Go.Proofs.Ytclldijjbmnkeaa.Pure
/- The program's dishes, as lists. No conditions. -/
namespace Go.Proofs.Ytclldijjbmnkeaa.Pure
open Go.RowKit Go.Proofs.YtclldijjbmnkeaaW.PrintWords Go.Proofs.YtclldijjbmnkeaaW.PrintLast Go.Proofs.Ytclldijjbmnkeaa.Q
set_option linter.unusedVariables false
set_option linter.unusedSimpArgs false
abbrev Pt := S55
abbrev Ds := S29
def dAt (l : List Ds) (i : Nat) : Ds := l.getD i z29
theorem dAt_rd (l : List Ds) (i : Nat) : rd_T29 l (i : Int) = dAt l i := rfl
end Go.Proofs.Ytclldijjbmnkeaa.Pure
/- The place of a dish, in the program and in the reference. Condition: at most 2,000,000 dishes. -/
namespace Go.Proofs.Ytclldijjbmnkeaa.Pure
open Go.RowKit Go.Proofs.YtclldijjbmnkeaaW.PrintWords Go.Proofs.YtclldijjbmnkeaaW.PrintLast Go.Proofs.Ytclldijjbmnkeaa.Q
set_option linter.unusedVariables false
set_option linter.unusedSimpArgs false
def dPl (l : List Ds) (id : Int) : Int := idxOf (fun x => x.f0 == id) l
theorem iDFind_eq (l : List Ds) (id : Int) : impl_DishesFind.f l id = some (dPl l id) := rfl
theorem dPl_none {l : List Ds} {id : Int} (h : ∀ j, j < l.length → (dAt l j).f0 ≠ id) : dPl l id = -1 := idxOf_miss _ l z29 fun j hj => beq_eq_false_iff_ne.2 (h j hj)
theorem dPl_hit {l : List Ds} {id : Int} {k : Nat} (hk : k < l.length) (h : (dAt l k).f0 = id) (hn : ∀ j, j < k → (dAt l j).f0 ≠ id) : dPl l id = (k : Int) := idxOf_hit _ l z29 k hk (beq_iff_eq.2 h) fun j hj => beq_eq_false_iff_ne.2 (hn j hj)
theorem dPl_is (l : List Ds) (id : Int) : (dPl l id = -1 ∧ ∀ j, j < l.length → (dAt l j).f0 ≠ id) ∨ ∃ k : Nat, dPl l id = k ∧ k < l.length ∧ (dAt l k).f0 = id ∧ ∀ j, j < k → (dAt l j).f0 ≠ id := by
  have key : ∀ d i, i + d = l.length → (∀ j, j < i → (dAt l j).f0 ≠ id) → (dPl l id = -1 ∧ ∀ j, j < l.length → (dAt l j).f0 ≠ id) ∨ ∃ k : Nat, dPl l id = k ∧ k < l.length ∧ (dAt l k).f0 = id ∧ ∀ j, j < k → (dAt l j).f0 ≠ id := by
    intro d
    induction d with
    | zero =>
      intro i hi h
      exact .inl ⟨dPl_none fun j hj => h j (by omega), fun j hj => h j (by omega)⟩
    | succ d ih =>
      intro i hi h
      by_cases e : (dAt l i).f0 = id
      · exact .inr ⟨i, dPl_hit (by omega) e h, by omega, e, h⟩
      · refine ih (i + 1) (by omega) fun j hj => ?_
        rcases Nat.lt_succ_iff_lt_or_eq.1 hj with h1 | rfl
        · exact h j h1
        · exact e
  exact key l.length 0 (by omega) fun j hj => absurd hj (by omega)
theorem l11Find_ok (l : List Ds) (id : Int) (hl : l.length ≤ 2000000) : Ok (fun k => spec_l11Find.f k l id) (· = dPl l id) := by
  unfold spec_l11Find.f
  refine Ok.range (fun (_ : Unit) i k => spec_l11Find.l0 k l id i) l.length (fun i _ => ∀ j, j < i → (dAt l j).f0 ≠ id) _ ?_ ?_ () (fun j hj => absurd hj (by omega))
  · intro i _ hi hinv ih
    refine Ok.step (fun k => by simp only [spec_l11Find.l0]; rfl) (Ok.pos (by omega) (Ok.pos (by omega) ?_))
    rw [dAt_rd, wrap_id (n := (i : Int) + 1) (by omega) (by omega)]
    refine Ok.ite (fun h => Ok.ret (dPl_hit hi h hinv).symm) (fun h => ih () fun j hj => ?_)
    rcases Nat.lt_succ_iff_lt_or_eq.1 hj with h1 | rfl
    · exact hinv j h1
    · exact h
  · intro _ hinv
    exact Ok.step (fun k => by simp only [spec_l11Find.l0]; rfl) (Ok.neg (by omega) (Ok.ret (dPl_none hinv).symm))
end Go.Proofs.Ytclldijjbmnkeaa.Pure
/- Ranges, and the bits of sets. No conditions. -/
namespace Go.Proofs.Ytclldijjbmnkeaa.Pure
open Go.RowKit Go.Proofs.YtclldijjbmnkeaaW.PrintWords Go.Proofs.YtclldijjbmnkeaaW.PrintLast
set_option linter.unusedVariables false
set_option linter.unusedSimpArgs false

def inr (a lo hi : Int) : Bool := decide (lo ≤ a ∧ a ≤ hi)
theorem inr_iff (a lo hi : Int) : inr a lo hi = true ↔ lo ≤ a ∧ a ≤ hi := by simp [inr]
end Go.Proofs.Ytclldijjbmnkeaa.Pure
/- The reference's ranges and sets. No conditions. -/
namespace Go.Proofs.Ytclldijjbmnkeaa.Pure
open Go.RowKit Go.Proofs.YtclldijjbmnkeaaW.PrintWords Go.Proofs.YtclldijjbmnkeaaW.PrintLast Go.Proofs.Ytclldijjbmnkeaa.Q
set_option linter.unusedVariables false
set_option linter.unusedSimpArgs false

theorem l6In_eq (a lo hi : Int) : spec_l6In.f a lo hi = some (inr a lo hi) := by
  unfold spec_l6In.f inr
  by_cases h : a ≥ lo
  · rw [if_pos h]; simp [h]
  · rw [if_neg h]; simp; omega
theorem l3Set_eq (a : Int) : spec_l3Set.f a = some (inr a 0 255) := by simp only [spec_l3Set.f, l6In_eq, Option.bind_some]
end Go.Proofs.Ytclldijjbmnkeaa.Pure
/- The program's ranges, sets and kinds. No conditions. -/
namespace Go.Proofs.Ytclldijjbmnkeaa.Pure
open Go.RowKit Go.Proofs.YtclldijjbmnkeaaW.PrintWords Go.Proofs.YtclldijjbmnkeaaW.PrintLast Go.Proofs.Ytclldijjbmnkeaa.Q
set_option linter.unusedVariables false
set_option linter.unusedSimpArgs false

theorem within_eq (a lo hi : Int) : impl_within.f a lo hi = some (inr a lo hi) := by
  unfold impl_within.f inr
  by_cases h : a ≥ lo
  · rw [if_pos h]; simp [h]
  · rw [if_neg h]; simp; omega
theorem isSet_eq (a : Int) : impl_isSet.f a = some (inr a 0 255) := by simp only [impl_isSet.f, within_eq, Option.bind_some]
theorem isKind_eq (a : Int) : impl_isKind.f a = some (inr a 1 5) := by simp only [impl_isKind.f, within_eq, Option.bind_some]
end Go.Proofs.Ytclldijjbmnkeaa.Pure
/- When foods are valid, in the program and in the reference. Condition: at most 2,000,000. -/
namespace Go.Proofs.Ytclldijjbmnkeaa.Pure
open Go.RowKit Go.Proofs.YtclldijjbmnkeaaW.PrintWords Go.Proofs.YtclldijjbmnkeaaW.PrintLast Go.Proofs.Ytclldijjbmnkeaa.Q
set_option linter.unusedVariables false
set_option linter.unusedSimpArgs false
abbrev Fd := S63
def fAt (l : List Fd) (i : Nat) : Fd := l.getD i z63
theorem fAt_rd (l : List Fd) (i : Nat) : rd_T63 l (i : Int) = fAt l i := rfl
theorem fAt_prev (l : List Fd) (i : Nat) (h : 0 < i) : rd_T63 l ((i : Int) - 1) = fAt l (i - 1) := by
  unfold rd_T63 fAt
  rw [show ((i : Int) - 1).toNat = i - 1 by omega]
def fB (x : Fd) : Bool := inr x.f0 1 20 && inr x.f1 1 3 && inr x.f2 0 255 && inr x.f3 1 5 && inr x.f4 0 999 && inr x.f5 0 999
theorem fB_iff (x : Fd) : fB x = true ↔ (1 ≤ x.f0 ∧ x.f0 ≤ 20) ∧ (1 ≤ x.f1 ∧ x.f1 ≤ 3) ∧ (0 ≤ x.f2 ∧ x.f2 ≤ 255) ∧ (1 ≤ x.f3 ∧ x.f3 ≤ 5) ∧ (0 ≤ x.f4 ∧ x.f4 ≤ 999) ∧ 0 ≤ x.f5 ∧ x.f5 ≤ 999 := by simp [fB, inr_iff, and_assoc]
/-- element i is as it must be -/
def fGood (l : List Fd) (i : Nat) : Prop := fB (fAt l i) = true ∧ (0 < i → (fAt l (i - 1)).f0 < (fAt l i).f0)
/-- foods are valid -/
def FV (l : List Fd) : Prop := l.length ≤ 6 ∧ ∀ i, i < l.length → fGood l i
theorem isId_eq (a : Int) : impl_isId.f a = some (inr a 1 20) := by simp only [impl_isId.f, within_eq, Option.bind_some]
theorem sFoods_ok (l : List Fd) (hl : l.length ≤ 2000000) : Ok (fun k => spec_FoodsValid.f k l) (fun r => r = true ↔ FV l) := by
  unfold spec_FoodsValid.f
  refine Ok.range (fun (_ : Unit) i k => spec_FoodsValid.l0 k l i) l.length (fun i _ => ∀ j, j < i → fGood l j) _ ?_ ?_ () (fun j hj => absurd hj (by omega))
  · intro i _ hi hinv ih
    refine Ok.step (fun k => by simp only [spec_FoodsValid.l0]; rfl) (Ok.pos (by omega) (Ok.pos (by omega) ?_))
    simp only [l6In_eq, l3Set_eq, Option.bind_some, fAt_rd]
    have bad : ¬ fGood l i → Ok (fun k => spec_FoodsValid.j1 k l (i : Int) true (fAt l i).f0 (fAt l i).f1 (fAt l i).f2 (fAt l i).f3 (fAt l i).f4 (fAt l i).f5) (fun r : Bool => r = true ↔ FV l) := fun h => Ok.step (fun k => by simp only [spec_FoodsValid.j1]; rfl) (Ok.pos (by trivial) (Ok.ret ⟨fun h' => (by cases h'), fun h' => absurd (h'.2 i hi) h⟩))
    have good : fGood l i → Ok (fun k => spec_FoodsValid.l0 k l ((i : Int) + 1)) (fun r : Bool => r = true ↔ FV l) := fun h => ih () (fun j hj => by
      rcases Nat.lt_succ_iff_lt_or_eq.1 hj with h1 | rfl
      · exact hinv j h1
      · exact h)
    have fb : inr (fAt l i).f0 1 20 = true → inr (fAt l i).f1 1 3 = true → inr (fAt l i).f2 0 255 = true → inr (fAt l i).f3 1 5 = true → inr (fAt l i).f4 0 999 = true → inr (fAt l i).f5 0 999 = true → fB (fAt l i) = true := fun h1 h2 h3 h4 h5 h6 => by simp [fB, h1, h2, h3, h4, h5, h6]
    refine Ok.ite (fun h1 => Ok.ite (fun h2 => Ok.ite (fun h3 => Ok.ite (fun h4 => Ok.ite (fun h5 => ?_) (fun h => bad fun g => h (by have := (fB_iff _).1 g.1; exact (inr_iff _ _ _).2 (by omega)))) (fun h => bad fun g => h (by have := (fB_iff _).1 g.1; exact (inr_iff _ _ _).2 (by omega)))) (fun h => bad fun g => h (by have := (fB_iff _).1 g.1; exact (inr_iff _ _ _).2 (by omega)))) (fun h => bad fun g => h (by have := (fB_iff _).1 g.1; exact (inr_iff _ _ _).2 (by omega)))) (fun h => bad fun g => h (by have := (fB_iff _).1 g.1; exact (inr_iff _ _ _).2 (by omega)))
    cases h6 : inr (fAt l i).f5 0 999 with
    | false => exact bad fun g => by have := (fB_iff _).1 g.1; rw [(inr_iff _ _ _).2 this.2.2.2.2.2] at h6; cases h6
    | true =>
      refine Ok.step (fun k => by simp only [spec_FoodsValid.j1]; rfl) (Ok.neg (by simp) ?_)
      rw [wrap_id (n := (i : Int) + 1) (by omega) (by omega), wrap_id (n := (i : Int) - 1) (by omega) (by omega)]
      refine Ok.ite (fun h7 => Ok.pos (by omega) (Ok.pos (by omega) ?_)) (fun h7 => good ⟨fb h1 h2 h3 h4 h5 h6, fun h => absurd h (by omega)⟩)
      rw [fAt_prev l i (by omega)]
      exact Ok.ite (fun h8 => Ok.ret ⟨fun h' => (by cases h'), fun h' => by have := (h'.2 i hi).2 (by omega); omega⟩) (fun h8 => good ⟨fb h1 h2 h3 h4 h5 h6, fun _ => by omega⟩)
  · intro _ hinv
    refine Ok.step (fun k => by simp only [spec_FoodsValid.l0]; rfl) (Ok.neg (by omega) (Ok.ret ?_))
    rw [decide_eq_true_iff]
    exact ⟨fun h => ⟨by omega, hinv⟩, fun h => by have := h.1; omega⟩
theorem iFoods_ok (l : List Fd) (hl : l.length ≤ 2000000) : Ok (fun k => impl_FoodsValid.f k l) (fun r => r = true ↔ FV l) := by
  unfold impl_FoodsValid.f
  refine Ok.range (fun (_ : Unit) i k => impl_FoodsValid.l0 k l l (l.length : Int) i) l.length (fun i _ => ∀ j, j < i → fGood l j) _ ?_ ?_ () (fun j hj => absurd hj (by omega))
  · intro i _ hi hinv ih
    refine Ok.step (fun k => by simp only [impl_FoodsValid.l0]; rfl) (Ok.pos (by omega) (Ok.pos (by omega) (Ok.pos (by omega) ?_)))
    have ew : wrap64 ((i : Int) + 1) = (i : Int) + 1 := wrap_id (by omega) (by omega)
    have ew' : wrap64 ((i : Int) - 1) = (i : Int) - 1 := wrap_id (by omega) (by omega)
    simp only [isId_eq, within_eq, isSet_eq, isKind_eq, Option.bind_some, ew, ew', fAt_rd]
    have bad : ¬ fGood l i → Ok (fun _ => some false) (fun r : Bool => r = true ↔ FV l) := fun h => Ok.ret ⟨fun h' => (by cases h'), fun h' => absurd (h'.2 i hi) h⟩
    have good : fGood l i → Ok (fun k => impl_FoodsValid.l0 k l l (l.length : Int) ((i : Int) + 1)) (fun r : Bool => r = true ↔ FV l) := fun h => ih () (fun j hj => by
      rcases Nat.lt_succ_iff_lt_or_eq.1 hj with h1 | rfl
      · exact hinv j h1
      · exact h)
    have fb : inr (fAt l i).f0 1 20 = true → inr (fAt l i).f1 1 3 = true → inr (fAt l i).f2 0 255 = true → inr (fAt l i).f3 1 5 = true → inr (fAt l i).f4 0 999 = true → inr (fAt l i).f5 0 999 = true → fB (fAt l i) = true := fun h1 h2 h3 h4 h5 h6 => by simp [fB, h1, h2, h3, h4, h5, h6]
    refine Ok.ite (fun h1 => Ok.ite (fun h2 => Ok.ite (fun h3 => Ok.ite (fun h4 => Ok.ite (fun h5 => Ok.ite (fun h6 => Ok.ite (fun h7 => ?_) (fun h7 => good ⟨fb h1 h2 h3 h4 h5 h6, fun h => absurd h (by omega)⟩)) (fun h => bad fun g => h (by have := (fB_iff _).1 g.1; exact (inr_iff _ _ _).2 (by omega)))) (fun h => bad fun g => h (by have := (fB_iff _).1 g.1; exact (inr_iff _ _ _).2 (by omega)))) (fun h => bad fun g => h (by have := (fB_iff _).1 g.1; exact (inr_iff _ _ _).2 (by omega)))) (fun h => bad fun g => h (by have := (fB_iff _).1 g.1; exact (inr_iff _ _ _).2 (by omega)))) (fun h => bad fun g => h (by have := (fB_iff _).1 g.1; exact (inr_iff _ _ _).2 (by omega)))) (fun h => bad fun g => h (by have := (fB_iff _).1 g.1; exact (inr_iff _ _ _).2 (by omega)))
    refine Ok.pos (by omega) (Ok.pos (by omega) ?_)
    simp only [fAt_prev l i (by omega)]
    exact Ok.ite (fun h8 => bad fun h => by have := h.2 (by omega); omega) (fun h8 => good ⟨fb h1 h2 h3 h4 h5 h6, fun _ => by omega⟩)
  · intro _ hinv
    refine Ok.step (fun k => by simp only [impl_FoodsValid.l0]; rfl) (Ok.neg (by omega) (Ok.ret ?_))
    rw [decide_eq_true_iff]
    exact ⟨fun h => ⟨by omega, hinv⟩, fun h => by have := h.1; omega⟩
end Go.Proofs.Ytclldijjbmnkeaa.Pure
/- The place of a food, in the program and in the reference. Condition: at most 2,000,000 foods. -/
namespace Go.Proofs.Ytclldijjbmnkeaa.Pure
open Go.RowKit Go.Proofs.YtclldijjbmnkeaaW.PrintWords Go.Proofs.YtclldijjbmnkeaaW.PrintLast Go.Proofs.Ytclldijjbmnkeaa.Q
set_option linter.unusedVariables false
set_option linter.unusedSimpArgs false
def fPl (l : List Fd) (id : Int) : Int := idxOf (fun x => x.f0 == id) l
theorem foodPlace_eq (l : List Fd) (id : Int) : impl_foodPlace.f l id = some (fPl l id) := rfl
theorem fPl_none {l : List Fd} {id : Int} (h : ∀ j, j < l.length → (fAt l j).f0 ≠ id) : fPl l id = -1 := idxOf_miss _ l z63 fun j hj => beq_eq_false_iff_ne.2 (h j hj)
theorem fPl_hit {l : List Fd} {id : Int} {k : Nat} (hk : k < l.length) (h : (fAt l k).f0 = id) (hn : ∀ j, j < k → (fAt l j).f0 ≠ id) : fPl l id = (k : Int) := idxOf_hit _ l z63 k hk (beq_iff_eq.2 h) fun j hj => beq_eq_false_iff_ne.2 (hn j hj)
theorem fPl_is (l : List Fd) (id : Int) : (fPl l id = -1 ∧ ∀ j, j < l.length → (fAt l j).f0 ≠ id) ∨ ∃ k : Nat, fPl l id = k ∧ k < l.length ∧ (fAt l k).f0 = id ∧ ∀ j, j < k → (fAt l j).f0 ≠ id := by
  have key : ∀ d i, i + d = l.length → (∀ j, j < i → (fAt l j).f0 ≠ id) → (fPl l id = -1 ∧ ∀ j, j < l.length → (fAt l j).f0 ≠ id) ∨ ∃ k : Nat, fPl l id = k ∧ k < l.length ∧ (fAt l k).f0 = id ∧ ∀ j, j < k → (fAt l j).f0 ≠ id := by
    intro d
    induction d with
    | zero =>
      intro i hi h
      exact .inl ⟨fPl_none fun j hj => h j (by omega), fun j hj => h j (by omega)⟩
    | succ d ih =>
      intro i hi h
      by_cases e : (fAt l i).f0 = id
      · exact .inr ⟨i, fPl_hit (by omega) e h, by omega, e, h⟩
      · refine ih (i + 1) (by omega) fun j hj => ?_
        rcases Nat.lt_succ_iff_lt_or_eq.1 hj with h1 | rfl
        · exact h j h1
        · exact e
  exact key l.length 0 (by omega) fun j hj => absurd hj (by omega)
theorem l5Find_ok (l : List Fd) (id : Int) (hl : l.length ≤ 2000000) : Ok (fun k => spec_l5Find.f k l id) (· = fPl l id) := by
  unfold spec_l5Find.f
  refine Ok.range (fun (_ : Unit) i k => spec_l5Find.l0 k l id i) l.length (fun i _ => ∀ j, j < i → (fAt l j).f0 ≠ id) _ ?_ ?_ () (fun j hj => absurd hj (by omega))
  · intro i _ hi hinv ih
    refine Ok.step (fun k => by simp only [spec_l5Find.l0]; rfl) (Ok.pos (by omega) (Ok.pos (by omega) ?_))
    rw [fAt_rd, wrap_id (n := (i : Int) + 1) (by omega) (by omega)]
    refine Ok.ite (fun h => Ok.ret (fPl_hit hi h hinv).symm) (fun h => ih () fun j hj => ?_)
    rcases Nat.lt_succ_iff_lt_or_eq.1 hj with h1 | rfl
    · exact hinv j h1
    · exact h
  · intro _ hinv
    exact Ok.step (fun k => by simp only [spec_l5Find.l0]; rfl) (Ok.neg (by omega) (Ok.ret (fPl_none hinv).symm))
end Go.Proofs.Ytclldijjbmnkeaa.Pure
/- When dishes are valid, in the program and in the reference. Condition: at most 2,000,000 dishes, each of at most 2,000,000 parts, and as many foods. -/
namespace Go.Proofs.Ytclldijjbmnkeaa.Pure
open Go.RowKit Go.Proofs.YtclldijjbmnkeaaW.PrintWords Go.Proofs.YtclldijjbmnkeaaW.PrintLast Go.Proofs.Ytclldijjbmnkeaa.Q
set_option linter.unusedVariables false
set_option linter.unusedSimpArgs false
def pAt (l : List Pt) (i : Nat) : Pt := l.getD i z55
theorem pAt_rd (l : List Pt) (i : Nat) : rd_T55 l (i : Int) = pAt l i := rfl
theorem dAt_prev (l : List Ds) (i : Nat) (h : 0 < i) : rd_T29 l ((i : Int) - 1) = dAt l (i - 1) := by
  unfold rd_T29 dAt
  rw [show ((i : Int) - 1).toNat = i - 1 by omega]
/-- a part of a dish behind the dishes b -/
def pGood (b : List Ds) (l : List Fd) (p : Pt) : Prop := (p.f1 = 0 ∧ 0 ≤ fPl l p.f0 ∧ 1 ≤ p.f2 ∧ p.f2 ≤ 999) ∨ (p.f1 ≠ 0 ∧ p.f0 = 0 ∧ 0 ≤ dPl b p.f1 ∧ 1 ≤ p.f2 ∧ p.f2 ≤ 9)
def dHead (d : List Ds) (i : Nat) : Prop := (1 ≤ (dAt d i).f0 ∧ (dAt d i).f0 ≤ 20) ∧ (1 ≤ (dAt d i).f1 ∧ (dAt d i).f1 ≤ 12) ∧ (1 ≤ (dAt d i).f2.length ∧ (dAt d i).f2.length ≤ 5) ∧ (0 < i → (dAt d (i - 1)).f0 < (dAt d i).f0)
def dGood (d : List Ds) (l : List Fd) (i : Nat) : Prop := dHead d i ∧ ∀ j, j < (dAt d i).f2.length → pGood (d.take i) l (pAt (dAt d i).f2 j)
def DV (d : List Ds) (l : List Fd) : Prop := FV l ∧ d.length ≤ 4 ∧ ∀ i, i < d.length → dGood d l i
theorem take_dAt (d : List Ds) (i k : Nat) (hk : k < i) : dAt (d.take i) k = dAt d k := by
  unfold dAt
  rw [List.getD_eq_getElem?_getD, List.getD_eq_getElem?_getD, List.getElem?_take, if_pos hk]
theorem dPl_nat {l : List Ds} {id : Int} (h : 0 ≤ dPl l id) : ∃ k : Nat, dPl l id = k ∧ k < l.length ∧ (dAt l k).f0 = id := by
  rcases dPl_is l id with ⟨e, _⟩ | ⟨k, e, hk, hi, _⟩
  · omega
  · exact ⟨k, e, hk, hi⟩
theorem l11Part_ok (b : List Ds) (l : List Fd) (p : Pt) (hb : b.length ≤ 2000000) (hl : l.length ≤ 2000000) : Ok (fun k => spec_l11Part.f k b l p.f0 p.f1 p.f2) (fun r => r = true ↔ pGood b l p) := by
  unfold spec_l11Part.f
  refine Ok.ite (fun h => Ok.bind (l5Find_ok l _ hl) ?_) (fun h => Ok.ite (fun h2 => Ok.bind (l11Find_ok b _ hb) ?_) (fun h2 => Ok.ret ⟨fun h' => (by cases h'), fun h' => by rcases h' with h' | h'; exact absurd h'.1 h; exact absurd h'.2.1 h2⟩))
  · rintro _ rfl
    refine Ok.ite (fun h2 => ?_) (fun h2 => Ok.ret ⟨fun h' => (by cases h'), fun h' => by rcases h' with h' | h'; exact absurd h'.2.1 h2; exact absurd h h'.1⟩)
    rw [l6In_eq]
    refine Ok.val (Ok.ret ?_)
    rw [inr_iff]
    exact ⟨fun h' => .inl ⟨h, h2, h'⟩, fun h' => by rcases h' with h' | h'; exact h'.2.2; exact absurd h h'.1⟩
  · rintro _ rfl
    refine Ok.ite (fun h3 => ?_) (fun h3 => Ok.ret ⟨fun h' => (by cases h'), fun h' => by rcases h' with h' | h'; exact absurd h'.1 h; exact absurd h'.2.2.1 h3⟩)
    rw [l6In_eq]
    refine Ok.val (Ok.ret ?_)
    rw [inr_iff]
    exact ⟨fun h' => .inr ⟨h, h2, h3, h'⟩, fun h' => by rcases h' with h' | h'; exact absurd h'.1 h; exact h'.2.2.2⟩
theorem sDishes_ok (d : List Ds) (l : List Fd) (hd : d.length ≤ 2000000) (hp : ∀ i, i < d.length → (dAt d i).f2.length ≤ 2000000) (hl : l.length ≤ 2000000) : Ok (fun k => spec_DishesValid.f k d l) (fun b => b = true ↔ DV d l) := by
  unfold spec_DishesValid.f
  refine Ok.bind (sFoods_ok l hl) fun b hb => Ok.ite (fun h => ?_) (fun h => Ok.step (fun k => by simp only [spec_DishesValid.j0]; rfl) (Ok.pos (by trivial) (Ok.ret ⟨fun h' => (by cases h'), fun h' => absurd (hb.2 h'.1) h⟩)))
  have fv := hb.1 h
  refine Ok.step (fun k => by simp only [spec_DishesValid.j0]; rfl) (Ok.ite (fun h4 => Ok.ret ⟨fun h' => (by cases h'), fun h' => by have := h'.2.1; simp at h4; omega⟩) (fun h4 => ?_))
  have h4' : d.length ≤ 4 := by simp at h4; omega
  clear h4
  refine Ok.range (fun (_ : Unit) i k => spec_DishesValid.l0 k d l i) d.length (fun i _ => ∀ j, j < i → dGood d l j) _ ?_ ?_ () (fun j hj => absurd hj (by omega))
  · intro i _ hi hinv ih
    refine Ok.step (fun k => by simp only [spec_DishesValid.l0]; rfl) (Ok.pos (by omega) (Ok.pos (by omega) ?_))
    rw [dAt_rd, wrap_id (n := (i : Int) - 1) (by omega) (by omega)]
    simp only [l6In_eq, Option.bind_some]
    have bad : ¬ dGood d l i → Ok (fun k => some false) (fun r : Bool => r = true ↔ DV d l) := fun h => Ok.ret ⟨fun h' => (by cases h'), fun h' => absurd (h'.2.2 i hi) h⟩
    have badj : ¬ dGood d l i → Ok (fun k => spec_DishesValid.j2 k d l (i : Int) true (dAt d i).f0 (dAt d i).f1 (dAt d i).f2) (fun r : Bool => r = true ↔ DV d l) := fun h => Ok.step (fun k => by simp only [spec_DishesValid.j2]; rfl) (Ok.pos (by trivial) (bad h))
    have good : dHead d i → Ok (fun k => spec_DishesValid.l1 k d l (i : Int) 0 (dAt d i).f0 (dAt d i).f1 (dAt d i).f2) (fun r : Bool => r = true ↔ DV d l) := by
      intro g
      refine Ok.range (fun (_ : Unit) j k => spec_DishesValid.l1 k d l (i : Int) j (dAt d i).f0 (dAt d i).f1 (dAt d i).f2) (dAt d i).f2.length (fun j _ => ∀ q, q < j → pGood (d.take i) l (pAt (dAt d i).f2 q)) _ ?_ ?_ () (fun j hj => absurd hj (by omega))
      · intro j _ hj hinv2 ih2
        have hpi := hp i hi
        refine Ok.step (fun k => by simp only [spec_DishesValid.l1]; rfl) (Ok.pos (by omega) (Ok.pos (by omega) (Ok.pos (by omega) (Ok.pos (by omega) ?_))))
        rw [pAt_rd, wrap_id (n := (j : Int) + 1) (by omega) (by omega), Int.toNat_natCast]
        refine Ok.bind (l11Part_ok (d.take i) l (pAt (dAt d i).f2 j) (by rw [List.length_take]; omega) hl) fun r hr => Ok.ite (fun h5 => ih2 () fun q hq => ?_) (fun h5 => bad fun g' => h5 (hr.2 (g'.2 j hj)))
        rcases Nat.lt_succ_iff_lt_or_eq.1 hq with h6 | rfl
        · exact hinv2 q h6
        · exact hr.1 h5
      · intro _ hinv2
        refine Ok.step (fun k => by simp only [spec_DishesValid.l1]; rfl) (Ok.neg (by omega) ?_)
        rw [wrap_id (n := (i : Int) + 1) (by omega) (by omega)]
        refine ih () fun j hj => ?_
        rcases Nat.lt_succ_iff_lt_or_eq.1 hj with h6 | rfl
        · exact hinv j h6
        · exact ⟨g, hinv2⟩
    refine Ok.ite (fun h1 => Ok.ite (fun h2 => Ok.ite (fun h3 => ?_) (fun h => badj fun g => h ((inr_iff _ _ _).2 (by have := g.1.2.2.1; omega)))) (fun h => badj fun g => h ((inr_iff _ _ _).2 g.1.2.1))) (fun h => badj fun g => h ((inr_iff _ _ _).2 g.1.1))
    have h1' := (inr_iff _ _ _).1 h1
    have h2' := (inr_iff _ _ _).1 h2
    have h3' : 1 ≤ (dAt d i).f2.length ∧ (dAt d i).f2.length ≤ 5 := by have := (inr_iff _ _ _).1 h3; omega
    refine Ok.ite (fun h7 => Ok.pos (by omega) (Ok.pos (by omega) ?_)) (fun h7 => Ok.step (fun k => by simp only [spec_DishesValid.j2]; rfl) (Ok.neg (by simp) (good ⟨h1', h2', h3', fun h => absurd h (by omega)⟩)))
    rw [dAt_prev d i (by omega)]
    refine Ok.step (fun k => by simp only [spec_DishesValid.j2]; rfl) (Ok.ite (fun h8 => bad fun g => ?_) (fun h8 => good ⟨h1', h2', h3', fun _ => ?_⟩))
    · have := g.1.2.2.2 (by omega); simp at h8; omega
    · simp at h8; omega
  · intro _ hinv
    exact Ok.step (fun k => by simp only [spec_DishesValid.l0]; rfl) (Ok.neg (by omega) (Ok.ret ⟨fun _ => ⟨fv, h4', hinv⟩, fun _ => rfl⟩))
theorem iDishes_ok (d : List Ds) (l : List Fd) (hd : d.length ≤ 2000000) (hp : ∀ i, i < d.length → (dAt d i).f2.length ≤ 2000000) (hl : l.length ≤ 2000000) : Ok (fun k => impl_DishesValid.f k d l) (fun b => b = true ↔ DV d l) := by
  unfold impl_DishesValid.f
  refine Ok.bind (iFoods_ok l hl) fun b hb => Ok.ite (fun h => ?_) (fun h => Ok.step (fun k => by simp only [impl_DishesValid.j0]; rfl) (Ok.pos (by trivial) (Ok.ret ⟨fun h' => (by cases h'), fun h' => absurd (hb.2 h'.1) h⟩)))
  have fv := hb.1 h
  refine Ok.step (fun k => by simp only [impl_DishesValid.j0]; rfl) (Ok.ite (fun h4 => Ok.ret ⟨fun h' => (by cases h'), fun h' => by have := h'.2.1; simp at h4; omega⟩) (fun h4 => ?_))
  have h4' : d.length ≤ 4 := by simp at h4; omega
  clear h4
  refine Ok.range (fun (_ : Unit) i k => impl_DishesValid.l0 k d l d (d.length : Int) i) d.length (fun i _ => ∀ j, j < i → dGood d l j) _ ?_ ?_ () (fun j hj => absurd hj (by omega))
  · intro i _ hi hinv ih
    refine Ok.step (fun k => by simp only [impl_DishesValid.l0]; rfl) (Ok.pos (by omega) (Ok.pos (by omega) (Ok.pos (by omega) ?_)))
    rw [dAt_rd, wrap_id (n := (i : Int) - 1) (by omega) (by omega)]
    simp only [isId_eq, within_eq, Option.bind_some]
    have bad : ¬ dGood d l i → Ok (fun k => some false) (fun r : Bool => r = true ↔ DV d l) := fun h => Ok.ret ⟨fun h' => (by cases h'), fun h' => absurd (h'.2.2 i hi) h⟩
    have badj : ¬ dGood d l i → Ok (fun k => impl_DishesValid.j2 k d l (i : Int) d (d.length : Int) (i : Int) true (dAt d i).f0 (dAt d i).f1 (dAt d i).f2) (fun r : Bool => r = true ↔ DV d l) := fun h => Ok.step (fun k => by simp only [impl_DishesValid.j2]; rfl) (Ok.pos (by trivial) (bad h))
    have good : dHead d i → Ok (fun k => impl_DishesValid.l1 k d l (i : Int) d (d.length : Int) (i : Int) (dAt d i).f2 ((dAt d i).f2.length : Int) 0) (fun r : Bool => r = true ↔ DV d l) := by
      intro g
      refine Ok.range (fun (_ : Unit) j k => impl_DishesValid.l1 k d l (i : Int) d (d.length : Int) (i : Int) (dAt d i).f2 ((dAt d i).f2.length : Int) j) (dAt d i).f2.length (fun j _ => ∀ q, q < j → pGood (d.take i) l (pAt (dAt d i).f2 q)) _ ?_ ?_ () (fun j hj => absurd hj (by omega))
      · intro j _ hj hinv2 ih2
        have hpi := hp i hi
        refine Ok.step (fun k => by simp only [impl_DishesValid.l1]; rfl) (Ok.pos (by omega) (Ok.pos (by omega) (Ok.pos (by omega) ?_)))
        rw [pAt_rd]
        have next : pGood (d.take i) l (pAt (dAt d i).f2 j) → Ok (fun k => impl_DishesValid.l1 k d l (i : Int) d (d.length : Int) (i : Int) (dAt d i).f2 ((dAt d i).f2.length : Int) (wrap64 ((j : Int) + 1))) (fun r : Bool => r = true ↔ DV d l) := by
          intro hg
          rw [wrap_id (n := (j : Int) + 1) (by omega) (by omega)]
          refine ih2 () fun q hq => ?_
          rcases Nat.lt_succ_iff_lt_or_eq.1 hq with h6 | rfl
          · exact hinv2 q h6
          · exact hg
        have stop : ¬ pGood (d.take i) l (pAt (dAt d i).f2 j) → Ok (fun k => some false) (fun r : Bool => r = true ↔ DV d l) := fun hg => bad fun g' => hg (g'.2 j hj)
        have nz : 0 ≤ dPl (d.take i) (pAt (dAt d i).f2 j).f1 → (pAt (dAt d i).f2 j).f1 ≠ 0 := by
          intro h5 e
          obtain ⟨q, _, hq, hi0⟩ := dPl_nat h5
          have hq' : q < i := by rw [List.length_take] at hq; omega
          rw [take_dAt d i q hq', e] at hi0
          have := (hinv q hq').1.1
          omega
        have j4ok : ∀ b : Bool, (b = true → pGood (d.take i) l (pAt (dAt d i).f2 j)) → (b = false → ¬ ((pAt (dAt d i).f2 j).f1 = 0 ∧ 0 ≤ fPl l (pAt (dAt d i).f2 j).f0 ∧ 1 ≤ (pAt (dAt d i).f2 j).f2 ∧ (pAt (dAt d i).f2 j).f2 ≤ 999)) → Ok (fun k => impl_DishesValid.j4 k d l (i : Int) b d (d.length : Int) (i : Int) (dAt d i).f2 ((dAt d i).f2.length : Int) (j : Int) (pAt (dAt d i).f2 j).f0 (pAt (dAt d i).f2 j).f1 (pAt (dAt d i).f2 j).f2) (fun r : Bool => r = true ↔ DV d l) := by
          intro b hb1 hb2
          have nb : ¬ b = true → b = false := fun h => by simpa using h
          refine Ok.step (fun k => by simp only [impl_DishesValid.j4]; rfl) (Ok.ite (fun h5 => Ok.pos (by omega) (Ok.pos (by omega) ?_)) (fun h5 => Ok.ite (fun h6 => next (hb1 h6)) (fun h6 => stop fun g' => ?_)))
          · rw [iDFind_eq, Int.toNat_natCast, within_eq]
            refine Ok.val (Ok.ite (fun h7 => Ok.val (Ok.ite (fun h6 => next (hb1 h6)) (fun h6 => Ok.ite (fun h8 => next (.inr ⟨nz h7, h5, h7, (inr_iff _ _ _).1 h8⟩)) (fun h8 => stop fun g' => ?_)))) (fun h7 => Ok.ite (fun h6 => next (hb1 h6)) (fun h6 => stop fun g' => ?_)))
            · rcases g' with g' | g'
              · exact hb2 (nb h6) g'
              · exact h8 ((inr_iff _ _ _).2 g'.2.2.2)
            · rcases g' with g' | g'
              · exact hb2 (nb h6) g'
              · exact h7 g'.2.2.1
          · rcases g' with g' | g'
            · exact hb2 (nb h6) g'
            · exact h5 g'.2.1
        refine Ok.ite (fun h5 => ?_) (fun h5 => j4ok false (fun h => by cases h) (fun _ g' => h5 g'.1))
        rw [foodPlace_eq, within_eq]
        refine Ok.val (Ok.ite (fun h6 => Ok.val (j4ok _ (fun h7 => .inl ⟨h5, h6, (inr_iff _ _ _).1 h7⟩) (fun h7 g' => ?_))) (fun h6 => j4ok false (fun h => by cases h) (fun _ g' => h6 g'.2.1)))
        rw [(inr_iff _ _ _).2 g'.2.2] at h7
        cases h7
      · intro _ hinv2
        refine Ok.step (fun k => by simp only [impl_DishesValid.l1]; rfl) (Ok.neg (by omega) ?_)
        rw [wrap_id (n := (i : Int) + 1) (by omega) (by omega)]
        refine ih () fun j hj => ?_
        rcases Nat.lt_succ_iff_lt_or_eq.1 hj with h6 | rfl
        · exact hinv j h6
        · exact ⟨g, hinv2⟩
    refine Ok.ite (fun h1 => ?_) (fun h => badj fun g => h ((inr_iff _ _ _).2 g.1.1))
    have h1' := (inr_iff _ _ _).1 h1
    have rest : (0 < i → (dAt d (i - 1)).f0 < (dAt d i).f0) → Ok (fun k => if inr (dAt d i).f1 1 12 = true then impl_DishesValid.j2 k d l (i : Int) d (d.length : Int) (i : Int) (!inr ((dAt d i).f2.length : Int) 1 5) (dAt d i).f0 (dAt d i).f1 (dAt d i).f2 else impl_DishesValid.j2 k d l (i : Int) d (d.length : Int) (i : Int) true (dAt d i).f0 (dAt d i).f1 (dAt d i).f2) (fun r : Bool => r = true ↔ DV d l) := by
      intro h9
      refine Ok.ite (fun h2 => Ok.step (fun k => by simp only [impl_DishesValid.j2]; rfl) (Ok.ite (fun h3 => bad fun g => ?_) (fun h3 => good ⟨h1', (inr_iff _ _ _).1 h2, ?_, h9⟩))) (fun h => badj fun g => h ((inr_iff _ _ _).2 g.1.2.1))
      · have := g.1.2.2.1
        rw [(inr_iff _ _ _).2 (by omega)] at h3
        cases h3
      · simp at h3
        have := (inr_iff _ _ _).1 h3
        omega
    refine Ok.ite (fun h7 => Ok.pos (by omega) (Ok.pos (by omega) ?_)) (fun h7 => rest fun h => absurd h (by omega))
    rw [dAt_prev d i (by omega)]
    exact Ok.ite (fun h8 => badj fun g => by have := g.1.2.2.2 (by omega); omega) (fun h8 => rest fun _ => by omega)
  · intro _ hinv
    exact Ok.step (fun k => by simp only [impl_DishesValid.l0]; rfl) (Ok.neg (by omega) (Ok.ret ⟨fun _ => ⟨fv, h4', hinv⟩, fun _ => rfl⟩))
end Go.Proofs.Ytclldijjbmnkeaa.Pure
/- Which dishes are in a dish, in the program and in the reference. Condition: valid dishes. -/
namespace Go.Proofs.Ytclldijjbmnkeaa.Pure
open Go.RowKit Go.Proofs.YtclldijjbmnkeaaW.PrintWords Go.Proofs.YtclldijjbmnkeaaW.PrintLast Go.Proofs.Ytclldijjbmnkeaa.Q
set_option linter.unusedVariables false
set_option linter.unusedSimpArgs false
/-- part q of dish i -/
def pt (d : List Ds) (i q : Nat) : Pt := pAt (dAt d i).f2 q
theorem dPl_take {d : List Ds} {i : Nat} {id : Int} (h : 0 ≤ dPl (d.take i) id) : ∃ c : Nat, dPl d id = c ∧ c < i ∧ c < d.length ∧ (dAt d c).f0 = id := by
  rcases dPl_is (d.take i) id with ⟨e, _⟩ | ⟨k, e, hk, hi, hn⟩
  · omega
  · rw [List.length_take] at hk
    have e1 := take_dAt d i k (by omega)
    rw [e1] at hi
    refine ⟨k, dPl_hit (by omega) hi fun j hj => ?_, by omega, by omega, hi⟩
    have := hn j hj
    rwa [take_dAt d i j (by omega)] at this
theorem part_dish {d : List Ds} {l : List Fd} (v : DV d l) {i q : Nat} (hi : i < d.length) (hq : q < (dAt d i).f2.length) (h : (pt d i q).f1 ≠ 0) : ∃ c : Nat, dPl d (pt d i q).f1 = c ∧ c < i ∧ 0 < (pt d i q).f1 ∧ (pt d i q).f0 = 0 ∧ 1 ≤ (pt d i q).f2 ∧ (pt d i q).f2 ≤ 9 := by
  rcases (v.2.2 i hi).2 q hq with g | g
  · exact absurd g.1 h
  · obtain ⟨c, e, hc, hcl, e0⟩ := dPl_take g.2.2.1
    have := (v.2.2 c hcl).1.1
    exact ⟨c, e, hc, by unfold pt; omega, g.2.1, g.2.2.2⟩
theorem part_food {d : List Ds} {l : List Fd} (v : DV d l) {i q : Nat} (hi : i < d.length) (hq : q < (dAt d i).f2.length) (h : (pt d i q).f1 = 0) : 0 ≤ fPl l (pt d i q).f0 ∧ 0 < (pt d i q).f0 ∧ 1 ≤ (pt d i q).f2 ∧ (pt d i q).f2 ≤ 999 := by
  rcases (v.2.2 i hi).2 q hq with g | g
  · rcases fPl_is l (pt d i q).f0 with ⟨e, _⟩ | ⟨k, e, hk, e0, _⟩
    · have := g.2.1; unfold pt at e; omega
    · have := ((fB_iff _).1 (v.1.2 k hk).1).1
      exact ⟨g.2.1, by omega, g.2.2⟩
  · exact absurd h g.1
end Go.Proofs.Ytclldijjbmnkeaa.Pure
/- What is said of a dish by what is in it: an answer out of the marks, or another where an argument is invalid. Condition: as for valid dishes. -/
namespace Go.Proofs.Ytclldijjbmnkeaa.Pure
open Go.RowKit Go.Proofs.YtclldijjbmnkeaaW.PrintWords Go.Proofs.YtclldijjbmnkeaaW.PrintLast Go.Proofs.Ytclldijjbmnkeaa.Q
set_option linter.unusedVariables false
set_option linter.unusedSimpArgs false
theorem hasDish_ok (d : List Ds) (l : List Fd) (id : Int) (hd : d.length ≤ 2000000) (hp : ∀ i, i < d.length → (dAt d i).f2.length ≤ 2000000) (hl : l.length ≤ 2000000) : Ok (fun k => impl_hasDish.f k d l id) (fun r => r = true ↔ DV d l ∧ 0 ≤ dPl d id) := by
  unfold impl_hasDish.f
  refine Ok.bind (iDishes_ok d l hd hp hl) fun r hr => Ok.ite (fun h => ?_) (fun h => Ok.ret ⟨fun h' => (by cases h'), fun h' => absurd (hr.2 h'.1) h⟩)
  rw [iDFind_eq]
  refine Ok.val (Ok.ret ?_)
  rw [decide_eq_true_iff]
  exact ⟨fun h' => ⟨hr.1 h, h'⟩, fun h' => h'.2⟩
theorem dPl_lt {d : List Ds} {id : Int} (h : 0 ≤ dPl d id) : ∃ i : Nat, i < d.length ∧ dPl d id = i := by
  obtain ⟨k, e, hk, _⟩ := dPl_nat h
  exact ⟨k, hk, e⟩
end Go.Proofs.Ytclldijjbmnkeaa.Pure
/- What a dish needs of each food, before it is rounded, in the program and in the reference. Condition: valid dishes. -/
namespace Go.Proofs.Ytclldijjbmnkeaa.Pure
open Go.RowKit Go.Proofs.YtclldijjbmnkeaaW.PrintWords Go.Proofs.YtclldijjbmnkeaaW.PrintLast Go.Proofs.Ytclldijjbmnkeaa.Q
set_option linter.unusedVariables false
set_option linter.unusedSimpArgs false
/-- for how many a dish is written; the product of these numbers over the first dishes -/
def sv (d : List Ds) (i : Nat) : Nat := (dAt d i).f1.toNat
def Pr (d : List Ds) : Nat → Nat
  | 0 => 1
  | i + 1 => Pr d i * sv d i
theorem sv_in {d : List Ds} {l : List Fd} (v : DV d l) {i : Nat} (hi : i < d.length) : ((dAt d i).f1 = (sv d i : Int)) ∧ 1 ≤ sv d i ∧ sv d i ≤ 12 := by
  have := (v.2.2 i hi).1.2.1
  unfold sv
  omega
theorem Pr_pos {d : List Ds} {l : List Fd} (v : DV d l) : ∀ i, i ≤ d.length → 0 < Pr d i
  | 0, _ => Nat.one_pos
  | i + 1, h => Nat.mul_pos (Pr_pos v i (by omega)) (sv_in v (i := i) (by omega)).2.1
theorem Pr_le {d : List Ds} {l : List Fd} (v : DV d l) : ∀ i, i ≤ d.length → Pr d i ≤ 12 ^ i
  | 0, _ => Nat.le_refl _
  | i + 1, h => by
    rw [Nat.pow_succ]
    exact Nat.mul_le_mul (Pr_le v i (by omega)) (sv_in v (i := i) (by omega)).2.2
theorem Pr_dvd (d : List Ds) (i : Nat) : ∀ j, i ≤ j → Pr d i ∣ Pr d j
  | 0, h => by obtain rfl : i = 0 := by omega
               exact Nat.dvd_refl _
  | j + 1, h => by
    rcases Nat.lt_or_eq_of_le h with h1 | rfl
    · exact Nat.dvd_trans (Pr_dvd d i j (by omega)) ⟨sv d j, rfl⟩
    · exact Nat.dvd_refl _
/-- what part q of dish i needs of food f, as a multiple; g: what a dish needs of it -/
def ch (d : List Ds) (i q : Nat) : Nat := (dPl d (pt d i q).f1).toNat
def pc (d : List Ds) (l : List Fd) (g : Nat → Nat → Nat) (i q f : Nat) : Nat :=
  if (pt d i q).f1 = 0 then (if fPl l (pt d i q).f0 = (f : Int) then Pr d i * (pt d i q).f2.toNat else 0) else Pr d i / Pr d (ch d i q + 1) * (pt d i q).f2.toNat * g (ch d i q) f
def cfq (d : List Ds) (l : List Fd) (g : Nat → Nat → Nat) (i : Nat) : Nat → Nat → Nat
  | 0, _ => 0
  | q + 1, f => cfq d l g i q f + pc d l g i q f
def cf (d : List Ds) (l : List Fd) : Nat → Nat → Nat → Nat
  | 0, _, _ => 0
  | n + 1, i, f => cfq d l (cf d l n) i (dAt d i).f2.length f
theorem cfq_le (d : List Ds) (l : List Fd) (g : Nat → Nat → Nat) (i f q : Nat) : ∀ q', q ≤ q' → cfq d l g i q f ≤ cfq d l g i q' f
  | 0, h => by obtain rfl : q = 0 := by omega
               exact Nat.le_refl _
  | q' + 1, h => by
    rcases Nat.lt_or_eq_of_le h with h1 | rfl
    · exact Nat.le_trans (cfq_le d l g i f q q' (by omega)) (Nat.le_add_right _ _)
    · exact Nat.le_refl _
def TT0 : Nat := 6220800
/-- a dish as a part: its number, and what is asked of it -/
theorem kid {d : List Ds} {l : List Fd} (v : DV d l) {i q : Nat} (hi : i < d.length) (hq : q < (dAt d i).f2.length) (h : (pt d i q).f1 ≠ 0) (m : Nat) (hm : Pr d (i + 1) * m ≤ TT0 * 9 ^ (3 - i)) :
    ∃ N : Nat, (pt d i q).f2 = (N : Int) ∧ N ≤ 9 ∧ (pt d i q).f2.toNat = N ∧ ch d i q < i ∧ dPl d (pt d i q).f1 = (ch d i q : Int) ∧ Pr d (ch d i q + 1) * (Pr d i / Pr d (ch d i q + 1) * m * N) = Pr d i * m * N ∧ Pr d (ch d i q + 1) * (Pr d i / Pr d (ch d i q + 1) * m * N) ≤ TT0 * 9 ^ (3 - ch d i q) := by
  obtain ⟨c, ec, hc, _, _, hn1, hn2⟩ := part_dish v hi hq h
  have e : ch d i q = c := by unfold ch; rw [ec, Int.toNat_natCast]
  have hdv := Nat.mul_div_cancel' (Pr_dvd d (c + 1) i (by omega))
  have e2 : Pr d (c + 1) * (Pr d i / Pr d (c + 1) * m * (pt d i q).f2.toNat) = Pr d i * m * (pt d i q).f2.toNat := by rw [← Nat.mul_assoc, ← Nat.mul_assoc, hdv]
  refine ⟨(pt d i q).f2.toNat, by omega, by omega, rfl, by omega, by rw [e]; exact ec, by rw [e]; exact e2, ?_⟩
  rw [e, e2]
  have h4 := v.2.1
  have h1 : Pr d i * m ≤ TT0 * 9 ^ (3 - i) := Nat.le_trans (Nat.mul_le_mul_right m (Nat.le_mul_of_pos_right _ (sv_in v hi).2.1)) hm
  have h2 : Pr d i * m * (pt d i q).f2.toNat ≤ TT0 * 9 ^ (3 - i) * 9 := Nat.mul_le_mul h1 (by omega)
  refine Nat.le_trans h2 ?_
  rw [Nat.mul_assoc, ← Nat.pow_succ]
  exact Nat.mul_le_mul_left _ (Nat.pow_le_pow_right (by omega) (by omega))
theorem small_num {d : List Ds} {i m : Nat} (hm : Pr d (i + 1) * m ≤ TT0 * 9 ^ (3 - i)) : Pr d (i + 1) * m ≤ 4534963200 := by
  have : 9 ^ (3 - i) ≤ 9 ^ 3 := Nat.pow_le_pow_right (by omega) (by omega)
  have h2 : TT0 * 9 ^ (3 - i) ≤ TT0 * 9 ^ 3 := Nat.mul_le_mul_left _ this
  have h3 : TT0 * 9 ^ 3 = 4534963200 := by decide
  omega
theorem cf_small {d : List Ds} {l : List Fd} (v : DV d l) (f : Nat) : ∀ n i, i < n → i < d.length → ∀ m, Pr d (i + 1) * m ≤ TT0 * 9 ^ (3 - i) → m * cf d l n i f ≤ 5 ^ (i + 1) * 4530428236800
  | 0, i, h, _, _, _ => absurd h (by omega)
  | n + 1, i, hin, hi, m, hm => by
    have hp5 := (v.2.2 i hi).1.2.2.1
    have key : ∀ q, q ≤ (dAt d i).f2.length → m * cfq d l (cf d l n) i q f ≤ q * (5 ^ i * 4530428236800) := by
      intro q
      induction q with
      | zero => intro _; show m * 0 ≤ _; omega
      | succ q ih =>
        intro hq
        have h1 := ih (by omega)
        have h2 : m * pc d l (cf d l n) i q f ≤ 5 ^ i * 4530428236800 := by
          unfold pc
          split
          · rename_i h0
            obtain ⟨_, _, hn1, hn2⟩ := part_food v hi hq h0
            split
            · have h3 := small_num hm
              have h4 : Pr d i * m ≤ Pr d (i + 1) * m := Nat.mul_le_mul_right m (Nat.le_mul_of_pos_right _ (sv_in v hi).2.1)
              have h5 : Pr d i * m * (pt d i q).f2.toNat ≤ 4534963200 * 999 := Nat.mul_le_mul (by omega) (by omega)
              have e : m * (Pr d i * (pt d i q).f2.toNat) = Pr d i * m * (pt d i q).f2.toNat := by rw [← Nat.mul_assoc, Nat.mul_comm m]
              rw [e]
              have h6 : 1 ≤ 5 ^ i := Nat.succ_le_of_lt (Nat.pow_pos (by decide))
              have h7 : 1 * 4530428236800 ≤ 5 ^ i * 4530428236800 := Nat.mul_le_mul_right _ h6
              exact Nat.le_trans h5 (Nat.le_trans (by decide) h7)
            · rw [Nat.mul_zero]; exact Nat.zero_le _
          · rename_i h0
            obtain ⟨N, eN, hN, eN2, hc, ec, e1, e2⟩ := kid v hi hq h0 m hm
            have h3 := cf_small v f n (ch d i q) (by omega) (by omega) _ e2
            rw [eN2]
            have e : m * (Pr d i / Pr d (ch d i q + 1) * N * cf d l n (ch d i q) f) = Pr d i / Pr d (ch d i q + 1) * m * N * cf d l n (ch d i q) f := by
              rw [← Nat.mul_assoc, ← Nat.mul_assoc, Nat.mul_comm m]
            rw [e]
            exact Nat.le_trans h3 (Nat.mul_le_mul_right _ (Nat.pow_le_pow_right (by omega) (by omega)))
        show m * (cfq d l (cf d l n) i q f + pc d l (cf d l n) i q f) ≤ _
        rw [Nat.mul_add, Nat.succ_mul]
        omega
    refine Nat.le_trans (key _ (Nat.le_refl _)) ?_
    rw [Nat.pow_succ, Nat.mul_comm (5 ^ i) 5, Nat.mul_assoc]
    exact Nat.mul_le_mul_right _ (by omega)
/-- one part's share: what stands behind it -/
def Sh (d : List Ds) (l : List Fd) (n i m : Nat) (s : List Int) (q : Nat) (r : List Int) : Prop := r.length = l.length ∧ ∀ f, f < l.length → r.getD f 0 = s.getD f 0 + ((m * cfq d l (cf d l n) i q f : Nat) : Int)
def Rm (d : List Ds) (l : List Fd) (n i m : Nat) (s : List Int) : Prop := s.length = l.length ∧ ∀ f, f < l.length → 0 ≤ s.getD f 0 ∧ s.getD f 0 + ((m * cf d l n i f : Nat) : Int) ≤ 10000000000000000
theorem sh_food {d : List Ds} {l : List Fd} (v : DV d l) {n i m q : Nat} {s r : List Int} (hi : i < d.length) (hq : q < (dAt d i).f2.length) (h0 : (pt d i q).f1 = 0) (hm : Pr d (i + 1) * m ≤ TT0 * 9 ^ (3 - i)) (hs : Rm d l (n + 1) i m s) (h : Sh d l n i m s q r) (k : Nat) (ek : fPl l (pt d i q).f0 = k) (hk : k < l.length) :
    wrap64 (rd r (k : Int) + ((Pr d i * m * (pt d i q).f2.toNat : Nat) : Int)) = rd r (k : Int) + ((Pr d i * m * (pt d i q).f2.toNat : Nat) : Int) ∧ Sh d l n i m s (q + 1) (r.set k (rd r (k : Int) + ((Pr d i * m * (pt d i q).f2.toNat : Nat) : Int))) := by
  have epc : ∀ f, m * pc d l (cf d l n) i q f = if f = k then Pr d i * m * (pt d i q).f2.toNat else 0 := by
    intro f
    unfold pc
    rw [if_pos h0, ek]
    by_cases hf : f = k
    · rw [if_pos (by omega), if_pos hf, ← Nat.mul_assoc, Nat.mul_comm m]
    · rw [if_neg (by omega), if_neg hf, Nat.mul_zero]
  have nx : ∀ f, m * cfq d l (cf d l n) i (q + 1) f = m * cfq d l (cf d l n) i q f + (if f = k then Pr d i * m * (pt d i q).f2.toNat else 0) := by
    intro f
    show m * (cfq d l (cf d l n) i q f + pc d l (cf d l n) i q f) = _
    rw [Nat.mul_add, epc]
  have erd : rd r (k : Int) = r.getD k 0 := rfl
  have hle := Nat.mul_le_mul_left m (cfq_le d l (cf d l n) i k (q + 1) _ hq)
  have e1 := h.2 k hk
  have e2 := hs.2 k hk
  have e3 := nx k
  rw [if_pos rfl] at e3
  have e4 : cf d l (n + 1) i k = cfq d l (cf d l n) i (dAt d i).f2.length k := rfl
  rw [e4] at e2
  refine ⟨wrap_id (by rw [erd]; omega) (by rw [erd]; omega), by rw [List.length_set]; exact h.1, fun f hf => ?_⟩
  rw [getD_set _ _ _ _ _ (by rw [h.1]; exact hk), nx f, erd]
  by_cases hfk : f = k
  · subst hfk
    rw [if_pos rfl, if_pos rfl, e1]
    push_cast
    omega
  · rw [if_neg hfk, if_neg hfk, h.2 f hf]
    simp
theorem sh_kid {d : List Ds} {l : List Fd} (v : DV d l) {n i m q : Nat} {s r : List Int} (hi : i < d.length) (hq : q < (dAt d i).f2.length) (h0 : (pt d i q).f1 ≠ 0) (hm : Pr d (i + 1) * m ≤ TT0 * 9 ^ (3 - i)) (hs : Rm d l (n + 1) i m s) (h : Sh d l n i m s q r) :
    Rm d l n (ch d i q) (Pr d i / Pr d (ch d i q + 1) * m * (pt d i q).f2.toNat) r ∧ ∀ r', r'.length = l.length → (∀ f, f < l.length → r'.getD f 0 = r.getD f 0 + ((Pr d i / Pr d (ch d i q + 1) * m * (pt d i q).f2.toNat * cf d l n (ch d i q) f : Nat) : Int)) → Sh d l n i m s (q + 1) r' := by
  have epc : ∀ f, m * pc d l (cf d l n) i q f = Pr d i / Pr d (ch d i q + 1) * m * (pt d i q).f2.toNat * cf d l n (ch d i q) f := by
    intro f
    unfold pc
    rw [if_neg h0, ← Nat.mul_assoc, ← Nat.mul_assoc, Nat.mul_comm m]
  have nx : ∀ f, m * cfq d l (cf d l n) i (q + 1) f = m * cfq d l (cf d l n) i q f + Pr d i / Pr d (ch d i q + 1) * m * (pt d i q).f2.toNat * cf d l n (ch d i q) f := by
    intro f
    show m * (cfq d l (cf d l n) i q f + pc d l (cf d l n) i q f) = _
    rw [Nat.mul_add, epc]
  refine ⟨⟨h.1, fun f hf => ?_⟩, fun r' hl hr => ⟨hl, fun f hf => ?_⟩⟩
  · have hle := Nat.mul_le_mul_left m (cfq_le d l (cf d l n) i f (q + 1) _ hq)
    have e1 := h.2 f hf
    have e2 := hs.2 f hf
    have e3 := nx f
    have e4 : cf d l (n + 1) i f = cfq d l (cf d l n) i (dAt d i).f2.length f := rfl
    rw [e4] at e2
    omega
  · rw [hr f hf, h.2 f hf, nx f]
    push_cast
    omega
theorem num_div (a S : Nat) (hS : 1 ≤ S) : Int.tdiv ((a * S : Nat) : Int) (S : Int) = (a : Int) := by
  rw [Int.natCast_mul]
  exact Int.mul_tdiv_cancel _ (by omega)
theorem sAdd_ok {d : List Ds} {l : List Fd} (v : DV d l) (hl : l.length ≤ 2000000) : ∀ n i, i < n → i < d.length → ∀ (m : Nat) (s : List Int), Pr d (i + 1) * m ≤ TT0 * 9 ^ (3 - i) → Rm d l n i m s → Ok (fun k => spec_l11Add.f k d l (i : Int) ((Pr d (i + 1) * m : Nat) : Int) s) (fun r => r.length = l.length ∧ ∀ f, f < l.length → r.getD f 0 = s.getD f 0 + ((m * cf d l n i f : Nat) : Int))
  | 0, i, h, _, _, _, _, _ => absurd h (by omega)
  | n + 1, i, hin, hi, m, s, hm, hs => by
    have h4 := v.2.1
    have hp5 := (v.2.2 i hi).1.2.2.1
    obtain ⟨eS, hS1, hS2⟩ := sv_in v hi
    have hsm := small_num hm
    refine Ok.step (fun k => by simp only [spec_l11Add.f]; rfl) (Ok.pos (by omega) (Ok.pos (by omega) ?_))
    rw [dAt_rd]
    refine Ok.range (fun (r : List Int) q k => spec_l11Add.l0 k d l ((Pr d (i + 1) * m : Nat) : Int) r q (dAt d i).f0 (dAt d i).f1 (dAt d i).f2) (dAt d i).f2.length (fun q r => Sh d l n i m s q r) _ ?_ ?_ s ⟨hs.1, fun f hf => by show _ = _ + ((m * 0 : Nat) : Int); simp⟩
    · intro q r hq hr ih
      refine Ok.step (fun k => by simp only [spec_l11Add.l0]; rfl) (Ok.pos (by omega) (Ok.pos (by omega) (Ok.neg (by omega) ?_)))
      rw [pAt_rd, wrap_id (n := (q : Int) + 1) (by omega) (by omega)]
      have eN : ∀ N : Nat, pAt (dAt d i).f2 q = pt d i q → (pt d i q).f2 = (N : Int) → N ≤ 999 → wrap64 (Int.tdiv (wrap64 (((Pr d (i + 1) * m : Nat) : Int) * (pt d i q).f2)) (dAt d i).f1) = ((Pr d i * m * N : Nat) : Int) := by
        intro N _ hN hN9
        have e : ((Pr d (i + 1) * m : Nat) : Int) * (N : Int) = ((Pr d i * m * N * sv d i : Nat) : Int) := by
          rw [← Int.natCast_mul]
          congr 1
          show Pr d i * sv d i * m * N = _
          ac_rfl
        have hb : Pr d (i + 1) * m * N ≤ 4534963200 * 999 := Nat.mul_le_mul hsm hN9
        have hb2 : Pr d i * m * N ≤ Pr d i * m * N * sv d i := Nat.le_mul_of_pos_right _ hS1
        have hb3 : Pr d i * m * N * sv d i = Pr d (i + 1) * m * N := by
          show _ = Pr d i * sv d i * m * N
          ac_rfl
        rw [hN, e, wrap_id (n := ((Pr d i * m * N * sv d i : Nat) : Int)) (by omega) (by omega), eS, num_div _ _ hS1, wrap_id (by omega) (by omega)]
      show Ok (fun k => if (pt d i q).f1 > 0 then _ else _) _
      by_cases h0 : (pt d i q).f1 = 0
      · refine Ok.neg (by omega) (Ok.bind (l5Find_ok l _ hl) ?_)
        rintro _ rfl
        obtain ⟨hp, _, hn1, hn2⟩ := part_food v hi hq h0
        obtain ⟨k, ek, hk⟩ : ∃ k : Nat, fPl l (pt d i q).f0 = k ∧ k < l.length := by
          rcases fPl_is l (pt d i q).f0 with ⟨e, _⟩ | ⟨k, e, hk, _⟩
          · omega
          · exact ⟨k, e, hk⟩
        have ek' : fPl l (pAt (dAt d i).f2 q).f0 = k := ek
        rw [ek']
        obtain ⟨hw, hsh⟩ := sh_food v hi hq h0 hm hs hr k ek hk
        refine Ok.pos (by omega) (Ok.pos (by rw [hr.1]; omega) ?_)
        have e := eN (pt d i q).f2.toNat rfl (by omega) (by omega)
        have e' : wrap64 (Int.tdiv (wrap64 (((Pr d (i + 1) * m : Nat) : Int) * (pAt (dAt d i).f2 q).f2)) (dAt d i).f1) = ((Pr d i * m * (pt d i q).f2.toNat : Nat) : Int) := e
        rw [e', hw, Int.toNat_natCast]
        exact ih _ hsh
      · obtain ⟨N, hN, hN9, eN2, hc, ec, e1, e2⟩ := kid v hi hq h0 m hm
        obtain ⟨_, _, _, hp, _⟩ := part_dish v hi hq h0
        refine Ok.pos (by omega) (Ok.bind (l11Find_ok d _ (by omega)) ?_)
        rintro _ rfl
        have ec' : dPl d (pAt (dAt d i).f2 q).f1 = (ch d i q : Int) := ec
        have e' : wrap64 (Int.tdiv (wrap64 (((Pr d (i + 1) * m : Nat) : Int) * (pAt (dAt d i).f2 q).f2)) (dAt d i).f1) = ((Pr d i * m * N : Nat) : Int) := eN N rfl hN (by omega)
        rw [ec', e', ← e1]
        obtain ⟨hrm, hnx⟩ := sh_kid v hi hq h0 hm hs hr
        rw [eN2] at hrm hnx
        refine Ok.bind (sAdd_ok v hl n (ch d i q) (by omega) (by omega) _ r e2 hrm) fun r' hr' => ih r' (hnx r' hr'.1 hr'.2)
    · intro r hr
      exact Ok.step (fun k => by simp only [spec_l11Add.l0]; rfl) (Ok.neg (by omega) (Ok.ret hr))
end Go.Proofs.Ytclldijjbmnkeaa.Pure
/- The same sums in the program. Condition: valid dishes. -/
namespace Go.Proofs.Ytclldijjbmnkeaa.Pure
open Go.RowKit Go.Proofs.YtclldijjbmnkeaaW.PrintWords Go.Proofs.YtclldijjbmnkeaaW.PrintLast Go.Proofs.Ytclldijjbmnkeaa.Q
set_option linter.unusedVariables false
set_option linter.unusedSimpArgs false
theorem iAdd_ok {d : List Ds} {l : List Fd} (v : DV d l) (hl : l.length ≤ 2000000) : ∀ n i, i < n → i < d.length → ∀ (id : Int), dPl d id = (i : Int) → ∀ (m : Nat) (s : List Int), Pr d (i + 1) * m ≤ TT0 * 9 ^ (3 - i) → Rm d l n i m s → Ok (fun k => impl_addNeeds.f k d l id ((Pr d (i + 1) * m : Nat) : Int) s) (fun r => r.length = l.length ∧ ∀ f, f < l.length → r.getD f 0 = s.getD f 0 + ((m * cf d l n i f : Nat) : Int))
  | 0, i, h, _, _, _, _, _, _, _ => absurd h (by omega)
  | n + 1, i, hin, hi, id, hid, m, s, hm, hs => by
    have h4 := v.2.1
    have hp5 := (v.2.2 i hi).1.2.2.1
    obtain ⟨eS, hS1, hS2⟩ := sv_in v hi
    have hsm := small_num hm
    refine Ok.step (fun k => by simp only [impl_addNeeds.f]; rfl) ?_
    rw [iDFind_eq, hid]
    refine Ok.val (Ok.pos (by omega) (Ok.pos (by omega) ?_))
    rw [dAt_rd]
    refine Ok.range (fun (r : List Int) q k => impl_addNeeds.l0 k d l ((Pr d (i + 1) * m : Nat) : Int) r (dAt d i).f2 ((dAt d i).f2.length : Int) q (dAt d i).f0 (dAt d i).f1 (dAt d i).f2) (dAt d i).f2.length (fun q r => Sh d l n i m s q r) _ ?_ ?_ s ⟨hs.1, fun f hf => by show _ = _ + ((m * 0 : Nat) : Int); simp⟩
    · intro q r hq hr ih
      refine Ok.step (fun k => by simp only [impl_addNeeds.l0]; rfl) (Ok.pos (by omega) (Ok.pos (by omega) (Ok.pos (by omega) (Ok.neg (by omega) ?_))))
      rw [pAt_rd, wrap_id (n := (q : Int) + 1) (by omega) (by omega)]
      have eN : ∀ N : Nat, (pt d i q).f2 = (N : Int) → N ≤ 999 → wrap64 ((wrap64 (Int.tdiv ((Pr d (i + 1) * m : Nat) : Int) (dAt d i).f1)) * (pAt (dAt d i).f2 q).f2) = ((Pr d i * m * N : Nat) : Int) := by
        intro N hN hN9
        have e : Pr d (i + 1) * m = Pr d i * m * sv d i := by
          show Pr d i * sv d i * m = _
          ac_rfl
        have hb : Pr d i * m ≤ Pr d i * m * sv d i := Nat.le_mul_of_pos_right _ hS1
        have hb2 : Pr d i * m * N ≤ 4534963200 * 999 := Nat.mul_le_mul (by omega) hN9
        have hN' : (pAt (dAt d i).f2 q).f2 = (N : Int) := hN
        rw [e, eS, num_div _ _ hS1, wrap_id (n := ((Pr d i * m : Nat) : Int)) (by omega) (by omega), hN', ← Int.natCast_mul, wrap_id (by omega) (by omega)]
      by_cases h0 : (pt d i q).f1 = 0
      · obtain ⟨hp, hf0, hn1, hn2⟩ := part_food v hi hq h0
        have hf0' : (pAt (dAt d i).f2 q).f0 > 0 := hf0
        refine Ok.pos hf0' ?_
        obtain ⟨k, ek, hk⟩ : ∃ k : Nat, fPl l (pt d i q).f0 = k ∧ k < l.length := by
          rcases fPl_is l (pt d i q).f0 with ⟨e, _⟩ | ⟨k, e, hk, _⟩
          · omega
          · exact ⟨k, e, hk⟩
        have ek' : fPl l (pAt (dAt d i).f2 q).f0 = k := ek
        rw [foodPlace_eq, ek']
        obtain ⟨hw, hsh⟩ := sh_food v hi hq h0 hm hs hr k ek hk
        refine Ok.val (Ok.pos (by omega) (Ok.pos (by rw [hr.1]; omega) ?_))
        rw [eN (pt d i q).f2.toNat (by omega) (by omega), hw, Int.toNat_natCast]
        exact ih _ hsh
      · obtain ⟨N, hN, hN9, eN2, hc, ec, e1, e2⟩ := kid v hi hq h0 m hm
        obtain ⟨_, _, _, hp, hf0, _⟩ := part_dish v hi hq h0
        have hf0' : ¬ (pAt (dAt d i).f2 q).f0 > 0 := by
          have : (pAt (dAt d i).f2 q).f0 = 0 := hf0
          omega
        refine Ok.neg hf0' ?_
        rw [eN N hN (by omega), ← e1]
        obtain ⟨hrm, hnx⟩ := sh_kid v hi hq h0 hm hs hr
        rw [eN2] at hrm hnx
        exact Ok.bind (iAdd_ok v hl n (ch d i q) (by omega) (by omega) _ ec _ r e2 hrm) fun r' hr' => ih r' (hnx r' hr'.1 hr'.2)
    · intro r hr
      exact Ok.step (fun k => by simp only [impl_addNeeds.l0]; rfl) (Ok.neg (by omega) (Ok.ret hr))
theorem Pr_small {d : List Ds} {l : List Fd} (v : DV d l) (i : Nat) (hi : i ≤ d.length) : Pr d i ≤ 20736 := by
  have h4 := v.2.1
  have h1 := Pr_le v i hi
  have h2 : 12 ^ i ≤ 12 ^ 4 := Nat.pow_le_pow_right (by omega) (by omega)
  have h3 : 12 ^ 4 = 20736 := by decide
  omega
theorem whole_next {d : List Ds} {l : List Fd} (v : DV d l) (i : Nat) (hi : i < d.length) : wrap64 (((Pr d i : Nat) : Int) * (dAt d i).f1) = ((Pr d (i + 1) : Nat) : Int) := by
  have h := Pr_small v (i + 1) (by omega)
  rw [(sv_in v hi).1, ← Int.natCast_mul]
  exact wrap_id (n := ((Pr d (i + 1) : Nat) : Int)) (by omega) (by omega)
theorem whole_ok {d : List Ds} {l : List Fd} (v : DV d l) : Ok (fun k => spec_l11Whole.f k d) (· = ((Pr d d.length : Nat) : Int)) := by
  have h4 := v.2.1
  unfold spec_l11Whole.f
  refine Ok.range (fun (s : Int) i k => spec_l11Whole.l0 k d s i) d.length (fun i s => s = ((Pr d i : Nat) : Int)) _ ?_ ?_ 1 rfl
  · rintro i _ hi rfl ih
    refine Ok.step (fun k => by simp only [spec_l11Whole.l0]; rfl) (Ok.pos (by omega) (Ok.pos (by omega) ?_))
    rw [dAt_rd, wrap_id (n := (i : Int) + 1) (by omega) (by omega)]
    exact ih _ (whole_next v i hi)
  · rintro _ rfl
    exact Ok.step (fun k => by simp only [spec_l11Whole.l0]; rfl) (Ok.neg (by omega) (Ok.ret rfl))
end Go.Proofs.Ytclldijjbmnkeaa.Pure
/- What a dish needs, in the program and in the reference. Condition: as for valid dishes. -/
namespace Go.Proofs.Ytclldijjbmnkeaa.Pure
open Go.RowKit Go.Proofs.YtclldijjbmnkeaaW.PrintWords Go.Proofs.YtclldijjbmnkeaaW.PrintLast Go.Proofs.Ytclldijjbmnkeaa.Q
set_option linter.unusedVariables false
set_option linter.unusedSimpArgs false
/-- what one guest of dish i needs of food f, in parts of the product of all; for c guests, rounded up -/
def nB (d : List Ds) (l : List Fd) (i f : Nat) : Nat := Pr d d.length / Pr d (i + 1) * cf d l d.length i f
def nU (d : List Ds) (l : List Fd) (i c f : Nat) : Nat := (c * nB d l i f + Pr d d.length - 1) / Pr d d.length
def NdR (d : List Ds) (l : List Fd) (id cv : Int) (r : List Int × Bool) : Prop :=
  (DV d l ∧ 0 ≤ cv ∧ cv ≤ 300 ∧ ∃ i : Nat, i < d.length ∧ dPl d id = (i : Int) ∧ ((r.2 = true ∧ r.1.length = l.length ∧ ∀ f, f < l.length → r.1.getD f 0 = ((nU d l i cv.toNat f : Nat) : Int) ∧ nU d l i cv.toNat f ≤ 999999) ∨ ((∃ f, f < l.length ∧ 999999 < nU d l i cv.toNat f) ∧ r = ([], false)))) ∨
  (¬ (DV d l ∧ 0 ≤ dPl d id ∧ 0 ≤ cv ∧ cv ≤ 300) ∧ r = ([], false))
theorem ndR_eq {d : List Ds} {l : List Fd} {id cv : Int} {r r' : List Int × Bool} (h : NdR d l id cv r) (h' : NdR d l id cv r') : r = r' := by
  rcases h with ⟨v, c0, c1, i, hi, e, h⟩ | ⟨h, rfl⟩ <;> rcases h' with ⟨v', c0', c1', i', hi', e', h'⟩ | ⟨h', rfl⟩
  · obtain rfl : i = i' := by omega
    rcases h with ⟨h1, h2, h3⟩ | ⟨⟨f, hf, h1⟩, rfl⟩ <;> rcases h' with ⟨h1', h2', h3'⟩ | ⟨⟨f', hf', h1'⟩, rfl⟩
    · refine Prod.ext (eq_of_getD 0 (by omega) fun f hf => ?_) (by rw [h1, h1'])
      rw [(h3 f (by omega)).1, (h3' f (by omega)).1]
    · have := (h3 f' hf').2
      omega
    · have := (h3' f hf).2
      omega
    · rfl
  · exact absurd ⟨v, by omega, c0, c1⟩ h'
  · exact absurd ⟨v', by omega, c0', c1'⟩ h
  · rfl
theorem up_eq (a w : Nat) (ha : a ≤ 10000000000000000) (hw : 1 ≤ w) (hw' : w ≤ 20736) : wrap64 (Int.tdiv (wrap64 ((wrap64 ((a : Int) + (w : Int))) - 1)) (w : Int)) = (((a + w - 1) / w : Nat) : Int) := by
  have e : (a : Int) + (w : Int) - 1 = ((a + w - 1 : Nat) : Int) := by omega
  have hle : (a + w - 1) / w ≤ a + w - 1 := Nat.div_le_self _ _
  rw [wrap_id (n := (a : Int) + (w : Int)) (by omega) (by omega), wrap_id (n := (a : Int) + (w : Int) - 1) (by omega) (by omega), e, Int.tdiv_eq_ediv_of_nonneg (by omega), ← Int.natCast_ediv]
  generalize (a + w - 1) / w = z at hle ⊢
  exact wrap_id (by omega) (by omega)
/-- what is asked of a dish at first, for cv guests -/
theorem first_num {d : List Ds} {l : List Fd} (v : DV d l) {i : Nat} (hi : i < d.length) {c : Nat} (hc : c ≤ 300) :
    Pr d (i + 1) * (Pr d d.length / Pr d (i + 1) * c) = c * Pr d d.length ∧ Pr d (i + 1) * (Pr d d.length / Pr d (i + 1) * c) ≤ TT0 * 9 ^ (3 - i) ∧ (∀ f, Pr d d.length / Pr d (i + 1) * c * cf d l d.length i f = c * nB d l i f) ∧ (∀ f, c * nB d l i f ≤ 10000000000000000) ∧ wrap64 ((c : Int) * ((Pr d d.length : Nat) : Int)) = ((Pr d (i + 1) * (Pr d d.length / Pr d (i + 1) * c) : Nat) : Int) := by
  have h4 := v.2.1
  have hP := Pr_small v d.length (Nat.le_refl _)
  have e1 : Pr d (i + 1) * (Pr d d.length / Pr d (i + 1) * c) = c * Pr d d.length := by
    rw [← Nat.mul_assoc, Nat.mul_div_cancel' (Pr_dvd d (i + 1) d.length (by omega)), Nat.mul_comm]
  have hb : c * Pr d d.length ≤ 300 * 20736 := Nat.mul_le_mul hc hP
  have hT : TT0 * 1 ≤ TT0 * 9 ^ (3 - i) := Nat.mul_le_mul_left _ (Nat.succ_le_of_lt (Nat.pow_pos (by decide)))
  have hT0 : TT0 = 6220800 := rfl
  have e2 : Pr d (i + 1) * (Pr d d.length / Pr d (i + 1) * c) ≤ TT0 * 9 ^ (3 - i) := by rw [e1]; omega
  have e3 : ∀ f, Pr d d.length / Pr d (i + 1) * c * cf d l d.length i f = c * nB d l i f := by
    intro f
    unfold nB
    ac_rfl
  refine ⟨e1, e2, e3, fun f => ?_, ?_⟩
  · rw [← e3]
    refine Nat.le_trans (cf_small v f d.length i hi hi _ e2) ?_
    have h5 : 5 ^ (i + 1) ≤ 5 ^ 4 := Nat.pow_le_pow_right (by omega) (by omega)
    exact Nat.le_trans (Nat.mul_le_mul_right _ h5) (by decide)
  · rw [e1, ← Int.natCast_mul, wrap_id (by omega) (by omega)]
/-- the sums that stand before they are rounded -/
def Sum0 (d : List Ds) (l : List Fd) (i c : Nat) (r : List Int) : Prop := r.length = l.length ∧ ∀ f, f < l.length → r.getD f 0 = ((c * nB d l i f : Nat) : Int)
theorem rm_zero {d : List Ds} {l : List Fd} (v : DV d l) {i : Nat} (hi : i < d.length) {c : Nat} (hc : c ≤ 300) : Rm d l d.length i (Pr d d.length / Pr d (i + 1) * c) (List.replicate l.length 0) := by
  obtain ⟨e1, e2, e3, e4, _⟩ := first_num v hi hc
  refine ⟨by simp, fun f hf => ?_⟩
  have e0 : (List.replicate l.length (0 : Int)).getD f 0 = 0 := by rw [getD_at _ _ _ (by simpa using hf)]; simp
  have := e4 f
  rw [e0, e3]
  omega
theorem sum0_of {d : List Ds} {l : List Fd} (v : DV d l) {i : Nat} (hi : i < d.length) {c : Nat} (hc : c ≤ 300) {r : List Int} (h : r.length = l.length ∧ ∀ f, f < l.length → r.getD f 0 = (List.replicate l.length (0 : Int)).getD f 0 + ((Pr d d.length / Pr d (i + 1) * c * cf d l d.length i f : Nat) : Int)) : Sum0 d l i c r := by
  obtain ⟨e1, e2, e3, e4, _⟩ := first_num v hi hc
  refine ⟨h.1, fun f hf => ?_⟩
  have e0 : (List.replicate l.length (0 : Int)).getD f 0 = 0 := by rw [getD_at _ _ _ (by simpa using hf)]; simp
  rw [h.2 f hf, e0, e3, Int.zero_add]
/-- while they are rounded -/
def Rnd (d : List Ds) (l : List Fd) (i c q : Nat) (r : List Int) : Prop := r.length = l.length ∧ ∀ f, f < l.length → if f < q then r.getD f 0 = ((nU d l i c f : Nat) : Int) ∧ nU d l i c f ≤ 999999 else r.getD f 0 = ((c * nB d l i f : Nat) : Int)
theorem rnd_next {d : List Ds} {l : List Fd} {i c q : Nat} {r : List Int} (h : Rnd d l i c q r) (hq : q < l.length) (hu : nU d l i c q ≤ 999999) : Rnd d l i c (q + 1) (r.set q ((nU d l i c q : Nat) : Int)) := by
  refine ⟨by rw [List.length_set]; exact h.1, fun f hf => ?_⟩
  rw [getD_set _ _ _ _ _ (by rw [h.1]; exact hq)]
  have := h.2 f hf
  by_cases e : f = q
  · subst e
    rw [if_pos (by omega), if_pos rfl]
    exact ⟨rfl, hu⟩
  · rw [if_neg e]
    by_cases h1 : f < q
    · rw [if_pos h1] at this
      rw [if_pos (by omega)]
      exact this
    · rw [if_neg h1] at this
      rw [if_neg (by omega)]
      exact this
theorem sNeeds_ok (d : List Ds) (l : List Fd) (id cv : Int) (hd : d.length ≤ 2000000) (hp : ∀ i, i < d.length → (dAt d i).f2.length ≤ 2000000) (hl : l.length ≤ 2000000) : Ok (fun k => spec_DishNeeds.f k d l id cv) (NdR d l id cv) := by
  unfold spec_DishNeeds.f
  have none : ¬ (DV d l ∧ 0 ≤ dPl d id ∧ 0 ≤ cv ∧ cv ≤ 300) → Ok (fun k => spec_DishNeeds.j0 k d l id cv true) (NdR d l id cv) := fun h => Ok.step (fun k => by simp only [spec_DishNeeds.j0]; rfl) (Ok.pos (by trivial) (Ok.ret (.inr ⟨h, rfl⟩)))
  refine Ok.bind (sDishes_ok d l hd hp hl) fun b hb => Ok.ite (fun h => Ok.bind (l11Find_ok d id hd) ?_) (fun h => none fun h' => h (hb.2 h'.1))
  rintro _ rfl
  have v := hb.1 h
  refine Ok.ite (fun h2 => none fun h' => by omega) (fun h2 => ?_)
  rw [l6In_eq]
  refine Ok.val ?_
  cases hc : inr cv 0 300 with
  | false => exact none fun h' => by rw [(inr_iff _ _ _).2 h'.2.2] at hc; cases hc
  | true =>
    have hcv := (inr_iff _ _ _).1 hc
    obtain ⟨i, hi, e⟩ := dPl_lt (d := d) (id := id) (by omega)
    have h4 := v.2.1
    obtain ⟨c, rfl⟩ : ∃ c : Nat, cv = c := ⟨cv.toNat, by omega⟩
    have hP := Pr_small v d.length (Nat.le_refl _)
    have hP0 := Pr_pos v d.length (Nat.le_refl _)
    obtain ⟨e1, e2, e3, e4, e5⟩ := first_num v hi (c := c) (by omega)
    refine Ok.step (fun k => by simp only [spec_DishNeeds.j0]; rfl) (Ok.neg (by simp) (Ok.bind (whole_ok v) ?_))
    rintro _ rfl
    refine Ok.bind (l11Find_ok d id hd) ?_
    rintro _ rfl
    rw [e, e5, Int.toNat_natCast]
    refine Ok.pos (by omega) (Ok.pos (Nat.le_trans (m := 2000000) (by omega) (by decide)) (Ok.bind (sAdd_ok v hl d.length i hi hi _ _ e2 (rm_zero v hi (by omega))) fun r hr => ?_))
    have hs := sum0_of v hi (c := c) (by omega) hr
    have fin : Ok (fun k => spec_DishNeeds.l0 k ((Pr d d.length : Nat) : Int) r 0) (NdR d l id (c : Int)) := by
      refine Ok.range (fun (s : List Int) q k => spec_DishNeeds.l0 k ((Pr d d.length : Nat) : Int) s q) l.length (fun q s => Rnd d l i c q s) _ ?_ ?_ r ⟨hs.1, fun f hf => by rw [if_neg (by omega)]; exact hs.2 f hf⟩
      · intro q s hq hs ih
        have hq2 := hs.2 q hq
        rw [if_neg (by omega)] at hq2
        have h9 := e4 q
        refine Ok.step (fun k => by simp only [spec_DishNeeds.l0]; rfl) (Ok.pos (by rw [hs.1]; omega) (Ok.pos (by omega) ?_))
        simp only [spec_l1Up.f]
        have erd : rd s (q : Int) = ((c * nB d l i q : Nat) : Int) := hq2
        rw [erd, if_neg (by omega), up_eq _ _ h9 (by omega) hP, wrap_id (n := (q : Int) + 1) (by omega) (by omega), Int.toNat_natCast]
        refine Ok.val (Ok.val ?_)
        have erd2 : rd (s.set q (((c * nB d l i q + Pr d d.length - 1) / Pr d d.length : Nat) : Int)) (q : Int) = ((nU d l i c q : Nat) : Int) := by
          show (s.set q _).getD q 0 = _
          rw [getD_set _ _ _ _ _ (by rw [hs.1]; exact hq), if_pos rfl]
          rfl
        rw [erd2]
        refine Ok.ite (fun h10 => Ok.ret (.inl ⟨v, by omega, by omega, i, hi, e, .inr ⟨⟨q, hq, by rw [Int.toNat_natCast]; omega⟩, rfl⟩⟩)) (fun h10 => ih _ (rnd_next hs hq (by omega)))
      · intro s hs
        refine Ok.step (fun k => by simp only [spec_DishNeeds.l0]; rfl) (Ok.neg (by rw [hs.1]; omega) (Ok.ret (.inl ⟨v, by omega, by omega, i, hi, e, .inl ⟨rfl, hs.1, fun f hf => ?_⟩⟩)))
        have := hs.2 f hf
        rw [if_pos hf] at this
        rw [Int.toNat_natCast]
        exact this
    exact fin
theorem iNeeds_ok (d : List Ds) (l : List Fd) (id cv : Int) (hd : d.length ≤ 2000000) (hp : ∀ i, i < d.length → (dAt d i).f2.length ≤ 2000000) (hl : l.length ≤ 2000000) : Ok (fun k => impl_DishNeeds.f k d l id cv) (NdR d l id cv) := by
  unfold impl_DishNeeds.f
  have none : ¬ (DV d l ∧ 0 ≤ dPl d id ∧ 0 ≤ cv ∧ cv ≤ 300) → Ok (fun k => impl_DishNeeds.j0 k d l id cv true) (NdR d l id cv) := fun h => Ok.step (fun k => by simp only [impl_DishNeeds.j0]; rfl) (Ok.pos (by trivial) (Ok.ret (.inr ⟨h, rfl⟩)))
  refine Ok.bind (hasDish_ok d l id hd hp hl) fun b hb => Ok.ite (fun h => ?_) (fun h => none fun h' => h (hb.2 ⟨h'.1, h'.2.1⟩))
  obtain ⟨v, h2⟩ := hb.1 h
  rw [within_eq]
  refine Ok.val ?_
  cases hc : inr cv 0 300 with
  | false => exact none fun h' => by rw [(inr_iff _ _ _).2 h'.2.2] at hc; cases hc
  | true =>
    have hcv := (inr_iff _ _ _).1 hc
    obtain ⟨i, hi, e⟩ := dPl_lt h2
    have h4 := v.2.1
    obtain ⟨c, rfl⟩ : ∃ c : Nat, cv = c := ⟨cv.toNat, by omega⟩
    have hP := Pr_small v d.length (Nat.le_refl _)
    have hP0 := Pr_pos v d.length (Nat.le_refl _)
    obtain ⟨e1, e2, e3, e4, e5⟩ := first_num v hi (c := c) (by omega)
    refine Ok.step (fun k => by simp only [impl_DishNeeds.j0]; rfl) (Ok.neg (by simp) ?_)
    refine Ok.range (fun (s : Int) x k => impl_DishNeeds.l0 k d l id (c : Int) s d (d.length : Int) x) d.length (fun x s => s = ((Pr d x : Nat) : Int)) _ ?_ ?_ 1 rfl
    · rintro x _ hx rfl ih
      refine Ok.step (fun k => by simp only [impl_DishNeeds.l0]; rfl) (Ok.pos (by omega) (Ok.pos (by omega) (Ok.pos (by omega) ?_)))
      rw [dAt_rd, wrap_id (n := (x : Int) + 1) (by omega) (by omega)]
      exact ih _ (whole_next v x hx)
    · rintro _ rfl
      refine Ok.step (fun k => by simp only [impl_DishNeeds.l0]; rfl) (Ok.neg (by omega) ?_)
      rw [e5, Int.toNat_natCast]
      refine Ok.pos (by omega) (Ok.pos (Nat.le_trans (m := 2000000) (by omega) (by decide)) (Ok.val (Ok.bind (iAdd_ok v hl d.length i hi hi id e _ _ e2 (rm_zero v hi (by omega))) fun r hr => ?_)))
      have hs := sum0_of v hi (c := c) (by omega) hr
      rw [List.length_replicate]
      have fin : Ok (fun k => impl_DishNeeds.l1 k ((Pr d d.length : Nat) : Int) r (l.length : Int) 0) (NdR d l id (c : Int)) := by
        refine Ok.range (fun (s : List Int) q k => impl_DishNeeds.l1 k ((Pr d d.length : Nat) : Int) s (l.length : Int) q) l.length (fun q s => Rnd d l i c q s) _ ?_ ?_ r ⟨hs.1, fun f hf => by rw [if_neg (by omega)]; exact hs.2 f hf⟩
        · intro q s hq hs ih
          have hq2 := hs.2 q hq
          rw [if_neg (by omega)] at hq2
          have h9 := e4 q
          refine Ok.step (fun k => by simp only [impl_DishNeeds.l1]; rfl) (Ok.pos (by omega) (Ok.pos (by omega) (Ok.pos (by rw [hs.1]; omega) ?_)))
          simp only [impl_roundedUp.f]
          have erd : rd s (q : Int) = ((c * nB d l i q : Nat) : Int) := hq2
          rw [erd, if_neg (by omega), up_eq _ _ h9 (by omega) hP, wrap_id (n := (q : Int) + 1) (by omega) (by omega), Int.toNat_natCast]
          refine Ok.val (Ok.val ?_)
          have erd2 : rd (s.set q (((c * nB d l i q + Pr d d.length - 1) / Pr d d.length : Nat) : Int)) (q : Int) = ((nU d l i c q : Nat) : Int) := by
            show (s.set q _).getD q 0 = _
            rw [getD_set _ _ _ _ _ (by rw [hs.1]; exact hq), if_pos rfl]
            rfl
          rw [erd2]
          refine Ok.ite (fun h10 => Ok.ret (.inl ⟨v, by omega, by omega, i, hi, e, .inr ⟨⟨q, hq, by rw [Int.toNat_natCast]; omega⟩, rfl⟩⟩)) (fun h10 => ih _ (rnd_next hs hq (by omega)))
        · intro s hs
          refine Ok.step (fun k => by simp only [impl_DishNeeds.l1]; rfl) (Ok.neg (by omega) (Ok.ret (.inl ⟨v, by omega, by omega, i, hi, e, .inl ⟨rfl, hs.1, fun f hf => ?_⟩⟩)))
          have := hs.2 f hf
          rw [if_pos hf] at this
          rw [Int.toNat_natCast]
          exact this
      exact fin
end Go.Proofs.Ytclldijjbmnkeaa.Pure
/- The reader of draws: each pick answers a number in its range and goes one place on. Condition: the bytes are bytes. -/
namespace Go.Proofs.Ytclldijjbmnkeaa.Pure
open Go.RowKit Go.Proofs.YtclldijjbmnkeaaW.PrintWords Go.Proofs.YtclldijjbmnkeaaW.PrintLast Go.Proofs.Ytclldijjbmnkeaa.Q
set_option linter.unusedVariables false
set_option linter.unusedSimpArgs false

def Bytes (b : List Int) : Prop := ∀ x ∈ b, 0 ≤ x ∧ x ≤ 255
theorem rd_byte {b : List Int} (h : Bytes b) (i : Int) : 0 ≤ rd b i ∧ rd b i ≤ 255 := by
  unfold rd
  rw [List.getD_eq_getElem?_getD]
  by_cases hi : i.toNat < b.length
  · rw [List.getElem?_eq_getElem hi]
    exact h _ (List.getElem_mem hi)
  · rw [List.getElem?_eq_none (by omega)]
    simp
theorem xor_nonneg (x y : Int) (hx : 0 ≤ x) (hx' : x < 4611686018427387904) (hy : 0 ≤ y) (hy' : y < 4611686018427387904) : 0 ≤ Go.bits .xor .i64 x y := by
  obtain ⟨a, rfl⟩ := Int.eq_ofNat_of_zero_le hx
  obtain ⟨b, rfl⟩ := Int.eq_ofNat_of_zero_le hy
  have ha : a < 2 ^ 62 := by omega
  have hb : b < 2 ^ 62 := by omega
  have hx := Nat.xor_lt_two_pow ha hb
  have ha' : a % 2 ^ 64 = a := Nat.mod_eq_of_lt (by omega)
  have hb' : b % 2 ^ 64 = b := Nat.mod_eq_of_lt (by omega)
  show 0 ≤ IntKind.i64.wrap ((BitVec.ofInt 64 (a : Int) ^^^ BitVec.ofInt 64 (b : Int)).toNat : Int)
  rw [IntKind.wrap_i64]
  simp only [BitVec.ofInt_natCast, BitVec.toNat_xor, BitVec.toNat_ofNat, ha', hb']
  omega
theorem mix_range (r1 r2 p t : Int) (h1 : 0 ≤ r1 ∧ r1 ≤ 255) (h2 : 0 ≤ r2 ∧ r2 ≤ 255) (hp : 0 ≤ p ∧ p ≤ 1099511627776) (ht : 0 ≤ t ∧ t ≤ 1099511627776) :
    wrap64 ((wrap64 ((wrap64 ((wrap64 ((wrap64 r1) * 131)) + (wrap64 ((wrap64 r2) * 1117)))) + (wrap64 (p * 29)))) + (wrap64 ((wrap64 t) * 53))) = r1 * 131 + r2 * 1117 + p * 29 + t * 53 := by
  rw [wrap_id (n := r1) (by omega) (by omega), wrap_id (n := r2) (by omega) (by omega), wrap_id (n := t) (by omega) (by omega)]
  rw [wrap_id (n := r1 * 131) (by omega) (by omega), wrap_id (n := r2 * 1117) (by omega) (by omega), wrap_id (n := p * 29) (by omega) (by omega), wrap_id (n := t * 53) (by omega) (by omega)]
  rw [wrap_id (n := r1 * 131 + r2 * 1117) (by omega) (by omega), wrap_id (n := r1 * 131 + r2 * 1117 + p * 29) (by omega) (by omega), wrap_id (by omega) (by omega)]
theorem tmod_range (x n : Int) (hx : 0 ≤ x) (hn : 1 ≤ n) : 0 ≤ Int.tmod x n ∧ Int.tmod x n < n :=
  ⟨Int.tmod_nonneg _ hx, Int.tmod_lt_of_pos _ (by omega)⟩
theorem tdiv_range (x n : Int) (hx : 0 ≤ x) (hn : 1 ≤ n) : 0 ≤ Int.tdiv x n ∧ Int.tdiv x n ≤ x := by
  refine ⟨Int.tdiv_nonneg hx (by omega), ?_⟩
  rw [Int.tdiv_eq_ediv_of_nonneg hx]
  exact Int.ediv_le_self _ hx

/-- What a pick says. -/
def Picked (p n : Int) (r : Int × Int) : Prop := r.2 = p + 1 ∧ 0 ≤ r.1 ∧ (1 ≤ n → r.1 < n) ∧ (n < 1 → r.1 = 0)
theorem pick_ok (b : List Int) (p n : Int) (hb : Bytes b) (hp : 0 ≤ p) (hp' : p ≤ 1099511627776) (hn : n ≤ 1000000000) : Ok (fun k => spec_l6Rd_pick.f k b p n) (Picked p n) := by
  unfold spec_l6Rd_pick.f
  rw [wrap_id (n := p + 1) (by omega) (by omega)]
  by_cases h1 : n < 1
  · refine Ok.pos h1 (Ok.step (fun k => by simp only [spec_l6Rd_pick.j0, if_true]; rfl) (Ok.ret ⟨rfl, by simp, fun h => absurd h (by omega), fun _ => rfl⟩))
  refine Ok.neg h1 ?_
  by_cases hl : (b.length : Int) = 0
  · rw [show ((b.length : Int) == 0) = true by simpa using hl]
    refine Ok.step (fun k => by simp only [spec_l6Rd_pick.j0, if_true]; rfl) (Ok.ret ⟨rfl, by simp, fun h => by omega, fun _ => rfl⟩)
  rw [show ((b.length : Int) == 0) = false by simpa using hl]
  have hlp : 1 ≤ (b.length : Int) := by omega
  refine Ok.step (f := _) (fun k => by simp only [spec_l6Rd_pick.j0]; rfl) ?_
  refine Ok.neg (by simp) ?_
  rw [show p + 1 - 1 = p by omega, wrap_id (n := p) (by omega) (by omega)]
  by_cases hlt : p < (b.length : Int)
  · refine Ok.pos hlt (Ok.pos hp (Ok.neg (by omega) (Ok.ret ?_)))
    have hr := rd_byte hb p
    rw [wrap_id (n := rd b p) (by omega) (by omega)]
    have := tmod_range (rd b p) n hr.1 (by omega)
    exact ⟨rfl, this.1, fun _ => this.2, fun h => absurd h h1⟩
  · have hm := tmod_range p b.length hp hlp
    have hq : wrap64 ((wrap64 (p * 7)) + 3) = p * 7 + 3 := by
      rw [wrap_id (n := p * 7) (by omega) (by omega), wrap_id (by omega) (by omega)]
    have hm2 := tmod_range (p * 7 + 3) b.length (by omega) hlp
    have ht := tdiv_range p b.length hp hlp
    rw [hq]
    refine Ok.neg hlt (Ok.neg hl (Ok.pos hm.1 (Ok.pos hm.2 (Ok.pos hm2.1 (Ok.pos hm2.2 (Ok.neg (by omega) (Ok.ret ?_)))))))
    rw [mix_range _ _ p _ (rd_byte hb _) (rd_byte hb _) ⟨hp, hp'⟩ ⟨ht.1, by omega⟩]
    have a1 := rd_byte hb (Int.tmod p b.length)
    have a2 := rd_byte hb (Int.tmod (p * 7 + 3) b.length)
    generalize rd b (Int.tmod p b.length) = r1 at *
    generalize rd b (Int.tmod (p * 7 + 3) b.length) = r2 at *
    generalize Int.tdiv p b.length = t at *
    have hx : 0 ≤ r1 * 131 + r2 * 1117 + p * 29 + t * 53 := by omega
    have hx' : r1 * 131 + r2 * 1117 + p * 29 + t * 53 < 4611686018427387904 := by omega
    generalize r1 * 131 + r2 * 1117 + p * 29 + t * 53 = x at *
    have h64 := tdiv_range x 64 hx (by omega)
    rw [wrap_id (n := Int.tdiv x 64) (by omega) (by omega)]
    have := tmod_range (Go.bits .xor .i64 x (Int.tdiv x 64)) n (xor_nonneg _ _ hx hx' h64.1 (by omega)) (by omega)
    exact ⟨rfl, this.1, fun _ => this.2, fun h => absurd h h1⟩
/-- The same, the number of answers at least one. -/
def Pk (p n : Int) (r : Int × Int) : Prop := r.2 = p + 1 ∧ 0 ≤ r.1 ∧ r.1 < n
theorem pick_in (b : List Int) (p n : Int) (hb : Bytes b) (hp : 0 ≤ p) (hp' : p ≤ 1099511627776) (hn : 1 ≤ n) (hn' : n ≤ 1000000000) : Ok (fun k => spec_l6Rd_pick.f k b p n) (Pk p n) :=
  (pick_ok b p n hb hp hp' hn').mono fun _ h => ⟨h.1, h.2.1, h.2.2.1 hn⟩
/-- a place that went on by some, not far -/
def On (p : Int) (m : Int) (q : Int) : Prop := p ≤ q ∧ q ≤ p + m
theorem open_ok (l : List Int) (hl : ∀ x ∈ l, (Lit.int .u8 x).wf = true) : ∃ b, spec_l6Open.f l = some (b, 0) ∧ Bytes b := by
  have hb : Bytes l := fun x hx => wfu8 (hl x hx)
  unfold spec_l6Open.f
  by_cases h : (l.length : Int) > 2000
  · rw [if_pos h, if_pos (by omega)]
    exact ⟨_, rfl, fun x hx => hb x (List.mem_of_mem_take hx)⟩
  · rw [if_neg h]
    exact ⟨_, rfl, hb⟩
end Go.Proofs.Ytclldijjbmnkeaa.Pure
/- The weight of an allergen: two to the power of its number, up to 8. -/
namespace Go.Proofs.Ytclldijjbmnkeaa.Pure
open Go.RowKit Go.Proofs.YtclldijjbmnkeaaW.PrintWords Go.Proofs.YtclldijjbmnkeaaW.PrintLast Go.Proofs.Ytclldijjbmnkeaa.Q
set_option linter.unusedVariables false
set_option linter.unusedSimpArgs false

theorem pow_le (i : Nat) (h : i ≤ 8) : (1 : Int) ≤ 2 ^ i ∧ (2 : Int) ^ i ≤ 256 := by
  have h1 : 2 ^ i ≤ 2 ^ 8 := Nat.pow_le_pow_right (by decide) h
  have h2 : 0 < 2 ^ i := Nat.two_pow_pos i
  constructor
  · have : ((2 ^ i : Nat) : Int) = (2 : Int) ^ i := by simp
    omega
  · have : ((2 ^ i : Nat) : Int) = (2 : Int) ^ i := by simp
    omega
theorem weight_ok (n : Nat) (h : n ≤ 8) : Ok (fun k => spec_l3Weight.f k (n : Int)) (· = (2 : Int) ^ n) := by
  unfold spec_l3Weight.f
  refine Ok.range (fun (s : Int) i k => spec_l3Weight.l0 k (n : Int) s i) n (fun i s => s = 2 ^ i) _ ?_ ?_ 1 rfl
  · rintro i _ hi rfl ih
    have hp := pow_le i (by omega)
    refine Ok.step (fun k => by simp only [spec_l3Weight.l0]; rfl) (Ok.pos (by omega) ?_)
    rw [wrap_id (n := (i : Int) + 1) (by omega) (by omega), wrap_id (n := 2 * 2 ^ i) (by omega) (by omega)]
    exact ih _ (by rw [Int.pow_succ, Int.mul_comm])
  · rintro _ rfl
    exact Ok.step (fun k => by simp only [spec_l3Weight.l0]; rfl) (Ok.neg (by omega) (Ok.ret rfl))
end Go.Proofs.Ytclldijjbmnkeaa.Pure
/- Drawn foods: at most 7. Condition: the bytes are bytes. -/
namespace Go.Proofs.Ytclldijjbmnkeaa.Pure
open Go.RowKit Go.Proofs.YtclldijjbmnkeaaW.PrintWords Go.Proofs.YtclldijjbmnkeaaW.PrintLast Go.Proofs.Ytclldijjbmnkeaa.Q
set_option linter.unusedVariables false
set_option linter.unusedSimpArgs false
theorem l91Food_ok (b : List Int) (p a : Int) (hB : Bytes b) (hp : 0 ≤ p) (hp' : p ≤ 1000000) : Ok (fun k => spec_l91Food.f k b p a) (fun r => On p 16 r.2.2.2.2.2.2) := by
  unfold spec_l91Food.f
  refine Ok.bind (pick_in b p 3 hB (by omega) (by omega) (by omega) (by omega)) ?_
  rintro ⟨v, q⟩ ⟨rfl, h0, h1⟩
  simp only at h0 h1 ⊢
  refine Ok.bind (pick_in b _ 5 hB (by omega) (by omega) (by omega) (by omega)) ?_
  rintro ⟨v2, q⟩ ⟨rfl, h2, h3⟩
  simp only at h2 h3 ⊢
  refine Ok.bind (pick_in b _ 200 hB (by omega) (by omega) (by omega) (by omega)) ?_
  rintro ⟨v3, q⟩ ⟨rfl, h4, h5⟩
  simp only at h4 h5 ⊢
  refine Ok.bind (pick_in b _ 250 hB (by omega) (by omega) (by omega) (by omega)) ?_
  rintro ⟨v4, q⟩ ⟨rfl, h6, h7⟩
  simp only at h6 h7 ⊢
  have key := Ok.range (fun (s : Int × Int × Int × Int × Int × Int × Int) i k => spec_l91Food.l0 k i b s.1 s.2.1 s.2.2.1 s.2.2.2.1 s.2.2.2.2.1 s.2.2.2.2.2.1 s.2.2.2.2.2.2) 8 (fun i s => p + 4 ≤ s.1 ∧ s.1 ≤ p + 4 + i) (fun r => On p 16 r.2.2.2.2.2.2) ?_ ?_ (p + 1 + 1 + 1 + 1, a, wrap64 (1 + v), 0, wrap64 (1 + v2), wrap64 (v3 * 4), v4) ⟨by simp only; omega, by simp only; omega⟩
  · exact key
  · rintro i ⟨q, x0, x1, x2, x3, x4, x5⟩ hi hs ih
    simp only at hs ih ⊢
    refine Ok.step (fun k => by simp only [spec_l91Food.l0]; rfl) (Ok.pos (by omega) (Ok.bind (pick_in b q 6 hB (by omega) (by omega) (by omega) (by omega)) ?_))
    rintro ⟨w, q2⟩ ⟨rfl, h8, h9⟩
    simp only at h8 h9 ⊢
    rw [wrap_id (n := (i : Int) + 1) (by omega) (by omega)]
    exact Ok.ite (fun _ => Ok.bind (weight_ok i (by omega)) fun w _ => ih (q + 1, _, _, _, _, _, _) (by simp only; omega)) (fun _ => ih (q + 1, _, _, _, _, _, _) (by simp only; omega))
  · rintro ⟨q, x0, x1, x2, x3, x4, x5⟩ hs
    simp only at hs ⊢
    refine Ok.step (fun k => by simp only [spec_l91Food.l0]; rfl) (Ok.neg (by omega) (Ok.bind (pick_in b q 60 hB (by omega) (by omega) (by omega) (by omega)) ?_))
    rintro ⟨w, q2⟩ ⟨rfl, h8, h9⟩
    simp only [Option.bind_some] at h8 h9 ⊢
    refine Ok.ite (fun _ => Ok.bind (pick_in b _ 2 hB (by omega) (by omega) (by omega) (by omega)) ?_) (fun _ => Ok.ite (fun _ => Ok.bind (pick_in b _ 2 hB (by omega) (by omega) (by omega) (by omega)) ?_) (fun _ => Ok.ite (fun _ => Ok.bind (pick_in b _ 3 hB (by omega) (by omega) (by omega) (by omega)) ?_) (fun _ => Ok.ret ⟨by simp only; omega, by simp only; omega⟩)))
    · rintro ⟨w2, q3⟩ ⟨rfl, h10, h11⟩
      exact Ok.ret ⟨by simp only; omega, by simp only; omega⟩
    · rintro ⟨w2, q3⟩ ⟨rfl, h10, h11⟩
      exact Ok.ret ⟨by simp only; omega, by simp only; omega⟩
    · rintro ⟨w2, q3⟩ ⟨rfl, h10, h11⟩
      simp only at h10 h11 ⊢
      exact Ok.pos h10 (Ok.pos (by simpa using h11) (Ok.ret ⟨by simp only; omega, by simp only; omega⟩))
theorem l91Foods_ok (b : List Int) (p : Int) (hB : Bytes b) (hp : 0 ≤ p) (hp' : p ≤ 100000) : Ok (fun k => spec_l91Foods.f k b p) (fun r => r.1.length ≤ 7 ∧ On p 200 r.2) := by
  unfold spec_l91Foods.f
  have key : ∀ d i : Nat, i + d = 8 → ∀ (xs : List S63) (q : Int), xs.length ≤ 6 → p ≤ q → q ≤ p + 18 * i → Ok (fun k => spec_l91Foods.l0 k xs ((i : Int) + 1) b q) (fun r => r.1.length ≤ 7 ∧ On p 200 r.2) := by
    intro d
    induction d with
    | zero =>
      intro i hi xs q hx h0 h1
      refine Ok.step (fun k => by simp only [spec_l91Foods.l0]; rfl) (Ok.neg (by omega) (Ok.ite (fun hpos => Ok.bind (pick_in b q 30 hB (by omega) (by omega) (by omega) (by omega)) ?_) (fun _ => Ok.ret ⟨by simp only; omega, by constructor <;> simp only <;> omega⟩)))
      rintro ⟨v, q2⟩ ⟨rfl, h2, h3⟩
      simp only at h2 h3 ⊢
      exact Ok.ite (fun _ => Ok.pos (by omega) (Ok.pos (by omega) (Ok.ret ⟨by simp; omega, by constructor <;> simp only <;> omega⟩))) (fun _ => Ok.ret ⟨by simp only; omega, by constructor <;> simp only <;> omega⟩)
    | succ d ih =>
      intro i hi xs q hx h0 h1
      refine Ok.step (fun k => by simp only [spec_l91Foods.l0]; rfl) (Ok.pos (by omega) (Ok.bind (pick_in b q 3 hB (by omega) (by omega) (by omega) (by omega)) ?_))
      rintro ⟨v, q2⟩ ⟨rfl, h2, h3⟩
      simp only at h2 h3 ⊢
      rw [wrap_id (n := (i : Int) + 1 + 1) (by omega) (by omega)]
      have e : ((i : Int) + 1 + 1) = (((i + 1 : Nat) : Int) + 1) := by omega
      rw [e]
      refine Ok.ite (fun _ => Ok.ite (fun h6 => Ok.bind (l91Food_ok b _ _ hB (by omega) (by omega)) ?_) (fun _ => ih (i + 1) (by omega) _ _ hx (by omega) (by omega))) (fun _ => ih (i + 1) (by omega) _ _ hx (by omega) (by omega))
      rintro ⟨x0, x1, x2, x3, x4, x5, q3⟩ ⟨h4, h5⟩
      simp only at h4 h5 ⊢
      exact Ok.pos (by omega) (ih (i + 1) (by omega) _ _ (by simp; omega) (by omega) (by omega))
  exact key 8 0 rfl [] p (by simp) (by omega) (by omega)
end Go.Proofs.Ytclldijjbmnkeaa.Pure
/- Drawn dishes: at most 5 of at most 5 parts. Condition: the bytes are bytes. -/
namespace Go.Proofs.Ytclldijjbmnkeaa.Pure
open Go.RowKit Go.Proofs.YtclldijjbmnkeaaW.PrintWords Go.Proofs.YtclldijjbmnkeaaW.PrintLast Go.Proofs.Ytclldijjbmnkeaa.Q
set_option linter.unusedVariables false
set_option linter.unusedSimpArgs false
/-- few dishes of few parts -/
def Few (n m : Nat) (l : List S29) : Prop := l.length ≤ n ∧ ∀ x ∈ l, x.f2.length ≤ m
theorem Few.snoc {n m : Nat} {l : List S29} (h : Few n m l) (x : S29) (hx : x.f2.length ≤ m) : Few (n + 1) m (l ++ [x]) := by
  refine ⟨by simp only [List.length_append, List.length_singleton]; exact Nat.succ_le_succ h.1, fun y hy => ?_⟩
  rcases List.mem_append.1 hy with hy | hy
  · exact h.2 y hy
  · rw [List.mem_singleton.1 hy]; exact hx
theorem Few.put {n m : Nat} {l : List S29} (h : Few n m l) (i : Nat) (x : S29) (hx : x.f2.length ≤ m) : Few n m (l.set i x) := by
  refine ⟨by simpa using h.1, fun y hy => ?_⟩
  rcases List.mem_or_eq_of_mem_set hy with hy | rfl
  · exact h.2 y hy
  · exact hx
theorem Few.more {n m n' m' : Nat} {l : List S29} (h : Few n m l) (hn : n ≤ n') (hm : m ≤ m') : Few n' m' l := ⟨Nat.le_trans h.1 hn, fun x hx => Nat.le_trans (h.2 x hx) hm⟩
theorem Few.at_ {n m : Nat} {l : List S29} (h : Few n m l) {i : Int} (h0 : 0 ≤ i) (h1 : i < l.length) : (rd_T29 l i).f2.length ≤ m := by
  refine h.2 _ ?_
  unfold rd_T29
  rw [List.getD_eq_getElem?_getD, List.getElem?_eq_getElem (by omega)]
  exact List.getElem_mem _
theorem l91Dish_ok (b : List Int) (p a : Int) (d : List S29) (l : List S63) (hB : Bytes b) (hp : 0 ≤ p) (hp' : p ≤ 100000) (hd : d.length ≤ 1000) (hl : l.length ≤ 1000) : Ok (fun k => spec_l91Dish.f k b p a d l) (fun r => r.2.2.1.length ≤ 4 ∧ On p 20 r.2.2.2) := by
  unfold spec_l91Dish.f
  refine Ok.bind (pick_in b p 12 hB (by omega) (by omega) (by omega) (by omega)) ?_
  rintro ⟨v, q⟩ ⟨rfl, h0, h1⟩
  simp only at h0 h1 ⊢
  refine Ok.bind (pick_in b _ 4 hB (by omega) (by omega) (by omega) (by omega)) ?_
  rintro ⟨v2, q⟩ ⟨rfl, h2, h3⟩
  simp only at h2 h3 ⊢
  obtain ⟨n, rfl⟩ : ∃ n : Nat, v2 = n := ⟨v2.toNat, by omega⟩
  rw [wrap_id (n := 1 + (n : Int)) (by omega) (by omega), show (1 + (n : Int)) = ((n + 1 : Nat) : Int) by omega]
  have key := Ok.range (fun (s : Int × List S55) i k => spec_l91Dish.l0 k d l ((n + 1 : Nat) : Int) i b s.1 a (wrap64 (1 + v)) s.2) (n + 1) (fun i s => s.2.length ≤ i ∧ p + 2 ≤ s.1 ∧ s.1 ≤ p + 2 + 4 * i) (fun r => r.2.2.1.length ≤ 4 ∧ On p 20 r.2.2.2) ?_ ?_ (p + 1 + 1, []) ⟨by simp, by simp only; omega, by simp only; omega⟩
  · exact key
  · rintro i ⟨q, ps⟩ hi ⟨hs1, hs2, hs3⟩ ih
    simp only at hs1 hs2 hs3 ih ⊢
    have body : ∀ (c : Bool) (q : Int), (c = true → 0 < d.length) → p + 2 ≤ q → q ≤ p + 2 + 4 * i + 1 → Ok (fun k => spec_l91Dish.j1 k d l ((n + 1 : Nat) : Int) (i : Int) c b q a (wrap64 (1 + v)) ps) (fun r => r.2.2.1.length ≤ 4 ∧ On p 20 r.2.2.2) := by
      intro c q hc hq1 hq2
      refine Ok.step (fun k => by simp only [spec_l91Dish.j1]; rfl) ?_
      rw [wrap_id (n := (i : Int) + 1) (by omega) (by omega)]
      refine Ok.ite (fun h => ?_) (fun _ => Ok.ite (fun h => ?_) (fun _ => ih (q, ps) ⟨by simp only; omega, by simp only; omega, by simp only; omega⟩))
      · have := hc h
        refine Ok.bind (pick_in b q _ hB (by omega) (by omega) (by omega) (by omega)) ?_
        rintro ⟨w, q2⟩ ⟨rfl, h4, h5⟩
        simp only at h4 h5 ⊢
        refine Ok.pos h4 (Ok.pos h5 (Ok.bind (pick_in b _ 9 hB (by omega) (by omega) (by omega) (by omega)) ?_))
        rintro ⟨w2, q3⟩ ⟨rfl, h6, h7⟩
        simp only at h6 h7 ⊢
        exact Ok.pos (by omega) (ih (q + 1 + 1, _) ⟨by simp only [List.length_append, List.length_singleton]; omega, by simp only; omega, by simp only; omega⟩)
      · refine Ok.bind (pick_in b q _ hB (by omega) (by omega) (by omega) (by omega)) ?_
        rintro ⟨w, q2⟩ ⟨rfl, h4, h5⟩
        simp only at h4 h5 ⊢
        refine Ok.pos h4 (Ok.pos h5 (Ok.bind (pick_in b _ 200 hB (by omega) (by omega) (by omega) (by omega)) ?_))
        rintro ⟨w2, q3⟩ ⟨rfl, h6, h7⟩
        simp only at h6 h7 ⊢
        exact Ok.pos (by omega) (ih (q + 1 + 1, _) ⟨by simp only [List.length_append, List.length_singleton]; omega, by simp only; omega, by simp only; omega⟩)
    refine Ok.step (fun k => by simp only [spec_l91Dish.l0]; rfl) (Ok.pos (by omega) (Ok.ite (fun h => Ok.bind (pick_in b q 3 hB (by omega) (by omega) (by omega) (by omega)) ?_) (fun _ => body false q (fun h => by cases h) (by omega) (by omega))))
    rintro ⟨w, q2⟩ ⟨rfl, h4, h5⟩
    simp only at h4 h5 ⊢
    exact body _ _ (fun _ => by omega) (by omega) (by omega)
  · rintro ⟨q, ps⟩ ⟨hs1, hs2, hs3⟩
    simp only at hs1 hs2 hs3 ⊢
    exact Ok.step (fun k => by simp only [spec_l91Dish.l0]; rfl) (Ok.neg (by omega) (Ok.ret ⟨by simp only; omega, by simp only; omega, by simp only; omega⟩))
theorem l91Dishes_ok (b : List Int) (p : Int) (l : List S63) (hB : Bytes b) (hp : 0 ≤ p) (hp' : p ≤ 10000) (hl : l.length ≤ 1000) : Ok (fun k => spec_l91Dishes.f k b p l) (fun r => Few 5 5 r.1 ∧ On p 200 r.2) := by
  unfold spec_l91Dishes.f
  refine Ok.bind (pick_in b p 4 hB (by omega) (by omega) (by omega) (by omega)) ?_
  rintro ⟨v, q⟩ ⟨rfl, h0, h1⟩
  simp only at h0 h1 ⊢
  obtain ⟨n, rfl⟩ : ∃ n : Nat, v = n := ⟨v.toNat, by omega⟩
  rw [wrap_id (n := 1 + (n : Int)) (by omega) (by omega), show (1 + (n : Int)) = ((n + 1 : Nat) : Int) by omega]
  have key := Ok.range (fun (s : Int × List S29) i k => spec_l91Dishes.l0 k l s.2 ((n + 1 : Nat) : Int) i b s.1) (n + 1) (fun i s => Few i 4 s.2 ∧ s.2.length = i ∧ p + 1 ≤ s.1 ∧ s.1 ≤ p + 1 + 20 * i) (fun r => Few 5 5 r.1 ∧ On p 200 r.2) ?_ ?_ (p + 1, []) ⟨⟨by simp, by simp⟩, by simp, by simp only; omega, by simp only; omega⟩
  · exact key
  · rintro i ⟨q, ds⟩ hi ⟨hs1, hs0, hs2, hs3⟩ ih
    simp only at hs1 hs0 hs2 hs3 ih ⊢
    refine Ok.step (fun k => by simp only [spec_l91Dishes.l0]; rfl) (Ok.pos (by omega) (Ok.bind (l91Dish_ok b q _ ds l hB (by omega) (by omega) (by omega) hl) ?_))
    rintro ⟨x0, x1, x2, q2⟩ ⟨h4, h5, h6⟩
    simp only at h4 h5 h6 ⊢
    rw [wrap_id (n := (i : Int) + 1) (by omega) (by omega)]
    exact Ok.pos (by omega) (ih (q2, _) ⟨hs1.snoc _ h4, by simp only [List.length_append, List.length_singleton]; omega, by simp only; omega, by simp only; omega⟩)
  · rintro ⟨q, ds⟩ ⟨hs1, hs0, hs2, hs3⟩
    simp only at hs1 hs0 hs2 hs3 ⊢
    have f5 : Few 5 5 ds := hs1.more (by omega) (by omega)
    refine Ok.step (fun k => by simp only [spec_l91Dishes.l0]; rfl) (Ok.neg (by omega) (Ok.bind (pick_in b q 30 hB (by omega) (by omega) (by omega) (by omega)) ?_))
    rintro ⟨w, q2⟩ ⟨rfl, h4, h5⟩
    simp only at h4 h5 ⊢
    have on : ∀ q3 : Int, q ≤ q3 → q3 ≤ q + 5 → On p 200 q3 := fun q3 _ _ => ⟨by omega, by omega⟩
    have a0 : (rd_T29 ds 0).f2.length ≤ 4 := hs1.at_ (by omega) (by omega)
    refine Ok.ite (fun _ => Ok.bind (pick_in b _ _ hB (by omega) (by omega) (by omega) (by omega)) ?_) (fun _ => Ok.ite (fun _ => Ok.pos (by omega) (Ok.pos (by omega) (Ok.ret ⟨f5.put _ _ ?_, on _ (by simp only; omega) (by simp only; omega)⟩))) (fun _ => Ok.ite (fun _ => Ok.pos (by omega) (Ok.pos (by omega) (Ok.ret ⟨f5.put _ _ ?_, on _ (by simp only; omega) (by simp only; omega)⟩))) (fun _ => Ok.ite (fun _ => Ok.pos (by omega) (Ok.pos (by omega) (Ok.ret ⟨((hs1.more (n' := 4) (m' := 5) (by omega) (by omega)).snoc _ ?_), on _ (by simp only; omega) (by simp only; omega)⟩))) (fun _ => Ok.ret ⟨f5, on _ (by simp only; omega) (by simp only; omega)⟩))))
    · rintro ⟨w2, q3⟩ ⟨rfl, h6, h7⟩
      simp only at h6 h7 ⊢
      refine Ok.bind (pick_in b _ 2 hB (by omega) (by omega) (by omega) (by omega)) ?_
      rintro ⟨w3, q4⟩ ⟨rfl, h8, h9⟩
      simp only at h8 h9 ⊢
      exact Ok.pos h6 (Ok.pos (by omega) (Ok.ret ⟨f5.put _ _ (f5.at_ h6 (by omega)), on _ (by simp only; omega) (by simp only; omega)⟩))
    · simp only [List.length_append, List.length_singleton]; omega
    · simp only [List.length_append, List.length_singleton]; omega
    · simp only; omega
theorem l91Menu_ok (b : List Int) (p : Int) (hB : Bytes b) (hp : 0 ≤ p) (hp' : p ≤ 1000) : Ok (fun k => spec_l91Menu.f k b p) (fun r => Few 5 5 r.1 ∧ r.2.1.length ≤ 7 ∧ On p 500 r.2.2) := by
  unfold spec_l91Menu.f
  refine Ok.bind (l91Foods_ok b p hB hp (by omega)) ?_
  rintro ⟨l, q⟩ ⟨h0, h1, h2⟩
  simp only at h0 h1 h2 ⊢
  refine Ok.bind (l91Dishes_ok b q l hB (by omega) (by omega) (by omega)) ?_
  rintro ⟨d, q2⟩ ⟨h3, h4, h5⟩
  simp only at h3 h4 h5 ⊢
  exact Ok.ret ⟨h3, h0, by simp only; omega, by simp only; omega⟩
end Go.Proofs.Ytclldijjbmnkeaa.Pure
/- Few dishes of few parts, as lists. No conditions. -/
namespace Go.Proofs.Ytclldijjbmnkeaa.Pure
open Go.RowKit Go.Proofs.YtclldijjbmnkeaaW.PrintWords Go.Proofs.YtclldijjbmnkeaaW.PrintLast Go.Proofs.Ytclldijjbmnkeaa.Q
set_option linter.unusedVariables false
set_option linter.unusedSimpArgs false
theorem few_at {n m : Nat} {l : List Ds} (h : Few n m l) {i : Nat} (hi : i < l.length) : (dAt l i).f2.length ≤ m := by
  have := h.at_ (i := (i : Int)) (by omega) (by omega)
  rwa [dAt_rd] at this
theorem few_big {n m : Nat} {l : List Ds} (h : Few n m l) (hm : m ≤ 2000000) : ∀ i, i < l.length → (dAt l i).f2.length ≤ 2000000 := fun i hi => Nat.le_trans (few_at h hi) hm
end Go.Proofs.Ytclldijjbmnkeaa.Pure
/- Drawn dishes, foods and a dish's number. Condition: the bytes are bytes. -/
namespace Go.Proofs.Ytclldijjbmnkeaa.Pure
open Go.RowKit Go.Proofs.YtclldijjbmnkeaaW.PrintWords Go.Proofs.YtclldijjbmnkeaaW.PrintLast Go.Proofs.Ytclldijjbmnkeaa.Q
set_option linter.unusedVariables false
set_option linter.unusedSimpArgs false
theorem l91Id_ok (b : List Int) (p : Int) (d : List Ds) (hB : Bytes b) (hp : 0 ≤ p) (hp' : p ≤ 100000) (hd : d.length ≤ 1000) : Ok (fun k => spec_l91Id.f k b p d) (fun r => On p 2 r.2) := by
  unfold spec_l91Id.f
  have main : ∀ (c : Bool) (q : Int), (c = false → 0 < d.length) → p ≤ q → q ≤ p + 1 → Ok (fun k => spec_l91Id.j0 k d c b q) (fun r => On p 2 r.2) := by
    intro c q hc h0 h1
    refine Ok.step (fun k => by simp only [spec_l91Id.j0]; rfl) (Ok.ite (fun _ => Ok.bind (pick_in b q 9 hB (by omega) (by omega) (by omega) (by omega)) ?_) (fun h => ?_))
    · rintro ⟨w, q2⟩ ⟨rfl, h4, h5⟩
      exact Ok.ret ⟨by simp only; omega, by simp only; omega⟩
    · have := hc (by simpa using h)
      refine Ok.bind (pick_in b q _ hB (by omega) (by omega) (by omega) (by omega)) ?_
      rintro ⟨w, q2⟩ ⟨rfl, h4, h5⟩
      simp only at h4 h5 ⊢
      exact Ok.pos h4 (Ok.pos h5 (Ok.ret ⟨by simp only; omega, by simp only; omega⟩))
  refine Ok.ite (fun _ => main true p (fun h => by cases h) (by omega) (by omega)) (fun h => Ok.bind (pick_in b p 16 hB (by omega) (by omega) (by omega) (by omega)) ?_)
  rintro ⟨w, q2⟩ ⟨rfl, h4, h5⟩
  exact main _ _ (fun _ => by omega) (by omega) (by omega)
end Go.Proofs.Ytclldijjbmnkeaa.Pure
/- Lists of whole numbers. Condition: at most 2,000,000 elements. -/
namespace Go.Proofs.Ytclldijjbmnkeaa.Pure
open Go.RowKit Go.Proofs.YtclldijjbmnkeaaW.PrintWords Go.Proofs.YtclldijjbmnkeaaW.PrintLast Go.Proofs.Ytclldijjbmnkeaa.Q
set_option linter.unusedVariables false
set_option linter.unusedSimpArgs false

theorem sameInts_ok (a b : List Int) (hl : a.length ≤ 2000000) : Ok (fun k => laws_sameInts.f k a b) (fun r => r = true ↔ a = b) := by
  unfold laws_sameInts.f
  by_cases h : a.length = b.length
  · refine Ok.pos (by omega) ?_
    refine Ok.range (fun (_ : Unit) i k => laws_sameInts.l0 k a b i) a.length (fun i _ => ∀ j, j < i → a.getD j 0 = b.getD j 0) _ ?_ ?_ () (fun j hj => absurd hj (by omega))
    · intro i _ hi hinv ih
      have ew : wrap64 ((i : Int) + 1) = (i : Int) + 1 := wrap_id (by omega) (by omega)
      refine Ok.step (fun k => by simp only [laws_sameInts.l0]; rfl) (Ok.pos (by omega) (Ok.pos (by omega) (Ok.pos (by omega) ?_)))
      rw [ew, rd_nat, rd_nat]
      refine Ok.ite (fun h1 => ih () fun j hj => ?_) (fun h1 => Ok.ret ⟨fun h' => (by cases h'), fun h' => absurd (by rw [h']) h1⟩)
      rcases Nat.lt_succ_iff_lt_or_eq.1 hj with h2 | rfl
      · exact hinv j h2
      · exact h1
    · intro _ hinv
      exact Ok.step (fun k => by simp only [laws_sameInts.l0]; rfl) (Ok.neg (by omega) (Ok.ret ⟨fun _ => eq_of_getD 0 h hinv, fun _ => rfl⟩))
  · exact Ok.neg (by omega) (Ok.ret ⟨fun h' => (by cases h'), fun h' => absurd (by rw [h']) h⟩)
end Go.Proofs.Ytclldijjbmnkeaa.Pure
/- Drawn needs, and what rounding up says. Condition: the bytes are bytes. -/
namespace Go.Proofs.Ytclldijjbmnkeaa.Pure
open Go.RowKit Go.Proofs.YtclldijjbmnkeaaW.PrintWords Go.Proofs.YtclldijjbmnkeaaW.PrintLast Go.Proofs.Ytclldijjbmnkeaa.Q
set_option linter.unusedVariables false
set_option linter.unusedSimpArgs false
theorem drawDishNeeds_ok (l : List Int) (hl : ∀ x ∈ l, (Lit.int .u8 x).wf = true) : Ok (fun k => spec_DrawDishNeeds.f k l) (fun r => Few 5 5 r.1 ∧ r.2.1.length ≤ 7) := by
  unfold spec_DrawDishNeeds.f
  obtain ⟨b, hb, hB⟩ := open_ok l hl
  simp only [hb, Option.bind_some]
  refine Ok.bind (l91Menu_ok b 0 hB (by omega) (by omega)) ?_
  rintro ⟨d, f, q⟩ ⟨h0, h1, h2, h3⟩
  simp only at h0 h1 h2 h3 ⊢
  have h5 := h0.1
  refine Ok.bind (l91Id_ok b q d hB (by omega) (by omega) (by omega)) ?_
  rintro ⟨w, q2⟩ ⟨h6, h7⟩
  simp only at h6 h7 ⊢
  refine Ok.bind (pick_in b q2 16 hB (by omega) (by omega) (by omega) (by omega)) ?_
  rintro ⟨w2, q3⟩ ⟨rfl, h8, h9⟩
  simp only at h8 h9 ⊢
  refine Ok.ite (fun _ => Ok.bind (pick_in b _ 4 hB (by omega) (by omega) (by omega) (by omega)) ?_) (fun _ => Ok.bind (pick_in b _ 60 hB (by omega) (by omega) (by omega) (by omega)) ?_)
  · rintro ⟨w3, q4⟩ ⟨rfl, h10, h11⟩
    simp only at h10 h11 ⊢
    exact Ok.pos h10 (Ok.pos (by simpa using h11) (Ok.ret ⟨h0, h1⟩))
  · rintro ⟨w3, q4⟩ ⟨rfl, h10, h11⟩
    exact Ok.ret ⟨h0, h1⟩
theorem ndR_len {d : List Ds} {l : List Fd} {id cv : Int} {r : List Int × Bool} (hl : l.length ≤ 7) (h : NdR d l id cv r) : r.1.length ≤ 2000000 := by
  rcases h with ⟨v, c0, c1, i, hi, e, ⟨h1, h2, h3⟩ | ⟨_, rfl⟩⟩ | ⟨h, rfl⟩
  · omega
  · simp
  · simp
/-- an answer that is there -/
def NdT (d : List Ds) (l : List Fd) (i c : Nat) (X : List Int) : Prop := X.length = l.length ∧ ∀ f, f < l.length → X.getD f 0 = ((nU d l i c f : Nat) : Int) ∧ nU d l i c f ≤ 999999
theorem ndR_true {d : List Ds} {l : List Fd} {id cv : Int} {r : List Int × Bool} (h : NdR d l id cv r) (ht : r.2 = true) : DV d l ∧ ∃ i c : Nat, i < d.length ∧ dPl d id = (i : Int) ∧ cv = (c : Int) ∧ c ≤ 300 ∧ NdT d l i c r.1 := by
  rcases h with ⟨v, c0, c1, i, hi, e, ⟨h1, h2, h3⟩ | ⟨_, rfl⟩⟩ | ⟨h, rfl⟩
  · exact ⟨v, i, cv.toNat, hi, e, by omega, by omega, h2, h3⟩
  · cases ht
  · cases ht
theorem up_mono {a b w : Nat} (h : a ≤ b) : (a + w - 1) / w ≤ (b + w - 1) / w := Nat.div_le_div_right (by omega)
end Go.Proofs.Ytclldijjbmnkeaa.Pure
/- A dish needs what its parts need: the law comes to true for every input. No conditions. -/
namespace Go.Proofs.Ytclldijjbmnkeaa.Pure
open Go.RowKit Go.Proofs.YtclldijjbmnkeaaW.PrintWords Go.Proofs.YtclldijjbmnkeaaW.PrintLast Go.Proofs.Ytclldijjbmnkeaa.Q
set_option linter.unusedVariables false
set_option linter.unusedSimpArgs false
theorem ch_is {d : List Ds} {l : List Fd} (v : DV d l) {i q : Nat} (hi : i < d.length) (hq : q < (dAt d i).f2.length) (h : (pt d i q).f1 ≠ 0) : dPl d (pt d i q).f1 = (ch d i q : Int) ∧ ch d i q < i := by
  obtain ⟨c, ec, hc, _⟩ := part_dish v hi hq h
  have e : ch d i q = c := by unfold ch; rw [ec, Int.toNat_natCast]
  exact ⟨by rw [e]; exact ec, by omega⟩
theorem cf_fuel {d : List Ds} {l : List Fd} (v : DV d l) (f : Nat) : ∀ n m i, i < n → i < m → i < d.length → cf d l n i f = cf d l m i f
  | 0, _, i, h, _, _ => absurd h (by omega)
  | n + 1, 0, i, _, h, _ => absurd h (by omega)
  | n + 1, m + 1, i, hn, hm, hi => by
    have key : ∀ q, q ≤ (dAt d i).f2.length → cfq d l (cf d l n) i q f = cfq d l (cf d l m) i q f := by
      intro q
      induction q with
      | zero => intro _; rfl
      | succ q ih =>
        intro hq
        show cfq d l (cf d l n) i q f + pc d l (cf d l n) i q f = cfq d l (cf d l m) i q f + pc d l (cf d l m) i q f
        rw [ih (by omega)]
        congr 1
        unfold pc
        by_cases h0 : (pt d i q).f1 = 0
        · rw [if_pos h0, if_pos h0]
        · rw [if_neg h0, if_neg h0]
          obtain ⟨_, hc⟩ := ch_is v hi hq h0
          rw [cf_fuel v f n m (ch d i q) (by omega) (by omega) (by omega)]
    exact key _ (Nat.le_refl _)
theorem kid_need {d : List Ds} {l : List Fd} (v : DV d l) {i q : Nat} (hi : i < d.length) (hq : q < (dAt d i).f2.length) (h : (pt d i q).f1 ≠ 0) (c c' : Nat) (hc : c' * sv d i ≤ c * (pt d i q).f2.toNat) (f : Nat) : c' * nB d l (ch d i q) f ≤ c * nB d l i f := by
  obtain ⟨_, hk⟩ := ch_is v hi hq h
  obtain ⟨n, hn⟩ : ∃ n, d.length = n + 1 := ⟨d.length - 1, by omega⟩
  have e1 : cf d l d.length i f = cfq d l (cf d l n) i (dAt d i).f2.length f := by rw [hn]; rfl
  have e2 : pc d l (cf d l n) i q f ≤ cf d l d.length i f := by
    rw [e1]
    exact Nat.le_trans (Nat.le_add_left _ _) (cfq_le d l (cf d l n) i f (q + 1) _ hq)
  have e3 : pc d l (cf d l n) i q f = Pr d i / Pr d (ch d i q + 1) * (pt d i q).f2.toNat * cf d l d.length (ch d i q) f := by
    unfold pc
    rw [if_neg h, cf_fuel v f n d.length (ch d i q) (by omega) (by omega) (by omega)]
  have eA : Pr d (ch d i q + 1) * (Pr d i / Pr d (ch d i q + 1)) = Pr d i := Nat.mul_div_cancel' (Pr_dvd d _ i (by omega))
  have eR : Pr d (i + 1) * (Pr d d.length / Pr d (i + 1)) = Pr d d.length := Nat.mul_div_cancel' (Pr_dvd d _ d.length (by omega))
  have hp := Pr_pos v (ch d i q + 1) (by omega)
  generalize hA : Pr d i / Pr d (ch d i q + 1) = A at e3 eA
  generalize hR : Pr d d.length / Pr d (i + 1) = R at eR
  have e0 : Pr d d.length = Pr d (ch d i q + 1) * (A * sv d i * R) := by
    rw [← eR]
    show Pr d i * sv d i * R = _
    rw [← eA]
    ac_rfl
  have eW : Pr d d.length / Pr d (ch d i q + 1) = A * sv d i * R := by
    rw [e0]
    exact Nat.mul_div_cancel_left _ hp
  unfold nB
  rw [eW, hR]
  generalize hX : cf d l d.length (ch d i q) f = X at e3
  have s1 : c' * (A * sv d i * R * X) = c' * sv d i * (A * R * X) := by ac_rfl
  have s2 : c * (R * pc d l (cf d l n) i q f) = c * (pt d i q).f2.toNat * (A * R * X) := by rw [e3]; ac_rfl
  rw [s1]
  refine Nat.le_trans (Nat.mul_le_mul_right _ hc) ?_
  rw [← s2]
  exact Nat.mul_le_mul_left _ (Nat.mul_le_mul_left _ e2)
theorem FnNeedsParts : laws_FnNeedsParts.Pure := by
  intro l _ _ hl
  apply Ok.rounds
  unfold laws_FnNeedsParts.f
  refine Ok.ite (fun _ => Ok.ret rfl) fun _ => Ok.bind (drawDishNeeds_ok l hl) ?_
  rintro ⟨d, fs, id, cv⟩ ⟨hd, hf⟩
  simp only at hd hf ⊢
  have hd5 := hd.1
  have hbig := few_big hd (by omega)
  have iN := fun id c => iNeeds_ok d fs id c (by omega) hbig (by omega)
  refine Ok.bind (iN id cv) fun r h1 => Ok.bind (sNeeds_ok d fs id cv (by omega) hbig (by omega)) fun r2 h2 => ?_
  obtain rfl := ndR_eq h1 h2
  have hlen := ndR_len hf h1
  refine Ok.neg (by simp) (Ok.bind (sameInts_ok r.1 r.1 hlen) fun t ht => Ok.pos (ht.2 rfl) (Ok.step (fun k => by simp only [laws_FnNeedsParts.j0]; rfl) (Ok.ite (fun _ => Ok.pos (by simp) (Ok.bind (sameInts_ok r.1 r.1 hlen) fun t2 ht2 => Ok.ret (ht2.2 rfl))) fun hnt => ?_)))
  have htr : r.2 = true := by cases h : r.2 with
    | true => rfl
    | false => rw [h] at hnt; exact absurd rfl hnt
  obtain ⟨v, i, c, hi, e, rfl, hc, hT⟩ := ndR_true h1 htr
  have hi5 := few_at hd hi
  obtain ⟨eS, hS1, hS2⟩ := sv_in v hi
  have lr := hT.1
  rw [iDFind_eq, e]
  refine Ok.val (Ok.pos (by omega) (Ok.pos (by omega) ?_))
  rw [dAt_rd]
  refine Ok.range (fun (_ : Unit) q k => laws_FnNeedsParts.l0 k d fs (c : Int) r.1 q (dAt d i).f0 (dAt d i).f1 (dAt d i).f2) (dAt d i).f2.length (fun _ _ => True) _ ?_ ?_ () trivial
  · intro q _ hq _ ih
    refine Ok.step (fun k => by simp only [laws_FnNeedsParts.l0]; rfl) (Ok.pos (by omega) (Ok.pos (by omega) ?_))
    have ih' := ih () trivial
    rw [pAt_rd, wrap_id (n := (q : Int) + 1) (by omega) (by omega)]
    refine Ok.ite (fun h => ?_) (fun _ => ih')
    have h0 : (pt d i q).f1 ≠ 0 := by
      have : (pt d i q).f1 > 0 := h
      omega
    obtain ⟨c0, ec0, hc0, _, _, hn1, hn2⟩ := part_dish v hi hq h0
    obtain ⟨ek, hk⟩ := ch_is v hi hq h0
    have eN : (pAt (dAt d i).f2 q).f2 = (((pt d i q).f2.toNat : Nat) : Int) := by unfold pt at hn1 ⊢; omega
    have hN : (pt d i q).f2.toNat ≤ 9 := by omega
    have hcN : c * (pt d i q).f2.toNat ≤ 300 * 9 := Nat.mul_le_mul hc hN
    have hdv : c * (pt d i q).f2.toNat / sv d i ≤ c * (pt d i q).f2.toNat := Nat.div_le_self _ _
    obtain ⟨c', ec', hc'1, hc'2⟩ : ∃ c' : Nat, mn (wrap64 (Int.tdiv (wrap64 ((c : Int) * (pAt (dAt d i).f2 q).f2)) (dAt d i).f1)) 300 = (c' : Int) ∧ c' ≤ 300 ∧ c' ≤ c * (pt d i q).f2.toNat / sv d i := by
      refine ⟨min (c * (pt d i q).f2.toNat / sv d i) 300, ?_, by omega, by omega⟩
      rw [eN, eS, ← Int.natCast_mul, wrap_id (n := ((c * (pt d i q).f2.toNat : Nat) : Int)) (by omega) (by omega), Int.tdiv_eq_ediv_of_nonneg (by omega), ← Int.natCast_ediv]
      generalize c * (pt d i q).f2.toNat / sv d i = z at *
      rw [wrap_id (n := (z : Int)) (by omega) (by omega)]
      unfold mn
      omega
    refine Ok.neg (by omega) ?_
    rw [ec']
    refine Ok.bind (iN _ _) fun x hx => ?_
    have next : ∀ j : Int, Ok (fun k => laws_FnNeedsParts.j3 k d fs (c : Int) r.1 (q : Int) x.1 x.2 j false (dAt d i).f0 (dAt d i).f1 (dAt d i).f2) (· = true) := by
      intro j
      refine Ok.step (fun k => by simp only [laws_FnNeedsParts.j3]; rfl) (Ok.neg (by simp) ?_)
      rw [wrap_id (n := (q : Int) + 1) (by omega) (by omega)]
      exact ih'
    cases hx2 : x.2 with
    | false =>
      rw [hx2] at next
      exact Ok.step (fun k => by simp only [laws_FnNeedsParts.l1]; rfl) (Ok.ite (fun _ => Ok.neg (by simp) (next _)) (fun _ => next _))
    | true =>
      rw [hx2] at next
      obtain ⟨_, i', c'', hi', e', ecc, _, hX⟩ := ndR_true hx hx2
      obtain rfl : c'' = c' := by omega
      have e2 : dPl d (pt d i q).f1 = (i' : Int) := e'
      obtain rfl : i' = ch d i q := by omega
      have lx := hX.1
      have hle : ∀ f, f < fs.length → nU d fs (ch d i q) c'' f ≤ nU d fs i c f := fun f hf => up_mono (kid_need v hi hq h0 c c'' (Nat.le_trans (Nat.mul_le_mul_right _ hc'2) (Nat.div_mul_le_self _ _)) f)
      refine Ok.range (fun (_ : Unit) j k => laws_FnNeedsParts.l1 k d fs (c : Int) r.1 (q : Int) x.1 true j (dAt d i).f0 (dAt d i).f1 (dAt d i).f2) fs.length (fun _ _ => True) _ ?_ ?_ () trivial
      · intro j _ hj _ ih2
        refine Ok.step (fun k => by simp only [laws_FnNeedsParts.l1]; rfl) (Ok.pos (by omega) (Ok.pos (by trivial) ?_))
        rw [decide_eq_true (show (j : Int) < (r.1.length : Int) by omega)]
        refine Ok.step (fun k => by simp only [laws_FnNeedsParts.j3]; rfl) (Ok.pos (by trivial) (Ok.pos (by omega) (Ok.pos (by omega) (Ok.pos (by omega) ?_))))
        have e1 : rd x.1 (j : Int) = ((nU d fs (ch d i q) c'' j : Nat) : Int) := (hX.2 j hj).1
        have e3 : rd r.1 (j : Int) = ((nU d fs i c j : Nat) : Int) := (hT.2 j hj).1
        have := hle j hj
        rw [e1, e3, wrap_id (n := (j : Int) + 1) (by omega) (by omega)]
        exact Ok.neg (by omega) (ih2 () trivial)
      · intro _ _
        exact Ok.step (fun k => by simp only [laws_FnNeedsParts.l1]; rfl) (Ok.neg (by omega) (next _))
  · intro _ _
    exact Ok.step (fun k => by simp only [laws_FnNeedsParts.l0]; rfl) (Ok.neg (by omega) (Ok.ret rfl))
end Go.Proofs.Ytclldijjbmnkeaa.Pure
