/- The program's TracesClean returns what the reference's returns, for all arguments. No conditions. -/
import Derived.Test.YtglpjchpgjaanaaWMore
import Derived.Test.YtglpjchpgjaanaaQx3
import Derived.Test.YtglpjchpgjaanaaQx5
import Derived.Test.YtglpjchpgjaanaaQx12
import Derived.Test.YtglpjchpgjaanaaQx13
import Derived.Test.YtglpjchpgjaanaaQx22
import Derived.Test.YtglpjchpgjaanaaQx2
import Derived.Test.YtglpjchpgjaanaaQx19
import Derived.Test.YtglpjchpgjaanaaQx26
/- Plain logic for printed functions: from some number of rounds on a function answers, and its answer fits. No conditions. -/
namespace Go.Proofs.Ytglpjchpgjaanaa.Pure
open Go.RowKit Go.Proofs.YtglpjchpgjaanaaW.PrintWords Go.Proofs.YtglpjchpgjaanaaW.PrintLast

/-- g answers from some number of rounds on, and the answer is as Q says. -/
def Ok {α : Type} (g : Nat → Option α) (Q : α → Prop) : Prop := ∃ r, Ev g r ∧ Q r
theorem Ok.ret {α : Type} {r : α} {Q : α → Prop} (h : Q r) : Ok (fun _ => some r) Q := ⟨r, Ev.now r, h⟩
theorem Ok.of_eq {α : Type} {o : Option α} {r : α} {Q : α → Prop} (e : o = some r) (h : Q r) : Ok (fun _ => o) Q := by subst e; exact Ok.ret h
theorem Ok.bind {α β : Type} {g : Nat → Option α} {f : Nat → α → Option β} {P : α → Prop} {Q : β → Prop} (h : Ok g P) (k : ∀ a, P a → Ok (fun n => f n a) Q) : Ok (fun n => (g n).bind (f n)) Q := by
  obtain ⟨a, ha, hp⟩ := h
  obtain ⟨r, hr, hq⟩ := k a hp
  exact ⟨r, Ev.bind ha hr, hq⟩
theorem Ok.val {α β : Type} {a : α} {f : Nat → α → Option β} {Q : β → Prop} (h : Ok (fun n => f n a) Q) : Ok (fun n => (some a).bind (f n)) Q := h
theorem Ok.pos {α : Type} {c : Prop} [Decidable c] {t e : Nat → Option α} {Q : α → Prop} (hc : c) (h : Ok t Q) : Ok (fun n => if c then t n else e n) Q := by simpa only [if_pos hc] using h
theorem Ok.neg {α : Type} {c : Prop} [Decidable c] {t e : Nat → Option α} {Q : α → Prop} (hc : ¬ c) (h : Ok e Q) : Ok (fun n => if c then t n else e n) Q := by simpa only [if_neg hc] using h
theorem Ok.ite {α : Type} {c : Prop} [Decidable c] {t e : Nat → Option α} {Q : α → Prop} (h : c → Ok t Q) (k : ¬ c → Ok e Q) : Ok (fun n => if c then t n else e n) Q := by
  by_cases hc : c
  · exact Ok.pos hc (h hc)
  · exact Ok.neg hc (k hc)
theorem Ok.step {α : Type} {g f : Nat → Option α} {Q : α → Prop} (h : ∀ k, g (k + 1) = f k) (k : Ok f Q) : Ok g Q := by
  obtain ⟨r, hr, hq⟩ := k
  exact ⟨r, Ev.step h hr, hq⟩
theorem Ok.congr {α : Type} {g f : Nat → Option α} {Q : α → Prop} (h : ∀ k, g k = f k) (k : Ok f Q) : Ok g Q := by
  obtain ⟨r, hr, hq⟩ := k
  exact ⟨r, Ev.congr h hr, hq⟩
theorem Ok.mono {α : Type} {g : Nat → Option α} {P Q : α → Prop} (h : Ok g P) (k : ∀ a, P a → Q a) : Ok g Q := by
  obtain ⟨r, hr, hp⟩ := h
  exact ⟨r, hr, k r hp⟩
theorem Ok.and {α : Type} {g : Nat → Option α} {P Q : α → Prop} (h : Ok g P) (k : Ok g Q) : Ok g (fun a => P a ∧ Q a) := by
  obtain ⟨r, ⟨K, hr⟩, hp⟩ := h
  obtain ⟨r', ⟨K', hr'⟩, hq⟩ := k
  have h1 := hr (max K K') (by omega)
  have h2 := hr' (max K K') (by omega)
  obtain rfl : r = r' := by rw [h1] at h2; injection h2
  exact ⟨r, ⟨K, hr⟩, hp, hq⟩
theorem Ok.rounds {α : Type} {g : Nat → Option α} {r : α} (h : Ok g (· = r)) : ∃ k, g k = some r := by
  obtain ⟨_, hr, rfl⟩ := h
  exact hr.rounds
theorem Ok.eq {α : Type} {g : Nat → Option α} {r : α} {Q : α → Prop} (h : Ok g (· = r)) (q : Q r) : Ok g Q := h.mono fun _ e => by subst e; exact q
theorem wrap_id {n : Int} (h0 : -9223372036854775808 ≤ n) (h1 : n ≤ 9223372036854775807) : wrap64 n = n := by unfold wrap64; omega
theorem wf64 {n : Int} (h : (Lit.int .i64 n).wf = true) : -9223372036854775808 ≤ n ∧ n ≤ 9223372036854775807 := by
  simp [Lit.wf, IntKind.min, IntKind.max, IntKind.signed, IntKind.bits] at h
  omega
theorem wfu8 {n : Int} (h : (Lit.int .u8 n).wf = true) : 0 ≤ n ∧ n ≤ 255 := by
  simp [Lit.wf, IntKind.min, IntKind.max, IntKind.signed, IntKind.bits] at h
  omega
/-- A loop that counts an index up to n, with what else it carries in s. -/
theorem Ok.range {σ ρ : Type} (L : σ → Int → Nat → Option ρ) (n : Nat) (Inv : Nat → σ → Prop) (Q : ρ → Prop)
    (step : ∀ (i : Nat) (s : σ), i < n → Inv i s → (∀ s', Inv (i + 1) s' → Ok (L s' ((i : Int) + 1)) Q) → Ok (L s (i : Int)) Q)
    (last : ∀ s, Inv n s → Ok (L s (n : Int)) Q) : ∀ s, Inv 0 s → Ok (L s 0) Q := by
  have key : ∀ d i, i + d = n → ∀ s, Inv i s → Ok (L s (i : Int)) Q := by
    intro d
    induction d with
    | zero => intro i hi s hs; obtain rfl : i = n := (by omega); exact last s hs
    | succ d ih =>
      intro i hi s hs
      refine step i s (by omega) hs fun s' hs' => ?_
      have := ih (i + 1) (by omega) s' hs'
      rwa [show ((i + 1 : Nat) : Int) = (i : Int) + 1 by omega] at this
  exact fun s hs => key n 0 (by omega) s hs
/-- The same for a loop that counts down from n - 1. -/
theorem Ok.down {σ ρ : Type} (L : σ → Int → Nat → Option ρ) (n : Nat) (Inv : Nat → σ → Prop) (Q : ρ → Prop)
    (step : ∀ (i : Nat) (s : σ), i < n → Inv (i + 1) s → (∀ s', Inv i s' → Ok (L s' ((i : Int) - 1)) Q) → Ok (L s (i : Int)) Q)
    (last : ∀ s, Inv 0 s → Ok (L s (-1)) Q) : ∀ s, Inv n s → Ok (L s ((n : Int) - 1)) Q := by
  have key : ∀ i, i ≤ n → ∀ s, Inv i s → Ok (L s ((i : Int) - 1)) Q := by
    intro i
    induction i with
    | zero => intro _ s hs; exact last s hs
    | succ i ih =>
      intro hi s hs
      have := step i s (by omega) hs fun s' hs' => ih (by omega) s' hs'
      rwa [show ((i + 1 : Nat) : Int) - 1 = (i : Int) by omega]
  exact fun s hs => key n (Nat.le_refl _) s hs
theorem bool_of_iff {a b : Bool} {P : Prop} (h : a = true ↔ P) (k : b = true ↔ P) : a = b := by
  cases a <;> cases b <;> simp_all
theorem take_next {α : Type} {l : List α} {i : Nat} (d : α) (h : i < l.length) : l.take (i + 1) = l.take i ++ [l.getD i d] := by
  rw [List.take_succ_eq_append_getElem h, List.getD_eq_getElem?_getD, List.getElem?_eq_getElem h, Option.getD_some]
theorem getD_at {α : Type} (l : List α) (d : α) (i : Nat) (h : i < l.length) : l.getD i d = l[i] := by
  rw [List.getD_eq_getElem?_getD, List.getElem?_eq_getElem h, Option.getD_some]
theorem len_small {α : Type} {l : List α} (h : l.length ≤ maxLen) : (l.length : Int) ≤ 9223372036854775807 := by unfold maxLen at h; omega
end Go.Proofs.Ytglpjchpgjaanaa.Pure
/- Ranges, and the bits of sets. No conditions. -/
namespace Go.Proofs.Ytglpjchpgjaanaa.Pure
open Go.RowKit Go.Proofs.YtglpjchpgjaanaaW.PrintWords Go.Proofs.YtglpjchpgjaanaaW.PrintLast
set_option linter.unusedVariables false
set_option linter.unusedSimpArgs false

def inr (a lo hi : Int) : Bool := decide (lo ≤ a ∧ a ≤ hi)
theorem inr_iff (a lo hi : Int) : inr a lo hi = true ↔ lo ≤ a ∧ a ≤ hi := by simp [inr]
theorem bits_nat64 (a b : Nat) (ha : a < 256) (hb : b < 256) : Go.bits .and .i64 (a : Int) (b : Int) = ((a &&& b : Nat) : Int) ∧ Go.bits .or .i64 (a : Int) (b : Int) = ((a ||| b : Nat) : Int) :=
  Go.bits_nat .i64 8 (by decide) (fun n h0 h1 => by rw [IntKind.wrap_i64]; omega) a b ha hb
theorem set_nat {a : Int} (h : 0 ≤ a ∧ a ≤ 255) : ∃ n : Nat, a = (n : Int) ∧ n < 256 := ⟨a.toNat, by omega, by omega⟩
end Go.Proofs.Ytglpjchpgjaanaa.Pure
/- The reference's ranges and sets. No conditions. -/
namespace Go.Proofs.Ytglpjchpgjaanaa.Pure
open Go.RowKit Go.Proofs.YtglpjchpgjaanaaW.PrintWords Go.Proofs.YtglpjchpgjaanaaW.PrintLast Go.Proofs.Ytglpjchpgjaanaa.Q
set_option linter.unusedVariables false
set_option linter.unusedSimpArgs false

theorem l6In_eq (a lo hi : Int) : spec_l6In.f a lo hi = some (inr a lo hi) := by
  unfold spec_l6In.f inr
  by_cases h : a ≥ lo
  · rw [if_pos h]; simp [h]
  · rw [if_neg h]; simp; omega
theorem l3Set_eq (a : Int) : spec_l3Set.f a = some (inr a 0 255) := by simp only [spec_l3Set.f, l6In_eq, Option.bind_some]
end Go.Proofs.Ytglpjchpgjaanaa.Pure
/- The program's ranges, sets and kinds. No conditions. -/
namespace Go.Proofs.Ytglpjchpgjaanaa.Pure
open Go.RowKit Go.Proofs.YtglpjchpgjaanaaW.PrintWords Go.Proofs.YtglpjchpgjaanaaW.PrintLast Go.Proofs.Ytglpjchpgjaanaa.Q
set_option linter.unusedVariables false
set_option linter.unusedSimpArgs false

theorem within_eq (a lo hi : Int) : impl_within.f a lo hi = some (inr a lo hi) := by
  unfold impl_within.f inr
  by_cases h : a ≥ lo
  · rw [if_pos h]; simp [h]
  · rw [if_neg h]; simp; omega
theorem isSet_eq (a : Int) : impl_isSet.f a = some (inr a 0 255) := by simp only [impl_isSet.f, within_eq, Option.bind_some]
end Go.Proofs.Ytglpjchpgjaanaa.Pure
/- Lists, read and written element by element. No conditions. -/
namespace Go.Proofs.Ytglpjchpgjaanaa.Pure
open Go.RowKit Go.Proofs.YtglpjchpgjaanaaW.PrintWords Go.Proofs.YtglpjchpgjaanaaW.PrintLast
set_option linter.unusedVariables false
set_option linter.unusedSimpArgs false

theorem rd_nat (l : List Int) (i : Nat) : rd l (i : Int) = l.getD i 0 := rfl
theorem eq_of_getD {α : Type} {a b : List α} (d : α) (h : a.length = b.length) (k : ∀ i, i < a.length → a.getD i d = b.getD i d) : a = b := by
  refine List.ext_getElem h fun i h1 h2 => ?_
  have := k i h1
  rwa [getD_at _ _ _ h1, getD_at _ _ _ h2] at this
theorem getD_set {α : Type} (l : List α) (d v : α) (i j : Nat) (hi : i < l.length) : (l.set i v).getD j d = if j = i then v else l.getD j d := by
  rw [List.getD_eq_getElem?_getD, List.getElem?_set]
  by_cases h : i = j
  · subst h; simp [hi]
  · rw [if_neg h, if_neg (fun e => h e.symm), ← List.getD_eq_getElem?_getD]
theorem getD_snoc {α : Type} (l : List α) (d v : α) (j : Nat) : (l ++ [v]).getD j d = if j = l.length then v else l.getD j d := by
  rw [List.getD_eq_getElem?_getD, List.getElem?_append]
  by_cases h : j < l.length
  · rw [if_pos h, if_neg (by omega), ← List.getD_eq_getElem?_getD]
  · rw [if_neg h]
    by_cases e : j = l.length
    · subst e; simp
    · rw [if_neg e, List.getElem?_eq_none (by simp; omega), List.getD_eq_getElem?_getD, List.getElem?_eq_none (by omega)]
theorem skip_getD {α : Type} (l : List α) (d : α) (k i : Nat) (hk : k < l.length) : (l.take k ++ l.drop (k + 1)).getD i d = if i < k then l.getD i d else l.getD (i + 1) d := by
  simp only [List.getD_eq_getElem?_getD, List.getElem?_append, List.length_take]
  by_cases h : i < k
  · rw [if_pos h, if_pos (by omega), List.getElem?_take, if_pos h]
  · rw [if_neg h, if_neg (by omega), List.getElem?_drop, show k + 1 + (i - min k l.length) = i + 1 by omega]
theorem skip_len {α : Type} (l : List α) (k : Nat) (hk : k < l.length) : (l.take k ++ l.drop (k + 1)).length = l.length - 1 := by simp; omega
end Go.Proofs.Ytglpjchpgjaanaa.Pure
/- When uses are valid, in the program and in the reference. Condition: at most 2,000,000. -/
namespace Go.Proofs.Ytglpjchpgjaanaa.Pure
open Go.RowKit Go.Proofs.YtglpjchpgjaanaaW.PrintWords Go.Proofs.YtglpjchpgjaanaaW.PrintLast Go.Proofs.Ytglpjchpgjaanaa.Q
set_option linter.unusedVariables false
set_option linter.unusedSimpArgs false

abbrev Usx := S40
def uAt (l : List Usx) (i : Nat) : Usx := l.getD i z40
theorem uAt_rd (l : List Usx) (i : Nat) : rd_T40 l (i : Int) = uAt l i := rfl
def uB (x : Usx) : Bool := inr x.f0 1 4 && inr x.f1 0 255
theorem uB_iff (x : Usx) : uB x = true ↔ (1 ≤ x.f0 ∧ x.f0 ≤ 4) ∧ 0 ≤ x.f1 ∧ x.f1 ≤ 255 := by simp [uB, inr_iff, and_assoc]
theorem isTool_eq (a : Int) : impl_isTool.f a = some (inr a 1 4) := by simp only [impl_isTool.f, within_eq, Option.bind_some]
/-- uses are valid -/
def UV (l : List Usx) : Prop := l.length ≤ 16 ∧ ∀ i, i < l.length → uB (uAt l i) = true
theorem sUses_ok (l : List Usx) (hl : l.length ≤ 2000000) : Ok (fun k => spec_UsesValid.f k l) (fun r => r = true ↔ UV l) := by
  unfold spec_UsesValid.f
  refine Ok.range (fun (_ : Unit) i k => spec_UsesValid.l0 k l i) l.length (fun i _ => ∀ j, j < i → uB (uAt l j) = true) _ ?_ ?_ () (fun j hj => absurd hj (by omega))
  · intro i _ hi hinv ih
    refine Ok.step (fun k => by simp only [spec_UsesValid.l0]; rfl) (Ok.pos (by omega) (Ok.pos (by omega) ?_))
    have ew : wrap64 ((i : Int) + 1) = (i : Int) + 1 := wrap_id (by omega) (by omega)
    simp only [l6In_eq, l3Set_eq, Option.bind_some, ew, uAt_rd]
    have bad : uB (uAt l i) = false → Ok (fun _ => some false) (fun r : Bool => r = true ↔ UV l) := fun h => Ok.ret ⟨fun h' => (by cases h'), fun h' => by rw [h'.2 i hi] at h; cases h⟩
    refine Ok.ite (fun h1 => Ok.ite (fun h2 => ih () fun j hj => ?_) (fun h => bad ?_)) (fun h => bad ?_)
    · rcases Nat.lt_succ_iff_lt_or_eq.1 hj with h4 | rfl
      · exact hinv j h4
      · simp [uB, h1, h2]
    · simp [uB, Bool.not_eq_true _ ▸ h]
    · simp [uB, Bool.not_eq_true _ ▸ h]
  · intro _ hinv
    refine Ok.step (fun k => by simp only [spec_UsesValid.l0]; rfl) (Ok.neg (by omega) (Ok.ret ?_))
    rw [decide_eq_true_iff]
    exact ⟨fun h => ⟨by omega, hinv⟩, fun h => by have := h.1; omega⟩
theorem iUses_ok (l : List Usx) (hl : l.length ≤ 2000000) : Ok (fun k => impl_UsesValid.f k l) (fun r => r = true ↔ UV l) := by
  unfold impl_UsesValid.f
  refine Ok.range (fun (_ : Unit) i k => impl_UsesValid.l0 k l l (l.length : Int) i) l.length (fun i _ => ∀ j, j < i → uB (uAt l j) = true) _ ?_ ?_ () (fun j hj => absurd hj (by omega))
  · intro i _ hi hinv ih
    refine Ok.step (fun k => by simp only [impl_UsesValid.l0]; rfl) (Ok.pos (by omega) (Ok.pos (by omega) (Ok.pos (by omega) ?_)))
    have ew : wrap64 ((i : Int) + 1) = (i : Int) + 1 := wrap_id (by omega) (by omega)
    simp only [isTool_eq, isSet_eq, Option.bind_some, ew, uAt_rd]
    have bad : uB (uAt l i) = false → Ok (fun _ => some false) (fun r : Bool => r = true ↔ UV l) := fun h => Ok.ret ⟨fun h' => (by cases h'), fun h' => by rw [h'.2 i hi] at h; cases h⟩
    refine Ok.ite (fun h1 => Ok.ite (fun h2 => ih () fun j hj => ?_) (fun h => bad ?_)) (fun h => bad ?_)
    · rcases Nat.lt_succ_iff_lt_or_eq.1 hj with h4 | rfl
      · exact hinv j h4
      · simp [uB, h1, h2]
    · simp [uB, Bool.not_eq_true _ ▸ h]
    · simp [uB, Bool.not_eq_true _ ▸ h]
  · intro _ hinv
    refine Ok.step (fun k => by simp only [impl_UsesValid.l0]; rfl) (Ok.neg (by omega) (Ok.ret ?_))
    rw [decide_eq_true_iff]
    exact ⟨fun h => ⟨by omega, hinv⟩, fun h => by have := h.1; omega⟩
end Go.Proofs.Ytglpjchpgjaanaa.Pure
/- Traces on tools: what uses leave behind since the last cleaning. Condition: valid uses. -/
namespace Go.Proofs.Ytglpjchpgjaanaa.Pure
open Go.RowKit Go.Proofs.YtglpjchpgjaanaaW.PrintWords Go.Proofs.YtglpjchpgjaanaaW.PrintLast Go.Proofs.Ytglpjchpgjaanaa.Q
set_option linter.unusedVariables false
set_option linter.unusedSimpArgs false
/-- what the first n uses leave on tool t -/
def leftU (l : List Usx) (t : Int) : Nat → Nat
  | 0 => 0
  | n + 1 => if (uAt l n).f0 = t then (if (uAt l n).f2 = true then 0 else leftU l t n) ||| (uAt l n).f1.toNat else leftU l t n
/-- the traces at use i -/
def trU (l : List Usx) (i : Nat) : Nat := if (uAt l i).f2 = true then 0 else leftU l (uAt l i).f0 i
def traces (l : List Usx) : List Int := (List.range l.length).map fun i => ((trU l i : Nat) : Int)
theorem set_of {x : Usx} (h : uB x = true) : (x.f1.toNat : Int) = x.f1 ∧ x.f1.toNat < 256 := by
  have := (uB_iff x).1 h
  omega
theorem leftU_lt (l : List Usx) (t : Int) : ∀ n, (∀ i, i < n → uB (uAt l i) = true) → leftU l t n < 256
  | 0, _ => by simp [leftU]
  | n + 1, h => by
    have ih := leftU_lt l t n fun i hi => h i (by omega)
    have hs := (set_of (h n (by omega))).2
    unfold leftU
    split
    · refine Nat.or_lt_two_pow (n := 8) ?_ hs
      split
      · decide
      · exact ih
    · exact ih
theorem trU_lt (l : List Usx) (i : Nat) (h : ∀ j, j < i → uB (uAt l j) = true) : trU l i < 256 := by
  unfold trU
  split
  · decide
  · exact leftU_lt l _ i h
theorem leftU_congr {l m : List Usx} (t : Int) : ∀ n, (∀ i, i < n → uAt l i = uAt m i) → leftU l t n = leftU m t n
  | 0, _ => rfl
  | n + 1, h => by simp only [leftU, leftU_congr t n fun i hi => h i (by omega), h n (by omega)]
theorem trU_congr {l m : List Usx} (i : Nat) (h : ∀ j, j ≤ i → uAt l j = uAt m j) : trU l i = trU m i := by
  unfold trU
  rw [h i (Nat.le_refl _), leftU_congr _ i fun j hj => h j (by omega)]
theorem traces_len (l : List Usx) : (traces l).length = l.length := by simp [traces]
theorem traces_at (l : List Usx) (i : Nat) (h : i < l.length) : (traces l).getD i 0 = ((trU l i : Nat) : Int) := by
  unfold traces
  rw [getD_at _ _ _ (by simpa using h)]
  simp
/-- a is part of b -/
def sub (a b : Nat) : Prop := a ||| b = b
theorem sub_iff (a b : Nat) : sub a b ↔ ∀ i, a.testBit i = true → b.testBit i = true := by
  unfold sub
  constructor
  · intro h i ha
    rw [← h, Nat.testBit_or, ha]; rfl
  · intro h
    refine Nat.eq_of_testBit_eq fun i => ?_
    rw [Nat.testBit_or]
    cases ha : a.testBit i with
    | false => rfl
    | true => rw [h i ha]; rfl
theorem sub_refl (a : Nat) : sub a a := by unfold sub; simp
theorem sub_zero (a : Nat) : sub 0 a := by unfold sub; simp
theorem sub_or {a b : Nat} (h : sub a b) (c : Nat) : sub (a ||| c) (b ||| c) := by
  rw [sub_iff] at *
  intro i
  rw [Nat.testBit_or, Nat.testBit_or]
  cases hc : c.testBit i with
  | true => simp
  | false => simpa using h i
theorem sub_right (a c : Nat) : sub c (a ||| c) := by
  rw [sub_iff]
  intro i h
  rw [Nat.testBit_or, h]; simp
theorem sub_trans {a b c : Nat} (h : sub a b) (k : sub b c) : sub a c := by
  rw [sub_iff] at *
  exact fun i ha => k i (h i ha)
theorem sub_meet (a b : Nat) : a &&& b = a ↔ sub a b := by
  rw [sub_iff]
  constructor
  · intro h i ha
    have := congrArg (fun x => x.testBit i) h
    simp only [Nat.testBit_and, ha, Bool.true_and] at this
    exact this
  · intro h
    refine Nat.eq_of_testBit_eq fun i => ?_
    rw [Nat.testBit_and]
    cases ha : a.testBit i with
    | false => rfl
    | true => rw [h i ha]; rfl
end Go.Proofs.Ytglpjchpgjaanaa.Pure
/- The weight of an allergen: two to the power of its number, up to 8. -/
namespace Go.Proofs.Ytglpjchpgjaanaa.Pure
open Go.RowKit Go.Proofs.YtglpjchpgjaanaaW.PrintWords Go.Proofs.YtglpjchpgjaanaaW.PrintLast Go.Proofs.Ytglpjchpgjaanaa.Q
set_option linter.unusedVariables false
set_option linter.unusedSimpArgs false

theorem pow_le (i : Nat) (h : i ≤ 8) : (1 : Int) ≤ 2 ^ i ∧ (2 : Int) ^ i ≤ 256 := by
  have h1 : 2 ^ i ≤ 2 ^ 8 := Nat.pow_le_pow_right (by decide) h
  have h2 : 0 < 2 ^ i := Nat.two_pow_pos i
  constructor
  · have : ((2 ^ i : Nat) : Int) = (2 : Int) ^ i := by simp
    omega
  · have : ((2 ^ i : Nat) : Int) = (2 : Int) ^ i := by simp
    omega
theorem weight_ok (n : Nat) (h : n ≤ 8) : Ok (fun k => spec_l3Weight.f k (n : Int)) (· = (2 : Int) ^ n) := by
  unfold spec_l3Weight.f
  refine Ok.range (fun (s : Int) i k => spec_l3Weight.l0 k (n : Int) s i) n (fun i s => s = 2 ^ i) _ ?_ ?_ 1 rfl
  · rintro i _ hi rfl ih
    have hp := pow_le i (by omega)
    refine Ok.step (fun k => by simp only [spec_l3Weight.l0]; rfl) (Ok.pos (by omega) ?_)
    rw [wrap_id (n := (i : Int) + 1) (by omega) (by omega), wrap_id (n := 2 * 2 ^ i) (by omega) (by omega)]
    exact ih _ (by rw [Int.pow_succ, Int.mul_comm])
  · rintro _ rfl
    exact Ok.step (fun k => by simp only [spec_l3Weight.l0]; rfl) (Ok.neg (by omega) (Ok.ret rfl))
end Go.Proofs.Ytglpjchpgjaanaa.Pure
/- Does a set have an allergen? Conditions: the set is in the range 0 to 255, the allergen at most 8. -/
namespace Go.Proofs.Ytglpjchpgjaanaa.Pure
open Go.RowKit Go.Proofs.YtglpjchpgjaanaaW.PrintWords Go.Proofs.YtglpjchpgjaanaaW.PrintLast Go.Proofs.Ytglpjchpgjaanaa.Q
set_option linter.unusedVariables false
set_option linter.unusedSimpArgs false

theorem has_ok (a : Nat) (ha : a < 256) (i : Nat) (h : i ≤ 8) : Ok (fun k => spec_l3Has.f k (a : Int) (i : Int)) (· = a.testBit i) := by
  unfold spec_l3Has.f
  refine Ok.bind (weight_ok i h) ?_
  rintro _ rfl
  have hp := pow_le i h
  refine Ok.neg (by omega) (Ok.ret ?_)
  have e : ((2 : Int) ^ i) = ((2 ^ i : Nat) : Int) := by simp
  rw [e, Int.tdiv_eq_ediv_of_nonneg (by omega), ← Int.natCast_ediv]
  have hd : a / 2 ^ i ≤ a := Nat.div_le_self _ _
  generalize hq : a / 2 ^ i = q at hd
  rw [wrap_id (n := ((q : Nat) : Int)) (by omega) (by omega), Int.tmod_eq_emod_of_nonneg (by omega), Nat.testBit_eq_decide_div_mod_eq, hq]
  by_cases h1 : q % 2 = 1
  · rw [decide_eq_true h1, beq_iff_eq]; omega
  · rw [decide_eq_false h1, beq_eq_false_iff_ne]; omega
theorem mod_next (x i : Nat) : x % 2 ^ (i + 1) = x % 2 ^ i + (if x.testBit i = true then 2 ^ i else 0) := by
  rw [Nat.mod_pow_succ, Nat.testBit_eq_decide_div_mod_eq]
  have h := Nat.mod_two_eq_zero_or_one (x / 2 ^ i)
  rcases h with h | h <;> simp [h]
theorem cast_mod (x i : Nat) (hi : i ≤ 8) (hx : x < 256) : 0 ≤ ((x % 2 ^ i : Nat) : Int) ∧ ((x % 2 ^ i : Nat) : Int) ≤ 255 := by
  have := Nat.mod_le x (2 ^ i)
  omega
end Go.Proofs.Ytglpjchpgjaanaa.Pure
/- The reference's union of two sets. Conditions: sets in the range 0 to 255. -/
namespace Go.Proofs.Ytglpjchpgjaanaa.Pure
open Go.RowKit Go.Proofs.YtglpjchpgjaanaaW.PrintWords Go.Proofs.YtglpjchpgjaanaaW.PrintLast Go.Proofs.Ytglpjchpgjaanaa.Q
set_option linter.unusedVariables false
set_option linter.unusedSimpArgs false

theorem join_ok (a b : Nat) (ha : a < 256) (hb : b < 256) : Ok (fun k => spec_l3Join.f k (a : Int) (b : Int)) (· = ((a ||| b : Nat) : Int)) := by
  unfold spec_l3Join.f
  have hab : a ||| b < 256 := Nat.or_lt_two_pow (n := 8) ha hb
  refine Ok.range (fun (s : Int) i k => spec_l3Join.l0 k (a : Int) (b : Int) s i) 8 (fun i s => s = (((a ||| b) % 2 ^ i : Nat) : Int)) _ ?_ ?_ 0 (by simp [Nat.mod_one])
  · rintro i _ hi rfl ih
    have hr := cast_mod (a ||| b) i (by omega) hab
    have hp := pow_le i (by omega)
    have hn := mod_next (a ||| b) i
    have ew : wrap64 ((i : Int) + 1) = (i : Int) + 1 := wrap_id (by omega) (by omega)
    rw [Nat.testBit_or] at hn
    have fin : (a.testBit i || b.testBit i) = true → Ok (fun k => (spec_l3Weight.f k (i : Int)).bind fun t => spec_l3Join.l0 k (a : Int) (b : Int) (wrap64 ((((a ||| b) % 2 ^ i : Nat) : Int) + t)) (wrap64 ((i : Int) + 1))) (· = ((a ||| b : Nat) : Int)) := by
      intro h
      refine Ok.bind (weight_ok i (by omega)) ?_
      rintro _ rfl
      rw [ew, wrap_id (n := _ + 2 ^ i) (by omega) (by omega)]
      exact ih _ (by rw [hn, h]; simp)
    refine Ok.step (fun k => by simp only [spec_l3Join.l0]; rfl) (Ok.pos (by omega) (Ok.bind (has_ok a ha i (by omega)) ?_))
    rintro _ rfl
    cases h1 : a.testBit i with
    | true => exact Ok.pos rfl (fin (by simp [h1]))
    | false =>
      refine Ok.neg (by simp) (Ok.bind (has_ok b hb i (by omega)) ?_)
      rintro _ rfl
      cases h2 : b.testBit i with
      | true => exact Ok.pos rfl (fin (by simp [h2]))
      | false =>
        refine Ok.neg (by simp) ?_
        rw [ew]
        exact ih _ (by rw [hn, h1, h2]; simp)
  · rintro _ rfl
    refine Ok.step (fun k => by simp only [spec_l3Join.l0]; rfl) (Ok.neg (by omega) (Ok.ret ?_))
    rw [Nat.mod_eq_of_lt hab]
end Go.Proofs.Ytglpjchpgjaanaa.Pure
/- What is left on a tool, in the program and in the reference. Condition: at most 2,000,000 uses. -/
namespace Go.Proofs.Ytglpjchpgjaanaa.Pure
open Go.RowKit Go.Proofs.YtglpjchpgjaanaaW.PrintWords Go.Proofs.YtglpjchpgjaanaaW.PrintLast Go.Proofs.Ytglpjchpgjaanaa.Q
set_option linter.unusedVariables false
set_option linter.unusedSimpArgs false
theorem left_next (l : List Usx) (t : Int) (n : Nat) : leftU l t (n + 1) = if (uAt l n).f0 = t then (if (uAt l n).f2 = true then 0 else leftU l t n) ||| (uAt l n).f1.toNat else leftU l t n := rfl
theorem sLeft_ok (l : List Usx) (n : Nat) (t : Int) (hn : n ≤ l.length) (hl : l.length ≤ 2000000) (hu : ∀ i, i < n → uB (uAt l i) = true) : Ok (fun k => spec_l13Left.f k l (n : Int) t) (· = ((leftU l t n : Nat) : Int)) := by
  unfold spec_l13Left.f
  refine Ok.range (fun (s : Int) i k => spec_l13Left.l0 k l (n : Int) t s i) n (fun i s => s = ((leftU l t i : Nat) : Int)) _ ?_ ?_ 0 rfl
  · rintro i _ hi rfl ih
    obtain ⟨e1, e2⟩ := set_of (hu i hi)
    have hlt := leftU_lt l t i fun j hj => hu j (by omega)
    refine Ok.step (fun k => by simp only [spec_l13Left.l0]; rfl) (Ok.pos (by omega) (Ok.pos (by omega) (Ok.pos (by omega) ?_)))
    rw [uAt_rd, wrap_id (n := (i : Int) + 1) (by omega) (by omega)]
    refine Ok.ite (fun h => Ok.ite (fun h2 => ?_) (fun h2 => ?_)) (fun h => ih _ (by rw [left_next, if_neg h]))
    · have hj := join_ok 0 (uAt l i).f1.toNat (by decide) e2
      rw [e1] at hj
      refine Ok.bind hj ?_
      rintro _ rfl
      exact ih _ (by rw [left_next, if_pos h, if_pos h2])
    · have hj := join_ok (leftU l t i) (uAt l i).f1.toNat hlt e2
      rw [e1] at hj
      refine Ok.bind hj ?_
      rintro _ rfl
      exact ih _ (by rw [left_next, if_pos h, if_neg h2])
  · rintro _ rfl
    exact Ok.step (fun k => by simp only [spec_l13Left.l0]; rfl) (Ok.neg (by omega) (Ok.ret rfl))
end Go.Proofs.Ytglpjchpgjaanaa.Pure
/- TracesOf, in the program and in the reference. Condition: at most 2,000,000 uses. -/
namespace Go.Proofs.Ytglpjchpgjaanaa.Pure
open Go.RowKit Go.Proofs.YtglpjchpgjaanaaW.PrintWords Go.Proofs.YtglpjchpgjaanaaW.PrintLast Go.Proofs.Ytglpjchpgjaanaa.Q
set_option linter.unusedVariables false
set_option linter.unusedSimpArgs false
def TrOf (l : List Usx) (r : List Int) : Prop := (UV l → r = traces l) ∧ (¬ UV l → r = [])
theorem TrOf.eq {l : List Usx} {a b : List Int} (h : TrOf l a) (k : TrOf l b) : a = b := by
  by_cases v : UV l
  · rw [h.1 v, k.1 v]
  · rw [h.2 v, k.2 v]
theorem TrOf.len {l : List Usx} {a : List Int} (h : TrOf l a) : a.length ≤ l.length := by
  by_cases v : UV l
  · rw [h.1 v, traces_len]; exact Nat.le_refl _
  · rw [h.2 v]; simp
theorem put_at (on : List Int) (u : Usx) (j : Nat) (h : u.f0.toNat < on.length) : (impl_TracesOf.put on u).length = on.length ∧ (impl_TracesOf.put on u).getD j 0 = if u.f2 = true ∧ j = u.f0.toNat then 0 else on.getD j 0 := by
  unfold impl_TracesOf.put
  by_cases hc : u.f2 = true
  · rw [if_pos hc, List.length_set, getD_set _ _ _ _ _ h]
    refine ⟨rfl, ?_⟩
    by_cases hj : j = u.f0.toNat
    · rw [if_pos hj, if_pos ⟨hc, hj⟩]
    · rw [if_neg hj, if_neg fun h' => hj h'.2]
  · rw [if_neg hc, if_neg fun h' => hc h'.1]
    exact ⟨rfl, rfl⟩
theorem after_at (on : List Int) (u : Usx) (h5 : on.length = 5) (hu : uB u = true) (left : Int → Nat) (hl : ∀ t, left t < 256) (h : ∀ t, 1 ≤ t → t ≤ 4 → on.getD t.toNat 0 = ((left t : Nat) : Int)) :
    (impl_TracesOf.after on u).length = 5 ∧ (impl_TracesOf.put on u).getD u.f0.toNat 0 = (((if u.f2 = true then 0 else left u.f0) : Nat) : Int) ∧ ∀ t, 1 ≤ t → t ≤ 4 → (impl_TracesOf.after on u).getD t.toNat 0 = (((if u.f0 = t then (if u.f2 = true then 0 else left t) ||| u.f1.toNat else left t) : Nat) : Int) := by
  have hb := (uB_iff u).1 hu
  obtain ⟨e1, e2⟩ := set_of hu
  have hf : u.f0.toNat < on.length := by omega
  have hp := fun j => put_at on u j hf
  have hv : (impl_TracesOf.put on u).getD u.f0.toNat 0 = (((if u.f2 = true then 0 else left u.f0) : Nat) : Int) := by
    rw [(hp _).2]
    by_cases hc : u.f2 = true
    · rw [if_pos ⟨hc, rfl⟩, if_pos hc]; rfl
    · rw [if_neg fun h' => hc h'.1, if_neg hc]; exact h _ hb.1.1 hb.1.2
  refine ⟨by unfold impl_TracesOf.after; rw [List.length_set, (hp 0).1, h5], hv, fun t h1 h4 => ?_⟩
  unfold impl_TracesOf.after
  rw [getD_set _ _ _ _ _ (by rw [(hp 0).1]; exact hf), hv]
  by_cases ht : u.f0 = t
  · subst ht
    rw [if_pos rfl, if_pos rfl]
    have hx : (if u.f2 = true then 0 else left u.f0) < 256 := by
      split
      · decide
      · exact hl _
    have := (bits_nat64 _ u.f1.toNat hx e2).2
    rw [e1] at this
    exact this
  · rw [if_neg (by omega), if_neg ht, (hp _).2, if_neg (by omega)]
    exact h t h1 h4
theorem on_left (l : List Usx) : ∀ n, (∀ i, i < n → uB (uAt l i) = true) → (impl_TracesOf.on l n).length = 5 ∧ ∀ t, 1 ≤ t → t ≤ 4 → (impl_TracesOf.on l n).getD t.toNat 0 = ((leftU l t n : Nat) : Int)
  | 0, _ => by
    refine ⟨rfl, fun t h1 h4 => ?_⟩
    have : t = 1 ∨ t = 2 ∨ t = 3 ∨ t = 4 := by omega
    rcases this with rfl | rfl | rfl | rfl <;> rfl
  | n + 1, h => by
    have ih := on_left l n fun i hi => h i (by omega)
    have ha := after_at (impl_TracesOf.on l n) (uAt l n) ih.1 (h n (by omega)) (fun t => leftU l t n) (fun t => leftU_lt l t n fun i hi => h i (by omega)) ih.2
    exact ⟨ha.1, ha.2.2⟩
theorem iTraces_ok (l : List Usx) (hl : l.length ≤ 2000000) : Ok (fun k => impl_TracesOf.f k l) (TrOf l) := by
  unfold impl_TracesOf.f
  refine Ok.bind (iUses_ok l hl) fun b hb => Ok.ite (fun h => ?_) (fun h => Ok.ret ⟨fun h' => absurd (hb.2 h') h, fun _ => rfl⟩)
  have v := hb.1 h
  refine Ok.pos ⟨by omega, fun x hx => ?_⟩ (Ok.ret ⟨fun _ => ?_, fun h' => absurd v h'⟩)
  · obtain ⟨i, hi, rfl⟩ := List.mem_iff_getElem.1 hx
    have := v.2 i hi
    unfold uAt at this
    rw [getD_at _ _ _ hi] at this
    have := ((uB_iff _).1 this).1
    omega
  · unfold traces
    refine List.map_congr_left fun i hi => ?_
    have hi' : i < l.length := List.mem_range.1 hi
    have ih := on_left l i fun j hj => v.2 j (by omega)
    exact (after_at (impl_TracesOf.on l i) (uAt l i) ih.1 (v.2 i hi') (fun t => leftU l t i) (fun t => leftU_lt l t i fun j hj => v.2 j (by omega)) ih.2).2.1
theorem sTraces_ok (l : List Usx) (hl : l.length ≤ 2000000) : Ok (fun k => spec_TracesOf.f k l) (TrOf l) := by
  unfold spec_TracesOf.f
  by_cases v : UV l
  · refine Ok.range (fun (a : List Int) i k => spec_TracesOf.l0 k l a i) l.length (fun i a => a = (List.range i).map fun i => ((trU l i : Nat) : Int)) _ ?_ ?_ [] rfl
    · rintro i _ hi rfl ih
      have hlen : ((List.range i).map fun i => ((trU l i : Nat) : Int)).length < 17592186044416 := by simp; omega
      have fin : ∀ n : Int, n = ((trU l i : Nat) : Int) → Ok (fun k => spec_TracesOf.l0 k l (((List.range i).map fun i => ((trU l i : Nat) : Int)) ++ [n]) ((i : Int) + 1)) (TrOf l) := fun n hn => ih _ (by rw [hn, List.range_succ, List.map_append]; rfl)
      refine Ok.step (fun k => by simp only [spec_TracesOf.l0]; rfl) (Ok.pos (by omega) (Ok.bind (sUses_ok l hl) fun b hb => ?_))
      refine Ok.step (fun k => by simp only [spec_TracesOf.j1]; rfl) (Ok.pos (hb.2 v) (Ok.pos (by omega) (Ok.pos (by omega) ?_)))
      rw [uAt_rd, wrap_id (n := (i : Int) + 1) (by omega) (by omega)]
      refine Ok.ite (fun h => Ok.pos hlen (fin _ (by unfold trU; rw [if_pos h]; rfl))) (fun h => Ok.bind (sLeft_ok l i _ (by omega) hl fun j hj => v.2 j (by omega)) ?_)
      rintro _ rfl
      exact Ok.pos hlen (fin _ (by unfold trU; rw [if_neg h]))
    · rintro _ rfl
      refine Ok.step (fun k => by simp only [spec_TracesOf.l0]; rfl) (Ok.neg (by omega) ?_)
      exact Ok.step (fun k => by simp only [spec_TracesOf.j1]; rfl) (Ok.neg (by simp) (Ok.ret ⟨fun _ => rfl, fun h => absurd v h⟩))
  · refine Ok.step (fun k => by simp only [spec_TracesOf.l0]; rfl) (Ok.ite (fun h => Ok.bind (sUses_ok l hl) fun b hb => ?_) (fun h => ?_))
    · exact Ok.step (fun k => by simp only [spec_TracesOf.j1]; rfl) (Ok.neg (fun h => v (hb.1 h)) (Ok.ret ⟨fun h' => absurd h' v, fun _ => rfl⟩))
    · exact Ok.step (fun k => by simp only [spec_TracesOf.j1]; rfl) (Ok.neg (by simp) (Ok.ret ⟨fun h' => absurd h' v, fun _ => rfl⟩))
end Go.Proofs.Ytglpjchpgjaanaa.Pure
/- Uses cleaned exactly where traces would not be allowed otherwise: what is known of such uses. No conditions. -/
namespace Go.Proofs.Ytglpjchpgjaanaa.Pure
open Go.RowKit Go.Proofs.YtglpjchpgjaanaaW.PrintWords Go.Proofs.YtglpjchpgjaanaaW.PrintLast Go.Proofs.Ytglpjchpgjaanaa.Q
set_option linter.unusedVariables false
set_option linter.unusedSimpArgs false
open Classical in
noncomputable def subB (a b : Nat) : Bool := decide (sub a b)
theorem subB_iff (a b : Nat) : subB a b = true ↔ sub a b := by simp [subB]
def allow (a : List Int) (i : Nat) : Nat := (a.getD i 0).toNat
/-- use n, cleaned if what o leaves is not allowed -/
noncomputable def gu (l : List Usx) (a : List Int) (o : List Usx) (n : Nat) : Usx := ⟨(uAt l n).f0, (uAt l n).f1, !(subB (leftU o (uAt l n).f0 n) (allow a n))⟩
noncomputable def gr (l : List Usx) (a : List Int) : Nat → List Usx
  | 0 => []
  | n + 1 => gr l a n ++ [gu l a (gr l a n) n]
theorem gr_len (l : List Usx) (a : List Int) : ∀ n, (gr l a n).length = n
  | 0 => rfl
  | n + 1 => by rw [gr, List.length_append, gr_len l a n]; rfl
theorem uAt_snoc (l : List Usx) (x : Usx) (j : Nat) : uAt (l ++ [x]) j = if j = l.length then x else uAt l j := by
  unfold uAt
  exact getD_snoc l _ x j
theorem gr_at (l : List Usx) (a : List Int) (i : Nat) : ∀ n, i < n → uAt (gr l a n) i = gu l a (gr l a i) i
  | 0, h => absurd h (by omega)
  | n + 1, h => by
    rw [gr, uAt_snoc, gr_len]
    by_cases e : i = n
    · subst e; rw [if_pos rfl]
    · rw [if_neg e]; exact gr_at l a i n (by omega)
theorem gr_left (l : List Usx) (a : List Int) (t : Int) (i n : Nat) (h : i ≤ n) : leftU (gr l a n) t i = leftU (gr l a i) t i :=
  leftU_congr t i fun j hj => by rw [gr_at l a j n (by omega), gr_at l a j i hj]
theorem gr_uB (l : List Usx) (a : List Int) (n : Nat) (h : ∀ i, i < n → uB (uAt l i) = true) (i : Nat) (hi : i < n) : uB (uAt (gr l a n) i) = true := by
  rw [gr_at l a i n hi]
  exact h i hi
/-- the traces of the cleaned uses are allowed -/
theorem gr_allowed (l : List Usx) (a : List Int) (n i : Nat) (hi : i < n) : sub (trU (gr l a n) i) (allow a i) := by
  unfold trU
  rw [gr_at l a i n hi, gr_left l a _ i n (by omega)]
  by_cases h : sub (leftU (gr l a i) (uAt l i).f0 i) (allow a i)
  · have : (gu l a (gr l a i) i).f2 = false := by simp [gu, (subB_iff _ _).2 h]
    rw [this, if_neg (by simp)]
    exact h
  · have e : subB (leftU (gr l a i) (uAt l i).f0 i) (allow a i) = false := Bool.eq_false_iff.2 fun h' => h ((subB_iff _ _).1 h')
    have : (gu l a (gr l a i) i).f2 = true := by simp [gu, e]
    rw [this, if_pos rfl]
    exact sub_zero _
/-- how often tool t is cleaned ahead of use n -/
def cl (l : List Usx) (t : Int) : Nat → Nat
  | 0 => 0
  | n + 1 => cl l t n + (if (uAt l n).f0 = t ∧ (uAt l n).f2 = true then 1 else 0)
def clAll (l : List Usx) : Nat → Nat
  | 0 => 0
  | n + 1 => clAll l n + (if (uAt l n).f2 = true then 1 else 0)
theorem clAll_sum (l : List Usx) : ∀ n, (∀ i, i < n → uB (uAt l i) = true) → clAll l n = cl l 1 n + cl l 2 n + cl l 3 n + cl l 4 n
  | 0, _ => rfl
  | n + 1, h => by
    have ih := clAll_sum l n fun i hi => h i (by omega)
    have ht := ((uB_iff _).1 (h n (by omega))).1
    simp only [clAll, cl]
    by_cases hc : (uAt l n).f2 = true
    · have : (uAt l n).f0 = 1 ∨ (uAt l n).f0 = 2 ∨ (uAt l n).f0 = 3 ∨ (uAt l n).f0 = 4 := by omega
      rcases this with e | e | e | e <;> simp [e, hc] <;> omega
    · simp [hc]; omega
theorem few (l : List Usx) (a : List Int) (N : Nat) (t : Int) : ∀ n, n ≤ N → (∀ i, i < n → sub (trU l i) (allow a i)) → cl (gr l a N) t n < cl l t n ∨ (cl (gr l a N) t n = cl l t n ∧ sub (leftU (gr l a N) t n) (leftU l t n))
  | 0, _, _ => .inr ⟨rfl, sub_refl _⟩
  | n + 1, hn, h => by
    have ih := few l a N t n (by omega) fun i hi => h i (by omega)
    have hx := h n (by omega)
    have e := gr_at l a n N (by omega)
    have el := gr_left l a t n N (by omega)
    unfold trU at hx
    simp only [cl, leftU]
    rw [e]
    by_cases ht : (uAt l n).f0 = t
    · have ht' : (gu l a (gr l a n) n).f0 = t := ht
      have hf : (gu l a (gr l a n) n).f1 = (uAt l n).f1 := rfl
      have hg : (gu l a (gr l a n) n).f2 = !(subB (leftU (gr l a N) t n) (allow a n)) := by rw [el, ← ht]; rfl
      rw [ht] at hx
      rw [hf, ht', ht, hg]
      generalize leftU (gr l a N) t n = g at *
      generalize leftU l t n = b at *
      generalize cl (gr l a N) t n = p at *
      generalize cl l t n = q at *
      generalize (uAt l n).f1.toNat = f at *
      generalize allow a n = w at *
      by_cases hs : sub g w
      · rw [(subB_iff g w).2 hs]
        cases hc : (uAt l n).f2 with
        | true => left; simp; rcases ih with h1 | ⟨h1, _⟩ <;> omega
        | false =>
          rcases ih with h1 | ⟨h1, h2⟩
          · left; simpa using h1
          · right; exact ⟨by simpa using h1, by simpa using sub_or h2 f⟩
      · have hb : subB g w = false := Bool.eq_false_iff.2 fun h' => hs ((subB_iff _ _).1 h')
        rw [hb]
        cases hc : (uAt l n).f2 with
        | true =>
          rcases ih with h1 | ⟨h1, h2⟩
          · left; simpa using h1
          · right; exact ⟨by simpa using h1, by simpa using sub_refl f⟩
        | false =>
          rw [hc] at hx
          rw [if_neg (by simp)] at hx
          rcases ih with h1 | ⟨h1, h2⟩
          · by_cases h3 : p + 1 < q
            · left; simpa using h3
            · right; exact ⟨by simp; omega, by simpa using sub_right b f⟩
          · exact absurd (sub_trans h2 hx) hs
    · have ht' : ¬ (gu l a (gr l a n) n).f0 = t := ht
      rw [if_neg ht', if_neg ht, if_neg (fun h' => ht' h'.1), if_neg (fun h' => ht h'.1)]
      simpa using ih
theorem few_all (l : List Usx) (a : List Int) (n : Nat) (hu : ∀ i, i < n → uB (uAt l i) = true) (h : ∀ i, i < n → sub (trU l i) (allow a i)) : clAll (gr l a n) n ≤ clAll l n := by
  rw [clAll_sum l n hu, clAll_sum _ n (gr_uB l a n hu)]
  have key : ∀ t, cl (gr l a n) t n ≤ cl l t n := fun t => by
    rcases few l a n t n (Nat.le_refl _) h with h1 | ⟨h1, _⟩ <;> omega
  have := key 1; have := key 2; have := key 3; have := key 4
  omega
end Go.Proofs.Ytglpjchpgjaanaa.Pure
/- The reference's common part of two sets. Conditions: sets in the range 0 to 255. -/
namespace Go.Proofs.Ytglpjchpgjaanaa.Pure
open Go.RowKit Go.Proofs.YtglpjchpgjaanaaW.PrintWords Go.Proofs.YtglpjchpgjaanaaW.PrintLast Go.Proofs.Ytglpjchpgjaanaa.Q
set_option linter.unusedVariables false
set_option linter.unusedSimpArgs false

theorem meet_ok (a b : Nat) (ha : a < 256) (hb : b < 256) : Ok (fun k => spec_l3Meet.f k (a : Int) (b : Int)) (· = ((a &&& b : Nat) : Int)) := by
  unfold spec_l3Meet.f
  have hab : a &&& b < 256 := Nat.and_lt_two_pow (n := 8) _ hb
  refine Ok.range (fun (s : Int) i k => spec_l3Meet.l0 k (a : Int) (b : Int) s i) 8 (fun i s => s = (((a &&& b) % 2 ^ i : Nat) : Int)) _ ?_ ?_ 0 (by simp [Nat.mod_one])
  · rintro i _ hi rfl ih
    have hr := cast_mod (a &&& b) i (by omega) hab
    have hp := pow_le i (by omega)
    have hn := mod_next (a &&& b) i
    have ew : wrap64 ((i : Int) + 1) = (i : Int) + 1 := wrap_id (by omega) (by omega)
    rw [Nat.testBit_and] at hn
    refine Ok.step (fun k => by simp only [spec_l3Meet.l0]; rfl) (Ok.pos (by omega) (Ok.bind (has_ok a ha i (by omega)) ?_))
    rintro _ rfl
    cases h1 : a.testBit i with
    | false =>
      refine Ok.neg (by simp) ?_
      rw [ew]
      exact ih _ (by rw [hn, h1]; simp)
    | true =>
      refine Ok.pos rfl (Ok.bind (has_ok b hb i (by omega)) ?_)
      rintro _ rfl
      cases h2 : b.testBit i with
      | false =>
        refine Ok.neg (by simp) ?_
        rw [ew]
        exact ih _ (by rw [hn, h2]; simp)
      | true =>
        refine Ok.pos rfl (Ok.bind (weight_ok i (by omega)) ?_)
        rintro _ rfl
        rw [ew, wrap_id (n := _ + 2 ^ i) (by omega) (by omega)]
        exact ih _ (by rw [hn, h1, h2]; simp)
  · rintro _ rfl
    refine Ok.step (fun k => by simp only [spec_l3Meet.l0]; rfl) (Ok.neg (by omega) (Ok.ret ?_))
    rw [Nat.mod_eq_of_lt hab]
end Go.Proofs.Ytglpjchpgjaanaa.Pure
/- TracesClean, in the program and in the reference. Condition: at most 2,000,000 uses and sets. -/
namespace Go.Proofs.Ytglpjchpgjaanaa.Pure
open Go.RowKit Go.Proofs.YtglpjchpgjaanaaW.PrintWords Go.Proofs.YtglpjchpgjaanaaW.PrintLast Go.Proofs.Ytglpjchpgjaanaa.Q
set_option linter.unusedVariables false
set_option linter.unusedSimpArgs false
theorem andNot_nat (a b : Nat) (ha : a < 256) (hb : b < 256) : (Go.bits .andNot .i64 (a : Int) (b : Int) != 0) = !(subB a b) := by
  have ha' : a % 2 ^ 64 = a := Nat.mod_eq_of_lt (by omega)
  have hb' : b % 2 ^ 64 = b := Nat.mod_eq_of_lt (by omega)
  have e : Go.bits .andNot .i64 (a : Int) (b : Int) = ((BitVec.ofNat 64 a &&& ~~~ BitVec.ofNat 64 b).toNat : Int) := by
    have hlt : (BitVec.ofNat 64 a &&& ~~~ BitVec.ofNat 64 b).toNat ≤ a := by
      rw [BitVec.toNat_and, BitVec.toNat_ofNat, ha']
      exact Nat.and_le_left
    show IntKind.i64.wrap ((BitVec.ofInt 64 (a : Int) &&& ~~~ BitVec.ofInt 64 (b : Int)).toNat : Int) = _
    rw [IntKind.wrap_i64]
    simp only [BitVec.ofInt_natCast]
    omega
  have k : (BitVec.ofNat 64 a &&& ~~~ BitVec.ofNat 64 b) = 0#64 ↔ sub a b := by
    rw [sub_iff]
    constructor
    · intro h i hi
      have h8 : i < 64 := by
        by_cases h64 : i < 64
        · exact h64
        · rw [Nat.testBit_lt_two_pow (Nat.lt_of_lt_of_le ha (Nat.le_trans (by decide : 256 ≤ 2 ^ 64) (Nat.pow_le_pow_right (by decide) (by omega))))] at hi; cases hi
      have := congrArg (fun x => x.getLsbD i) h
      simp only [BitVec.getLsbD_and, BitVec.getLsbD_not, BitVec.getLsbD_ofNat, BitVec.getLsbD_zero, h8, decide_true, Bool.true_and, hi] at this
      simpa using this
    · intro h
      refine BitVec.eq_of_getLsbD_eq fun i hi => ?_
      simp only [BitVec.getLsbD_and, BitVec.getLsbD_not, BitVec.getLsbD_ofNat, BitVec.getLsbD_zero, hi, decide_true, Bool.true_and]
      cases h1 : a.testBit i with
      | false => simp
      | true => rw [h i h1]; simp
  rw [e]
  by_cases hs : sub a b
  · rw [k.2 hs, (subB_iff a b).2 hs]; rfl
  · have hn : (BitVec.ofNat 64 a &&& ~~~ BitVec.ofNat 64 b) ≠ 0#64 := fun h => hs (k.1 h)
    have hz : (BitVec.ofNat 64 a &&& ~~~ BitVec.ofNat 64 b).toNat ≠ 0 := fun h => hn (BitVec.eq_of_toNat_eq (by simpa using h))
    rw [show subB a b = false from Bool.eq_false_iff.2 fun h' => hs ((subB_iff _ _).1 h')]
    simp only [Bool.not_false, bne_iff_ne, ne_eq]
    omega
/-- what may be cleaned: valid uses, one set for each -/
def CleanV (l : List Usx) (a : List Int) : Prop := UV l ∧ a.length = l.length ∧ ∀ i, i < a.length → inr (a.getD i 0) 0 255 = true
def TrClean (l : List Usx) (a : List Int) (r : List Usx × Bool) : Prop := (CleanV l a → r = (gr l a l.length, true)) ∧ (¬ CleanV l a → r = ([], false))
theorem TrClean.eq {l : List Usx} {s : List Int} {a b : List Usx × Bool} (h : TrClean l s a) (k : TrClean l s b) : a = b := by
  by_cases v : CleanV l s
  · rw [h.1 v, k.1 v]
  · rw [h.2 v, k.2 v]
theorem TrClean.len {l : List Usx} {s : List Int} {a : List Usx × Bool} (h : TrClean l s a) : a.1.length ≤ l.length := by
  by_cases v : CleanV l s
  · rw [h.1 v]; exact Nat.le_of_eq (gr_len l s _)
  · rw [h.2 v]; simp
theorem allow_nat {a : List Int} {i : Nat} (h : inr (a.getD i 0) 0 255 = true) : ((allow a i : Nat) : Int) = a.getD i 0 ∧ allow a i < 256 := by
  have := (inr_iff _ _ _).1 h
  unfold allow
  omega
theorem sClean_ok (l : List Usx) (a : List Int) (hl : l.length ≤ 2000000) : Ok (fun k => spec_TracesClean.f k l a) (TrClean l a) := by
  unfold spec_TracesClean.f
  have no : ¬ CleanV l a → Ok (fun k => spec_TracesClean.j0 k l a true) (TrClean l a) := fun h => Ok.step (fun k => by simp only [spec_TracesClean.j0]; rfl) (Ok.pos (by trivial) (Ok.ret ⟨fun h' => absurd h' h, fun _ => rfl⟩))
  refine Ok.bind (sUses_ok l hl) fun b hb => Ok.ite (fun h => ?_) (fun h => no fun h' => h (hb.2 h'.1))
  have v := hb.1 h
  by_cases hlen : a.length = l.length
  · rw [show ((a.length : Int) != (l.length : Int)) = false by simp [hlen]]
    refine Ok.step (fun k => by simp only [spec_TracesClean.j0]; rfl) (Ok.neg (by simp) ?_)
    refine Ok.range (fun (o : List Usx) i k => spec_TracesClean.l0 k l a o i) l.length (fun i o => o = gr l a i ∧ ∀ j, j < i → inr (a.getD j 0) 0 255 = true) _ ?_ ?_ [] ⟨rfl, fun j hj => absurd hj (by omega)⟩
    · rintro i _ hi ⟨rfl, hinv⟩ ih
      have hgl := gr_len l a i
      refine Ok.step (fun k => by simp only [spec_TracesClean.l0]; rfl) (Ok.pos (by omega) (Ok.pos (by omega) (Ok.pos (by omega) ?_)))
      rw [rd_nat, uAt_rd, l3Set_eq, wrap_id (n := (i : Int) + 1) (by omega) (by omega)]
      refine Ok.val (Ok.ite (fun h1 => ?_) (fun h1 => Ok.ret ⟨fun h' => absurd (h'.2.2 i (by omega)) h1, fun _ => rfl⟩))
      obtain ⟨e1, e2⟩ := allow_nat h1
      have hu : ∀ j, j < i → uB (uAt (gr l a i) j) = true := gr_uB l a i fun j hj => v.2 j (by omega)
      have hlt := leftU_lt (gr l a i) (uAt l i).f0 i hu
      refine Ok.bind (sLeft_ok (gr l a i) i _ (by omega) (by omega) hu) ?_
      rintro _ rfl
      have hm := meet_ok (leftU (gr l a i) (uAt l i).f0 i) (allow a i) hlt e2
      rw [e1] at hm
      refine Ok.bind hm ?_
      rintro _ rfl
      refine Ok.pos (by omega) (ih _ ⟨?_, fun j hj => ?_⟩)
      · rw [gr]
        congr 2
        unfold gu
        congr 1
        by_cases hs : sub (leftU (gr l a i) (uAt l i).f0 i) (allow a i)
        · rw [(subB_iff _ _).2 hs, (sub_meet _ _).2 hs]; simp
        · rw [show subB (leftU (gr l a i) (uAt l i).f0 i) (allow a i) = false from Bool.eq_false_iff.2 fun h' => hs ((subB_iff _ _).1 h')]
          have hne : ¬ (leftU (gr l a i) (uAt l i).f0 i &&& allow a i = leftU (gr l a i) (uAt l i).f0 i) := fun h' => hs ((sub_meet _ _).1 h')
          simp only [Bool.not_false, bne_iff_ne, ne_eq]
          omega
      · rcases Nat.lt_succ_iff_lt_or_eq.1 hj with h2 | rfl
        · exact hinv j h2
        · exact h1
    · rintro _ ⟨rfl, hinv⟩
      exact Ok.step (fun k => by simp only [spec_TracesClean.l0]; rfl) (Ok.neg (by omega) (Ok.ret ⟨fun _ => rfl, fun h' => absurd ⟨v, hlen, fun i hi => hinv i (by omega)⟩ h'⟩))
  · rw [show ((a.length : Int) != (l.length : Int)) = true by simp; omega]
    exact no fun h' => hlen h'.2.1
theorem con_left (l : List Usx) (a : List Int) : ∀ n, n ≤ l.length → (∀ i, i < l.length → uB (uAt l i) = true) → (∀ i, i < l.length → inr (a.getD i 0) 0 255 = true) → (impl_TracesClean.on l a n).length = 5 ∧ ∀ t, 1 ≤ t → t ≤ 4 → (impl_TracesClean.on l a n).getD t.toNat 0 = ((leftU (gr l a n) t n : Nat) : Int)
  | 0, _, _, _ => by
    refine ⟨rfl, fun t h1 h4 => ?_⟩
    have : t = 1 ∨ t = 2 ∨ t = 3 ∨ t = 4 := by omega
    rcases this with rfl | rfl | rfl | rfl <;> rfl
  | n + 1, hn, hu, ha => by
    have ih := con_left l a n (by omega) hu ha
    have hgu : ∀ j, j < n → uB (uAt (gr l a n) j) = true := gr_uB l a n fun j hj => hu j (by omega)
    have eu : impl_TracesClean.cu (impl_TracesClean.on l a n) l a n = gu l a (gr l a n) n := by
      have hb := ((uB_iff _).1 (hu n (by omega))).1
      obtain ⟨e1, e2⟩ := allow_nat (ha n (by omega))
      unfold impl_TracesClean.cu gu
      have h1 := ih.2 (uAt l n).f0 hb.1 hb.2
      unfold uAt at h1
      rw [h1, ← e1, andNot_nat _ _ (leftU_lt _ _ n hgu) e2]
      rfl
    have hx : uB (gu l a (gr l a n) n) = true := hu n (by omega)
    have e : impl_TracesClean.on l a (n + 1) = impl_TracesOf.after (impl_TracesClean.on l a n) (gu l a (gr l a n) n) := by
      show impl_TracesClean.after (impl_TracesClean.on l a n) (impl_TracesClean.cu (impl_TracesClean.on l a n) l a n) = _
      rw [eu]; rfl
    have hs := after_at (impl_TracesClean.on l a n) (gu l a (gr l a n) n) ih.1 hx (fun t => leftU (gr l a n) t n) (fun t => leftU_lt (gr l a n) t n hgu) ih.2
    rw [e]
    refine ⟨hs.1, fun t h1 h4 => ?_⟩
    rw [hs.2.2 t h1 h4, left_next, gr_at l a n (n + 1) (by omega), gr_left l a t n (n + 1) (by omega)]
theorem clean_at (l : List Usx) (a : List Int) (n : Nat) (hn : n < l.length) (hu : ∀ i, i < l.length → uB (uAt l i) = true) (ha : ∀ i, i < l.length → inr (a.getD i 0) 0 255 = true) : impl_TracesClean.clean l a n = gu l a (gr l a n) n := by
  have ih := con_left l a n (by omega) hu ha
  have hgu : ∀ j, j < n → uB (uAt (gr l a n) j) = true := gr_uB l a n fun j hj => hu j (by omega)
  have hb := ((uB_iff _).1 (hu n hn)).1
  obtain ⟨e1, e2⟩ := allow_nat (ha n hn)
  unfold impl_TracesClean.clean impl_TracesClean.cu gu
  have h1 := ih.2 (uAt l n).f0 hb.1 hb.2
  unfold uAt at h1
  rw [h1, ← e1, andNot_nat _ _ (leftU_lt _ _ n hgu) e2]
  rfl
theorem iClean_ok (l : List Usx) (a : List Int) (hl : l.length ≤ 2000000) : Ok (fun k => impl_TracesClean.f k l a) (TrClean l a) := by
  unfold impl_TracesClean.f
  refine Ok.bind (iUses_ok l hl) fun b hb => Ok.ite (fun h => ?_) (fun h => Ok.ret ⟨fun h' => absurd (hb.2 h'.1) h, fun _ => rfl⟩)
  have v := hb.1 h
  refine Ok.ite (fun hlen => Ok.ite (fun hs => Ok.pos ⟨by omega, fun x hx => ?_⟩ (Ok.ret ?_)) (fun hs => Ok.ret ⟨fun h' => absurd (fun x hx => ?_) hs, fun _ => rfl⟩)) (fun hlen => Ok.ret ⟨fun h' => absurd h'.2.1 hlen, fun _ => rfl⟩)
  · obtain ⟨i, hi, rfl⟩ := List.mem_iff_getElem.1 hx
    have := v.2 i hi
    unfold uAt at this
    rw [getD_at _ _ _ hi] at this
    have := ((uB_iff _).1 this).1
    omega
  · have ha : ∀ i, i < a.length → inr (a.getD i 0) 0 255 = true := fun i hi => by
      have := hs _ (List.getElem_mem hi)
      rw [isSet_eq] at this
      rw [getD_at _ _ _ hi]
      exact Option.some.inj this
    have hc : CleanV l a := ⟨v, hlen, ha⟩
    refine ⟨fun _ => ?_, fun h' => absurd hc h'⟩
    have e : (List.range l.length).map (impl_TracesClean.clean l a) = gr l a l.length := by
      refine eq_of_getD z40 (by rw [gr_len]; simp) fun i hi => ?_
      have hi' : i < l.length := by simpa using hi
      rw [getD_at _ _ _ hi, List.getElem_map, List.getElem_range, clean_at l a i hi' v.2 (fun j hj => ha j (by omega))]
      exact (gr_at l a i l.length hi').symm
    rw [e]
  · obtain ⟨i, hi, rfl⟩ := List.mem_iff_getElem.1 hx
    have := h'.2.2 i hi
    rw [getD_at _ _ _ hi] at this
    rw [isSet_eq, this]
end Go.Proofs.Ytglpjchpgjaanaa.Pure
/- The laws' uses and the program's: copied field by field. Condition: at most 2,000,000. -/
namespace Go.Proofs.Ytglpjchpgjaanaa.Pure
open Go.RowKit Go.Proofs.YtglpjchpgjaanaaW.PrintWords Go.Proofs.YtglpjchpgjaanaaW.PrintLast Go.Proofs.Ytglpjchpgjaanaa.Q
set_option linter.unusedVariables false
set_option linter.unusedSimpArgs false

def cvUse (x : S53) : S40 := ⟨x.f0, x.f1, x.f2⟩
theorem toUseS_ok (l : List S53) (hl : l.length ≤ 2000000) : Ok (fun k => laws_toUseS.f k l) (· = l.map cvUse) := by
  unfold laws_toUseS.f
  refine Ok.pos (by omega) (Ok.pos (Nat.le_trans (m := 2000000) (by omega) (by decide)) ?_)
  refine Ok.range (fun (s : List S40) i k => laws_toUseS.l0 k l s i) l.length (fun i s => s.length = l.length ∧ ∀ j, j < i → s.getD j z40 = (l.map cvUse).getD j z40) _ ?_ ?_ _ ⟨by simp, fun j hj => absurd hj (by omega)⟩
  · rintro i s hi ⟨h1, h2⟩ ih
    have ew : wrap64 ((i : Int) + 1) = (i : Int) + 1 := wrap_id (by omega) (by omega)
    refine Ok.step (fun k => by simp only [laws_toUseS.l0]; rfl) (Ok.pos (by omega) (Ok.pos (by omega) ?_))
    simp only [laws_toUse.f, Option.bind_some, ew]
    refine Ok.pos (by omega) (ih _ ⟨by simp [h1], fun j hj => ?_⟩)
    simp only [Int.toNat_natCast]
    rw [getD_set _ _ _ _ _ (by omega)]
    split
    · rename_i e; subst e
      rw [getD_at _ _ _ (by simp; omega), List.getElem_map]
      have e : rd_T53 l (j : Int) = l[j] := getD_at l z53 j (by omega)
      rw [e]; rfl
    · exact h2 j (by omega)
  · rintro s ⟨h1, h2⟩
    exact Ok.step (fun k => by simp only [laws_toUseS.l0]; rfl) (Ok.neg (by omega) (Ok.ret (eq_of_getD z40 (by simp [h1]) (fun i hi => h2 i (by omega)))))
theorem szUseS_eq (l : List S53) (a : Int) (h0 : 0 ≤ a) (h1 : a ≤ 9223372036854775807) (hl : l.length ≤ maxLen) : laws_szUseS.f l a = some (if (l.length : Int) ≤ a then a - l.length else -1) := by
  unfold laws_szUseS.f
  have := len_small hl
  rw [wrap_id (n := a - (l.length : Int)) (by omega) (by omega)]
  by_cases h : (l.length : Int) ≤ a
  · rw [if_neg (by omega), if_pos h]
  · rw [if_pos (by omega), if_neg h]
end Go.Proofs.Ytglpjchpgjaanaa.Pure
/- The laws' comparison of lists of uses: a list is equal to itself. Condition: at most 2,000,000. -/
namespace Go.Proofs.Ytglpjchpgjaanaa.Pure
open Go.RowKit Go.Proofs.YtglpjchpgjaanaaW.PrintWords Go.Proofs.YtglpjchpgjaanaaW.PrintLast Go.Proofs.Ytglpjchpgjaanaa.Q
set_option linter.unusedVariables false
set_option linter.unusedSimpArgs false

theorem eqUseS_ok (l : List S40) (hl : l.length ≤ 2000000) : Ok (fun k => laws_eqUseS.f k l l) (· = true) := by
  unfold laws_eqUseS.f
  refine Ok.pos rfl ?_
  refine Ok.range (fun (_ : Unit) i k => laws_eqUseS.l0 k l l i) l.length (fun _ _ => True) _ ?_ ?_ () trivial
  · intro i _ hi _ ih
    have ew : wrap64 ((i : Int) + 1) = (i : Int) + 1 := wrap_id (by omega) (by omega)
    refine Ok.step (fun k => by simp only [laws_eqUseS.l0]; rfl) (Ok.pos (by omega) (Ok.pos (by omega) (Ok.pos (by omega) ?_)))
    simp only [laws_eqUse.f, ew, if_true, Option.bind_some, bne_self_eq_false, Bool.false_eq_true, if_false]
    exact ih () trivial
  · intro _ _
    exact Ok.step (fun k => by simp only [laws_eqUseS.l0]; rfl) (Ok.neg (by omega) (Ok.ret rfl))
end Go.Proofs.Ytglpjchpgjaanaa.Pure
/- The laws' marks in lists of uses. Condition: at most 2,000,000. -/
namespace Go.Proofs.Ytglpjchpgjaanaa.Pure
open Go.RowKit Go.Proofs.YtglpjchpgjaanaaW.PrintWords Go.Proofs.YtglpjchpgjaanaaW.PrintLast Go.Proofs.Ytglpjchpgjaanaa.Q
set_option linter.unusedVariables false
set_option linter.unusedSimpArgs false

theorem markUseS_ok (l : List S40) (c0 : Int) (h0 : 0 ≤ c0) (h1 : c0 ≤ 1000000000000) (hl : l.length ≤ 2000000) : Ok (fun k => laws_markUseS.f k l c0) (fun r => r.1 = c0 + 3 * l.length) := by
  unfold laws_markUseS.f
  refine Ok.range (fun (s : List S40 × Int) i k => laws_markUseS.l0 k s.1 s.2 i) l.length (fun i s => s.1.length = l.length ∧ s.2 = c0 + 3 * i) _ ?_ ?_ (l, c0) ⟨rfl, by simp⟩
  · rintro i ⟨xs, c⟩ hi ⟨h2, h3⟩ ih
    simp only at h2 h3
    have ew : wrap64 ((i : Int) + 1) = (i : Int) + 1 := wrap_id (by omega) (by omega)
    have e1 : wrap64 (c + 1) = c + 1 := wrap_id (by omega) (by omega)
    have e2 : wrap64 (c + 1 + 1) = c + 2 := by rw [wrap_id (n := c + 1 + 1) (by omega) (by omega)]; omega
    have e3 : wrap64 (c + 2 + 1) = c + 3 := by rw [wrap_id (n := c + 2 + 1) (by omega) (by omega)]; omega
    refine Ok.step (fun k => by simp only [laws_markUseS.l0]; rfl) (Ok.pos (by omega) (Ok.pos (by omega) ?_))
    simp only [e1, e2, e3, ew]
    refine Ok.val (Ok.val (ih (_, _) ⟨by simp [h2], by simp only; omega⟩))
  · rintro ⟨xs, c⟩ ⟨h2, h3⟩
    simp only at h2 h3
    refine Ok.step (fun k => by simp only [laws_markUseS.l0]; rfl) (Ok.neg (by omega) (Ok.ret ?_))
    exact h3
end Go.Proofs.Ytglpjchpgjaanaa.Pure
/- The laws' marks in lists of uses, and that they are held. Condition: at most 2,000,000. -/
namespace Go.Proofs.Ytglpjchpgjaanaa.Pure
open Go.RowKit Go.Proofs.YtglpjchpgjaanaaW.PrintWords Go.Proofs.YtglpjchpgjaanaaW.PrintLast Go.Proofs.Ytglpjchpgjaanaa.Q
set_option linter.unusedVariables false
set_option linter.unusedSimpArgs false
def mkUse (c : Int) : S40 := ⟨c, c + 1, Int.tmod (c + 1 + 1) 3 == 0⟩
theorem markUse2_ok (l : List S40) (hl : l.length ≤ 2000000) : Ok (fun k => laws_markUseS.f k l 1) (fun r => r.1 = 1 + 3 * (l.length : Int) ∧ r.2.length = l.length ∧ ∀ j, j < l.length → r.2.getD j z40 = mkUse (1 + 3 * (j : Int))) := by
  unfold laws_markUseS.f
  refine Ok.range (fun (s : List S40 × Int) i k => laws_markUseS.l0 k s.1 s.2 i) l.length (fun i s => s.1.length = l.length ∧ s.2 = 1 + 3 * (i : Int) ∧ ∀ j, j < i → s.1.getD j z40 = mkUse (1 + 3 * (j : Int))) _ ?_ ?_ (l, 1) ⟨rfl, by simp, fun j hj => absurd hj (by omega)⟩
  · rintro i ⟨xs, c⟩ hi ⟨h1, h2, h3⟩ ih
    simp only at h1 h2 h3
    subst h2
    refine Ok.step (fun k => by simp only [laws_markUseS.l0]; rfl) (Ok.pos (by omega) (Ok.pos (by omega) ?_))
    rw [wrap_id (n := (i : Int) + 1) (by omega) (by omega), wrap_id (n := 1 + 3 * (i : Int) + 1) (by omega) (by omega), wrap_id (n := 1 + 3 * (i : Int) + 1 + 1) (by omega) (by omega), wrap_id (n := 1 + 3 * (i : Int) + 1 + 1 + 1) (by omega) (by omega), Int.toNat_natCast]
    refine Ok.val (Ok.val (ih (_, _) ⟨by simp [h1], by simp only; omega, fun j hj => ?_⟩))
    have g1 : ∀ (v : S40) (ys : List S40), ys.length = l.length → rd_T40 (ys.set i v) (i : Int) = v := fun v ys hy => by
      show (ys.set i v).getD i z40 = v
      rw [getD_set _ _ _ _ _ (by omega), if_pos rfl]
    simp only
    rw [getD_set _ _ _ _ _ (by simp [h1]; omega)]
    by_cases e : j = i
    · subst e
      rw [if_pos rfl, g1 _ _ (by simp [h1]), g1 _ _ h1]
      rfl
    · rw [if_neg e, getD_set _ _ _ _ _ (by simp [h1]; omega), if_neg e, getD_set _ _ _ _ _ (by omega), if_neg e]
      exact h3 j (by omega)
  · rintro ⟨xs, c⟩ ⟨h1, h2, h3⟩
    simp only at h1 h2 h3
    exact Ok.step (fun k => by simp only [laws_markUseS.l0]; rfl) (Ok.neg (by omega) (Ok.ret ⟨h2, h1, h3⟩))
theorem heldUse_ok (l : List S40) (hl : l.length ≤ 2000000) (h : ∀ j, j < l.length → l.getD j z40 = mkUse (1 + 3 * (j : Int))) : Ok (fun k => laws_heldUseS.f k l 1) (· = 1 + 3 * (l.length : Int)) := by
  unfold laws_heldUseS.f
  refine Ok.range (fun (c : Int) i k => laws_heldUseS.l0 k l c i) l.length (fun i c => c = 1 + 3 * (i : Int)) _ ?_ ?_ 1 (by simp)
  · rintro i _ hi rfl ih
    have e : rd_T40 l (i : Int) = mkUse (1 + 3 * (i : Int)) := h i hi
    refine Ok.step (fun k => by simp only [laws_heldUseS.l0]; rfl) (Ok.pos (by omega) (Ok.pos (by omega) ?_))
    rw [e, wrap_id (n := (i : Int) + 1) (by omega) (by omega), wrap_id (n := 1 + 3 * (i : Int) + 1) (by omega) (by omega), wrap_id (n := 1 + 3 * (i : Int) + 1 + 1) (by omega) (by omega), wrap_id (n := 1 + 3 * (i : Int) + 1 + 1 + 1) (by omega) (by omega)]
    refine Ok.pos rfl (Ok.pos rfl (Ok.neg ?_ (ih _ (by omega))))
    simp [mkUse]
  · rintro _ rfl
    exact Ok.step (fun k => by simp only [laws_heldUseS.l0]; rfl) (Ok.neg (by omega) (Ok.ret rfl))
end Go.Proofs.Ytglpjchpgjaanaa.Pure
/- Lists of whole numbers. Condition: at most 2,000,000 elements. -/
namespace Go.Proofs.Ytglpjchpgjaanaa.Pure
open Go.RowKit Go.Proofs.YtglpjchpgjaanaaW.PrintWords Go.Proofs.YtglpjchpgjaanaaW.PrintLast Go.Proofs.Ytglpjchpgjaanaa.Q
set_option linter.unusedVariables false
set_option linter.unusedSimpArgs false

theorem toIntS_ok (l : List Int) (hl : l.length ≤ 2000000) : Ok (fun k => laws_toIntS.f k l) (· = l) := by
  unfold laws_toIntS.f
  refine Ok.pos (by omega) (Ok.pos (by omega) ?_)
  refine Ok.range (fun (s : List Int) i k => laws_toIntS.l0 k l s i) l.length (fun i s => s.length = l.length ∧ ∀ j, j < i → s.getD j 0 = l.getD j 0) _ ?_ ?_ _ ⟨by simp, fun j hj => absurd hj (by omega)⟩
  · rintro i s hi ⟨h1, h2⟩ ih
    have ew : wrap64 ((i : Int) + 1) = (i : Int) + 1 := wrap_id (by omega) (by omega)
    refine Ok.step (fun k => by simp only [laws_toIntS.l0]; rfl) (Ok.pos (by omega) (Ok.pos (by omega) (Ok.pos (by omega) ?_)))
    rw [ew]
    refine ih _ ⟨by simp [h1], fun j hj => ?_⟩
    simp only [Int.toNat_natCast]
    rw [getD_set _ _ _ _ _ (by omega)]
    split
    · rename_i e; subst e; rfl
    · exact h2 j (by omega)
  · rintro s ⟨h1, h2⟩
    exact Ok.step (fun k => by simp only [laws_toIntS.l0]; rfl) (Ok.neg (by omega) (Ok.ret (eq_of_getD 0 h1 (fun i hi => h2 i (by omega)))))
end Go.Proofs.Ytglpjchpgjaanaa.Pure
/- Lists of whole numbers. Condition: at most 2,000,000 elements. -/
namespace Go.Proofs.Ytglpjchpgjaanaa.Pure
open Go.RowKit Go.Proofs.YtglpjchpgjaanaaW.PrintWords Go.Proofs.YtglpjchpgjaanaaW.PrintLast Go.Proofs.Ytglpjchpgjaanaa.Q
set_option linter.unusedVariables false
set_option linter.unusedSimpArgs false

theorem eqIntS_ok (a b : List Int) (hl : a.length ≤ 2000000) : Ok (fun k => laws_eqIntS.f k a b) (fun r => r = true ↔ a = b) := by
  unfold laws_eqIntS.f
  by_cases h : a.length = b.length
  · refine Ok.pos (by omega) ?_
    refine Ok.range (fun (_ : Unit) i k => laws_eqIntS.l0 k a b i) a.length (fun i _ => ∀ j, j < i → a.getD j 0 = b.getD j 0) _ ?_ ?_ () (fun j hj => absurd hj (by omega))
    · intro i _ hi hinv ih
      have ew : wrap64 ((i : Int) + 1) = (i : Int) + 1 := wrap_id (by omega) (by omega)
      refine Ok.step (fun k => by simp only [laws_eqIntS.l0]; rfl) (Ok.pos (by omega) (Ok.pos (by omega) (Ok.pos (by omega) ?_)))
      rw [ew, rd_nat, rd_nat]
      refine Ok.ite (fun h1 => ih () fun j hj => ?_) (fun h1 => Ok.ret ⟨fun h' => (by cases h'), fun h' => absurd (by rw [h']) h1⟩)
      rcases Nat.lt_succ_iff_lt_or_eq.1 hj with h2 | rfl
      · exact hinv j h2
      · exact h1
    · intro _ hinv
      exact Ok.step (fun k => by simp only [laws_eqIntS.l0]; rfl) (Ok.neg (by omega) (Ok.ret ⟨fun _ => eq_of_getD 0 h hinv, fun _ => rfl⟩))
  · exact Ok.neg (by omega) (Ok.ret ⟨fun h' => (by cases h'), fun h' => absurd (by rw [h']) h⟩)
end Go.Proofs.Ytglpjchpgjaanaa.Pure
/- The laws' marks in lists of whole numbers, from any number on. Condition: at most 2,000,000 elements. -/
namespace Go.Proofs.Ytglpjchpgjaanaa.Pure
open Go.RowKit Go.Proofs.YtglpjchpgjaanaaW.PrintWords Go.Proofs.YtglpjchpgjaanaaW.PrintLast Go.Proofs.Ytglpjchpgjaanaa.Q
set_option linter.unusedVariables false
set_option linter.unusedSimpArgs false
theorem markIntSc_ok (l : List Int) (c0 : Int) (h0 : 0 ≤ c0) (h1 : c0 ≤ 1000000000000) (hl : l.length ≤ 2000000) : Ok (fun k => laws_markIntS.f k l c0) (fun r => r.1 = c0 + l.length) := by
  unfold laws_markIntS.f
  refine Ok.range (fun (s : List Int × Int) i k => laws_markIntS.l0 k s.1 s.2 i) l.length (fun i s => s.1.length = l.length ∧ s.2 = c0 + i) _ ?_ ?_ (l, c0) ⟨rfl, by simp⟩
  · rintro i ⟨xs, c⟩ hi ⟨h2, h3⟩ ih
    simp only at h2 h3
    subst h3
    refine Ok.step (fun k => by simp only [laws_markIntS.l0]; rfl) (Ok.pos (by omega) (Ok.pos (by omega) ?_))
    rw [wrap_id (n := c0 + (i : Int) + 1) (by omega) (by omega), wrap_id (n := (i : Int) + 1) (by omega) (by omega)]
    exact ih (_, _) ⟨by simp [h2], by simp only; omega⟩
  · rintro ⟨xs, c⟩ ⟨h2, h3⟩
    simp only at h2 h3
    exact Ok.step (fun k => by simp only [laws_markIntS.l0]; rfl) (Ok.neg (by omega) (Ok.ret h3))
end Go.Proofs.Ytglpjchpgjaanaa.Pure
/- The program's TracesClean returns what the reference's returns, for all arguments. No conditions. -/
namespace Go.Proofs.Ytglpjchpgjaanaa.Pure
open Go.RowKit Go.Proofs.YtglpjchpgjaanaaW.PrintWords Go.Proofs.YtglpjchpgjaanaaW.PrintLast Go.Proofs.Ytglpjchpgjaanaa.Q
set_option linter.unusedVariables false
set_option linter.unusedSimpArgs false
theorem FnExactTracesClean (l : List S53) (hm : l.length ≤ maxLen) (p : List Int) (hmp : p.length ≤ maxLen) : ∃ k, laws_FnExactTracesClean.f k l p = some true := by
  apply Ok.rounds
  unfold laws_FnExactTracesClean.f
  refine Ok.ite (fun _ => Ok.ret rfl) fun hp0 => ?_
  have hp : p.length ≤ 2000000 := by omega
  rw [szUseS_eq l _ (by omega) (by omega) hm]
  refine Ok.val (Ok.ite (fun _ => Ok.ret rfl) fun h => ?_)
  have hl : l.length ≤ 1048576 := by
    split at h <;> omega
  have hg : l.length ≤ 2000000 := by omega
  have hl' : (l.map cvUse).length ≤ 2000000 := by simpa using hg
  refine Ok.bind (toUseS_ok l hg) ?_
  rintro _ rfl
  refine Ok.bind (toIntS_ok p hp) fun p1 hp1 => ?_
  rw [hp1]
  refine Ok.bind (sClean_ok _ p hl') ?_
  rintro ⟨r1, b1⟩ h1
  refine Ok.bind (toUseS_ok l hg) ?_
  rintro _ rfl
  refine Ok.bind (toIntS_ok p hp) fun p2 hp2 => ?_
  rw [hp2]
  have two : ∀ r, TrClean (l.map cvUse) p r → r = (r1, b1) := fun r h => h.eq h1
  have hr : r1.length ≤ 2000000 := Nat.le_trans h1.len hl'
  refine Ok.bind (iClean_ok _ p hl') fun r2 h2 => ?_
  rw [two r2 h2]
  simp only
  refine Ok.bind (eqUseS_ok r1 hr) ?_
  rintro _ rfl
  rw [show (b1 != b1) = false by simp]
  refine Ok.pos (by trivial) (Ok.step (fun k => by simp only [laws_FnExactTracesClean.j0]; rfl) (Ok.neg (by simp) (Ok.bind (toUseS_ok l hg) ?_)))
  rintro _ rfl
  refine Ok.bind (eqUseS_ok _ hl') ?_
  rintro _ rfl
  refine Ok.pos (by trivial) (Ok.bind (toIntS_ok p hp) fun p3 hp3 => ?_)
  rw [hp3]
  refine Ok.bind (eqIntS_ok p p hp) fun b hb => Ok.pos (hb.2 rfl) (Ok.bind (markUseS_ok _ 1 (by omega) (by omega) hl') fun m hmk => ?_)
  have hlm : (l.map cvUse).length = l.length := by simp
  refine Ok.bind (markIntSc_ok p m.1 (by omega) (by omega) hp) fun m2 hmk2 => Ok.neg (by omega) (Ok.bind (eqUseS_ok r1 hr) ?_)
  rintro _ rfl
  rw [show (b1 != b1) = false by simp]
  refine Ok.pos (by trivial) (Ok.step (fun k => by simp only [laws_FnExactTracesClean.j1]; rfl) (Ok.neg (by simp) (Ok.bind (markUse2_ok r1 hr) ?_)))
  rintro ⟨c, ys⟩ ⟨e1, e2, e3⟩
  simp only at e1 e2 e3 ⊢
  have held := heldUse_ok ys (by omega) (by rw [e2]; exact e3)
  rw [e2, ← e1] at held
  refine Ok.bind held ?_
  rintro _ rfl
  refine Ok.neg (by omega) (Ok.pos rfl (Ok.bind (toUseS_ok l hg) ?_))
  rintro _ rfl
  refine Ok.bind (toIntS_ok p hp) fun p4 hp4 => ?_
  rw [hp4]
  refine Ok.bind (iClean_ok _ p hl') fun r3 h3 => ?_
  rw [two r3 h3]
  simp only
  refine Ok.bind (eqUseS_ok r1 hr) ?_
  rintro _ rfl
  rw [show (b1 != b1) = false by simp]
  refine Ok.pos (by trivial) (Ok.step (fun k => by simp only [laws_FnExactTracesClean.j2]; rfl) (Ok.neg (by simp) (Ok.bind held ?_)))
  rintro _ rfl
  exact Ok.neg (by omega) (Ok.pos rfl (Ok.ret rfl))
end Go.Proofs.Ytglpjchpgjaanaa.Pure
