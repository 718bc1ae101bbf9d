/- The program's GuestMay returns what the reference's returns, for all arguments. No conditions. -/
import Derived.Test.YtgfclechgalpmaaWMore
import Derived.Test.YtgfclechgalpmaaQx1
import Derived.Test.YtgfclechgalpmaaQx8
import Derived.Test.YtgfclechgalpmaaQx2
import Derived.Test.YtgfclechgalpmaaQx9
import Derived.Test.YtgfclechgalpmaaQx10
import Derived.Test.YtgfclechgalpmaaQx12
/- Plain logic for printed functions: from some number of rounds on a function answers, and its answer fits. No conditions. -/
namespace Go.Proofs.Ytgfclechgalpmaa.Pure
open Go.RowKit Go.Proofs.YtgfclechgalpmaaW.PrintWords Go.Proofs.YtgfclechgalpmaaW.PrintLast

/-- g answers from some number of rounds on, and the answer is as Q says. -/
def Ok {α : Type} (g : Nat → Option α) (Q : α → Prop) : Prop := ∃ r, Ev g r ∧ Q r
theorem Ok.ret {α : Type} {r : α} {Q : α → Prop} (h : Q r) : Ok (fun _ => some r) Q := ⟨r, Ev.now r, h⟩
theorem Ok.of_eq {α : Type} {o : Option α} {r : α} {Q : α → Prop} (e : o = some r) (h : Q r) : Ok (fun _ => o) Q := by subst e; exact Ok.ret h
theorem Ok.bind {α β : Type} {g : Nat → Option α} {f : Nat → α → Option β} {P : α → Prop} {Q : β → Prop} (h : Ok g P) (k : ∀ a, P a → Ok (fun n => f n a) Q) : Ok (fun n => (g n).bind (f n)) Q := by
  obtain ⟨a, ha, hp⟩ := h
  obtain ⟨r, hr, hq⟩ := k a hp
  exact ⟨r, Ev.bind ha hr, hq⟩
theorem Ok.val {α β : Type} {a : α} {f : Nat → α → Option β} {Q : β → Prop} (h : Ok (fun n => f n a) Q) : Ok (fun n => (some a).bind (f n)) Q := h
theorem Ok.pos {α : Type} {c : Prop} [Decidable c] {t e : Nat → Option α} {Q : α → Prop} (hc : c) (h : Ok t Q) : Ok (fun n => if c then t n else e n) Q := by simpa only [if_pos hc] using h
theorem Ok.neg {α : Type} {c : Prop} [Decidable c] {t e : Nat → Option α} {Q : α → Prop} (hc : ¬ c) (h : Ok e Q) : Ok (fun n => if c then t n else e n) Q := by simpa only [if_neg hc] using h
theorem Ok.ite {α : Type} {c : Prop} [Decidable c] {t e : Nat → Option α} {Q : α → Prop} (h : c → Ok t Q) (k : ¬ c → Ok e Q) : Ok (fun n => if c then t n else e n) Q := by
  by_cases hc : c
  · exact Ok.pos hc (h hc)
  · exact Ok.neg hc (k hc)
theorem Ok.step {α : Type} {g f : Nat → Option α} {Q : α → Prop} (h : ∀ k, g (k + 1) = f k) (k : Ok f Q) : Ok g Q := by
  obtain ⟨r, hr, hq⟩ := k
  exact ⟨r, Ev.step h hr, hq⟩
theorem Ok.congr {α : Type} {g f : Nat → Option α} {Q : α → Prop} (h : ∀ k, g k = f k) (k : Ok f Q) : Ok g Q := by
  obtain ⟨r, hr, hq⟩ := k
  exact ⟨r, Ev.congr h hr, hq⟩
theorem Ok.mono {α : Type} {g : Nat → Option α} {P Q : α → Prop} (h : Ok g P) (k : ∀ a, P a → Q a) : Ok g Q := by
  obtain ⟨r, hr, hp⟩ := h
  exact ⟨r, hr, k r hp⟩
theorem Ok.and {α : Type} {g : Nat → Option α} {P Q : α → Prop} (h : Ok g P) (k : Ok g Q) : Ok g (fun a => P a ∧ Q a) := by
  obtain ⟨r, ⟨K, hr⟩, hp⟩ := h
  obtain ⟨r', ⟨K', hr'⟩, hq⟩ := k
  have h1 := hr (max K K') (by omega)
  have h2 := hr' (max K K') (by omega)
  obtain rfl : r = r' := by rw [h1] at h2; injection h2
  exact ⟨r, ⟨K, hr⟩, hp, hq⟩
theorem Ok.rounds {α : Type} {g : Nat → Option α} {r : α} (h : Ok g (· = r)) : ∃ k, g k = some r := by
  obtain ⟨_, hr, rfl⟩ := h
  exact hr.rounds
theorem Ok.eq {α : Type} {g : Nat → Option α} {r : α} {Q : α → Prop} (h : Ok g (· = r)) (q : Q r) : Ok g Q := h.mono fun _ e => by subst e; exact q
theorem wrap_id {n : Int} (h0 : -9223372036854775808 ≤ n) (h1 : n ≤ 9223372036854775807) : wrap64 n = n := by unfold wrap64; omega
theorem wf64 {n : Int} (h : (Lit.int .i64 n).wf = true) : -9223372036854775808 ≤ n ∧ n ≤ 9223372036854775807 := by
  simp [Lit.wf, IntKind.min, IntKind.max, IntKind.signed, IntKind.bits] at h
  omega
theorem wfu8 {n : Int} (h : (Lit.int .u8 n).wf = true) : 0 ≤ n ∧ n ≤ 255 := by
  simp [Lit.wf, IntKind.min, IntKind.max, IntKind.signed, IntKind.bits] at h
  omega
/-- A loop that counts an index up to n, with what else it carries in s. -/
theorem Ok.range {σ ρ : Type} (L : σ → Int → Nat → Option ρ) (n : Nat) (Inv : Nat → σ → Prop) (Q : ρ → Prop)
    (step : ∀ (i : Nat) (s : σ), i < n → Inv i s → (∀ s', Inv (i + 1) s' → Ok (L s' ((i : Int) + 1)) Q) → Ok (L s (i : Int)) Q)
    (last : ∀ s, Inv n s → Ok (L s (n : Int)) Q) : ∀ s, Inv 0 s → Ok (L s 0) Q := by
  have key : ∀ d i, i + d = n → ∀ s, Inv i s → Ok (L s (i : Int)) Q := by
    intro d
    induction d with
    | zero => intro i hi s hs; obtain rfl : i = n := (by omega); exact last s hs
    | succ d ih =>
      intro i hi s hs
      refine step i s (by omega) hs fun s' hs' => ?_
      have := ih (i + 1) (by omega) s' hs'
      rwa [show ((i + 1 : Nat) : Int) = (i : Int) + 1 by omega] at this
  exact fun s hs => key n 0 (by omega) s hs
/-- The same for a loop that counts down from n - 1. -/
theorem Ok.down {σ ρ : Type} (L : σ → Int → Nat → Option ρ) (n : Nat) (Inv : Nat → σ → Prop) (Q : ρ → Prop)
    (step : ∀ (i : Nat) (s : σ), i < n → Inv (i + 1) s → (∀ s', Inv i s' → Ok (L s' ((i : Int) - 1)) Q) → Ok (L s (i : Int)) Q)
    (last : ∀ s, Inv 0 s → Ok (L s (-1)) Q) : ∀ s, Inv n s → Ok (L s ((n : Int) - 1)) Q := by
  have key : ∀ i, i ≤ n → ∀ s, Inv i s → Ok (L s ((i : Int) - 1)) Q := by
    intro i
    induction i with
    | zero => intro _ s hs; exact last s hs
    | succ i ih =>
      intro hi s hs
      have := step i s (by omega) hs fun s' hs' => ih (by omega) s' hs'
      rwa [show ((i + 1 : Nat) : Int) - 1 = (i : Int) by omega]
  exact fun s hs => key n (Nat.le_refl _) s hs
theorem bool_of_iff {a b : Bool} {P : Prop} (h : a = true ↔ P) (k : b = true ↔ P) : a = b := by
  cases a <;> cases b <;> simp_all
theorem take_next {α : Type} {l : List α} {i : Nat} (d : α) (h : i < l.length) : l.take (i + 1) = l.take i ++ [l.getD i d] := by
  rw [List.take_succ_eq_append_getElem h, List.getD_eq_getElem?_getD, List.getElem?_eq_getElem h, Option.getD_some]
theorem getD_at {α : Type} (l : List α) (d : α) (i : Nat) (h : i < l.length) : l.getD i d = l[i] := by
  rw [List.getD_eq_getElem?_getD, List.getElem?_eq_getElem h, Option.getD_some]
theorem len_small {α : Type} {l : List α} (h : l.length ≤ maxLen) : (l.length : Int) ≤ 9223372036854775807 := by unfold maxLen at h; omega
end Go.Proofs.Ytgfclechgalpmaa.Pure
/- Ranges, and the bits of sets. No conditions. -/
namespace Go.Proofs.Ytgfclechgalpmaa.Pure
open Go.RowKit Go.Proofs.YtgfclechgalpmaaW.PrintWords Go.Proofs.YtgfclechgalpmaaW.PrintLast
set_option linter.unusedVariables false
set_option linter.unusedSimpArgs false

def inr (a lo hi : Int) : Bool := decide (lo ≤ a ∧ a ≤ hi)
theorem inr_iff (a lo hi : Int) : inr a lo hi = true ↔ lo ≤ a ∧ a ≤ hi := by simp [inr]
theorem bits_nat64 (a b : Nat) (ha : a < 256) (hb : b < 256) : Go.bits .and .i64 (a : Int) (b : Int) = ((a &&& b : Nat) : Int) ∧ Go.bits .or .i64 (a : Int) (b : Int) = ((a ||| b : Nat) : Int) :=
  Go.bits_nat .i64 8 (by decide) (fun n h0 h1 => by rw [IntKind.wrap_i64]; omega) a b ha hb
theorem set_nat {a : Int} (h : 0 ≤ a ∧ a ≤ 255) : ∃ n : Nat, a = (n : Int) ∧ n < 256 := ⟨a.toNat, by omega, by omega⟩
end Go.Proofs.Ytgfclechgalpmaa.Pure
/- The reference's ranges and sets. No conditions. -/
namespace Go.Proofs.Ytgfclechgalpmaa.Pure
open Go.RowKit Go.Proofs.YtgfclechgalpmaaW.PrintWords Go.Proofs.YtgfclechgalpmaaW.PrintLast Go.Proofs.Ytgfclechgalpmaa.Q
set_option linter.unusedVariables false
set_option linter.unusedSimpArgs false

theorem l6In_eq (a lo hi : Int) : spec_l6In.f a lo hi = some (inr a lo hi) := by
  unfold spec_l6In.f inr
  by_cases h : a ≥ lo
  · rw [if_pos h]; simp [h]
  · rw [if_neg h]; simp; omega
theorem l3Set_eq (a : Int) : spec_l3Set.f a = some (inr a 0 255) := by simp only [spec_l3Set.f, l6In_eq, Option.bind_some]
end Go.Proofs.Ytgfclechgalpmaa.Pure
/- The program's ranges, sets and kinds. No conditions. -/
namespace Go.Proofs.Ytgfclechgalpmaa.Pure
open Go.RowKit Go.Proofs.YtgfclechgalpmaaW.PrintWords Go.Proofs.YtgfclechgalpmaaW.PrintLast Go.Proofs.Ytgfclechgalpmaa.Q
set_option linter.unusedVariables false
set_option linter.unusedSimpArgs false

theorem within_eq (a lo hi : Int) : impl_within.f a lo hi = some (inr a lo hi) := by
  unfold impl_within.f inr
  by_cases h : a ≥ lo
  · rw [if_pos h]; simp [h]
  · rw [if_neg h]; simp; omega
theorem isSet_eq (a : Int) : impl_isSet.f a = some (inr a 0 255) := by simp only [impl_isSet.f, within_eq, Option.bind_some]
theorem isKind_eq (a : Int) : impl_isKind.f a = some (inr a 1 5) := by simp only [impl_isKind.f, within_eq, Option.bind_some]
end Go.Proofs.Ytgfclechgalpmaa.Pure
/- When a guest is valid. No conditions. -/
namespace Go.Proofs.Ytgfclechgalpmaa.Pure
open Go.RowKit Go.Proofs.YtgfclechgalpmaaW.PrintWords Go.Proofs.YtgfclechgalpmaaW.PrintLast Go.Proofs.Ytgfclechgalpmaa.Q
set_option linter.unusedVariables false
set_option linter.unusedSimpArgs false

def gB (a b c : Int) : Bool := inr a 1 99 && inr b 1 4 && inr c 0 255
theorem gB_iff (a b c : Int) : gB a b c = true ↔ (1 ≤ a ∧ a ≤ 99) ∧ (1 ≤ b ∧ b ≤ 4) ∧ 0 ≤ c ∧ c ≤ 255 := by simp [gB, inr_iff, and_assoc]
theorem sGuest_eq (a b c : Int) : spec_l12Guest.f a b c = some (gB a b c) := by
  unfold spec_l12Guest.f gB
  simp only [l6In_eq, l3Set_eq, Option.bind_some]
  cases inr a 1 99 <;> cases inr b 1 4 <;> rfl
theorem iGuest_eq (a b c : Int) : impl_guestValid.f a b c = some (gB a b c) := by
  unfold impl_guestValid.f gB
  simp only [within_eq, isSet_eq, Option.bind_some]
  cases inr a 1 99 <;> cases inr b 1 4 <;> rfl
end Go.Proofs.Ytgfclechgalpmaa.Pure
/- Diets: what DietAllows answers, in the program and in the reference. No conditions. -/
namespace Go.Proofs.Ytgfclechgalpmaa.Pure
open Go.RowKit Go.Proofs.YtgfclechgalpmaaW.PrintWords Go.Proofs.YtgfclechgalpmaaW.PrintLast Go.Proofs.Ytgfclechgalpmaa.Q
set_option linter.unusedVariables false
set_option linter.unusedSimpArgs false

def dietB (d k : Int) : Bool := decide (1 ≤ d ∧ d ≤ 4 ∧ 1 ≤ k ∧ k ≤ 5 ∧ (d = 2 → k ≤ 4) ∧ (d = 3 → k ≤ 3) ∧ (d = 4 → k ≤ 1))
theorem dietB_iff (d k : Int) : dietB d k = true ↔ 1 ≤ d ∧ d ≤ 4 ∧ 1 ≤ k ∧ k ≤ 5 ∧ (d = 2 → k ≤ 4) ∧ (d = 3 → k ≤ 3) ∧ (d = 4 → k ≤ 1) := by unfold dietB; exact decide_eq_true_iff
theorem last_eq (d : Int) (h : 1 ≤ d ∧ d ≤ 4) : ∃ m, spec_l12Last.f d = some m ∧ (d = 1 → m = 5) ∧ (d = 2 → m = 4) ∧ (d = 3 → m = 3) ∧ (d = 4 → m = 1) := by
  have : d = 1 ∨ d = 2 ∨ d = 3 ∨ d = 4 := by omega
  rcases this with rfl | rfl | rfl | rfl <;> exact ⟨_, rfl, by decide, by decide, by decide, by decide⟩
theorem sDiet_eq (d k : Int) : spec_DietAllows.f d k = some (dietB d k) := by
  unfold spec_DietAllows.f
  simp only [l6In_eq, Option.bind_some]
  cases h1 : inr d 1 4 with
  | false =>
    have : dietB d k = false := by
      rw [Bool.eq_false_iff]; intro h
      rw [dietB_iff] at h
      have : inr d 1 4 = true := (inr_iff _ _ _).2 ⟨h.1, h.2.1⟩
      rw [h1] at this; cases this
    rw [this]; rfl
  | true =>
    have hd := (inr_iff _ _ _).1 h1
    cases h2 : inr k 1 5 with
    | false =>
      have : dietB d k = false := by
        rw [Bool.eq_false_iff]; intro h
        rw [dietB_iff] at h
        have : inr k 1 5 = true := (inr_iff _ _ _).2 ⟨h.2.2.1, h.2.2.2.1⟩
        rw [h2] at this; cases this
      rw [this]; rfl
    | true =>
      have hk := (inr_iff _ _ _).1 h2
      obtain ⟨m, hm, m1, m2, m3, m4⟩ := last_eq d hd
      rw [if_pos rfl, if_pos rfl, hm]
      simp only [Option.bind_some, Option.some.injEq]
      have : (k ≤ m) ↔ dietB d k = true := by
        rw [dietB_iff]
        have : d = 1 ∨ d = 2 ∨ d = 3 ∨ d = 4 := by omega
        omega
      rw [Bool.eq_iff_iff, ← this, decide_eq_true_iff]
theorem iDiet_eq (d k : Int) : impl_DietAllows.f d k = some (dietB d k) := by
  unfold impl_DietAllows.f
  simp only [isKind_eq, Option.bind_some]
  cases h2 : inr k 1 5 with
  | false =>
    have : dietB d k = false := by
      rw [Bool.eq_false_iff]; intro h
      rw [dietB_iff] at h
      have : inr k 1 5 = true := (inr_iff _ _ _).2 ⟨h.2.2.1, h.2.2.2.1⟩
      rw [h2] at this; cases this
    rw [this]; rfl
  | true =>
    have hk := (inr_iff _ _ _).1 h2
    rw [if_pos rfl]
    have key : ∀ b : Bool, (b = true ↔ dietB d k = true) → b = dietB d k := fun b h => Bool.eq_iff_iff.2 h
    split
    · rename_i e; subst e
      exact congrArg some (key _ (by rw [dietB_iff]; simp; omega))
    split
    · rename_i e; subst e
      exact congrArg some (key _ (by rw [dietB_iff]; simp; omega))
    split
    · rename_i e; subst e
      split
      · rename_i e; subst e
        exact congrArg some (key _ (by rw [dietB_iff]; simp))
      · exact congrArg some (key _ (by rw [dietB_iff]; simp; omega))
    split
    · rename_i e; subst e
      exact congrArg some (key _ (by rw [dietB_iff]; simp; omega))
    · exact congrArg some (key _ (by rw [dietB_iff]; simp; omega))
end Go.Proofs.Ytgfclechgalpmaa.Pure
/- The weight of an allergen: two to the power of its number, up to 8. -/
namespace Go.Proofs.Ytgfclechgalpmaa.Pure
open Go.RowKit Go.Proofs.YtgfclechgalpmaaW.PrintWords Go.Proofs.YtgfclechgalpmaaW.PrintLast Go.Proofs.Ytgfclechgalpmaa.Q
set_option linter.unusedVariables false
set_option linter.unusedSimpArgs false

theorem pow_le (i : Nat) (h : i ≤ 8) : (1 : Int) ≤ 2 ^ i ∧ (2 : Int) ^ i ≤ 256 := by
  have h1 : 2 ^ i ≤ 2 ^ 8 := Nat.pow_le_pow_right (by decide) h
  have h2 : 0 < 2 ^ i := Nat.two_pow_pos i
  constructor
  · have : ((2 ^ i : Nat) : Int) = (2 : Int) ^ i := by simp
    omega
  · have : ((2 ^ i : Nat) : Int) = (2 : Int) ^ i := by simp
    omega
theorem weight_ok (n : Nat) (h : n ≤ 8) : Ok (fun k => spec_l3Weight.f k (n : Int)) (· = (2 : Int) ^ n) := by
  unfold spec_l3Weight.f
  refine Ok.range (fun (s : Int) i k => spec_l3Weight.l0 k (n : Int) s i) n (fun i s => s = 2 ^ i) _ ?_ ?_ 1 rfl
  · rintro i _ hi rfl ih
    have hp := pow_le i (by omega)
    refine Ok.step (fun k => by simp only [spec_l3Weight.l0]; rfl) (Ok.pos (by omega) ?_)
    rw [wrap_id (n := (i : Int) + 1) (by omega) (by omega), wrap_id (n := 2 * 2 ^ i) (by omega) (by omega)]
    exact ih _ (by rw [Int.pow_succ, Int.mul_comm])
  · rintro _ rfl
    exact Ok.step (fun k => by simp only [spec_l3Weight.l0]; rfl) (Ok.neg (by omega) (Ok.ret rfl))
end Go.Proofs.Ytgfclechgalpmaa.Pure
/- Does a set have an allergen? Conditions: the set is in the range 0 to 255, the allergen at most 8. -/
namespace Go.Proofs.Ytgfclechgalpmaa.Pure
open Go.RowKit Go.Proofs.YtgfclechgalpmaaW.PrintWords Go.Proofs.YtgfclechgalpmaaW.PrintLast Go.Proofs.Ytgfclechgalpmaa.Q
set_option linter.unusedVariables false
set_option linter.unusedSimpArgs false

theorem has_ok (a : Nat) (ha : a < 256) (i : Nat) (h : i ≤ 8) : Ok (fun k => spec_l3Has.f k (a : Int) (i : Int)) (· = a.testBit i) := by
  unfold spec_l3Has.f
  refine Ok.bind (weight_ok i h) ?_
  rintro _ rfl
  have hp := pow_le i h
  refine Ok.neg (by omega) (Ok.ret ?_)
  have e : ((2 : Int) ^ i) = ((2 ^ i : Nat) : Int) := by simp
  rw [e, Int.tdiv_eq_ediv_of_nonneg (by omega), ← Int.natCast_ediv]
  have hd : a / 2 ^ i ≤ a := Nat.div_le_self _ _
  generalize hq : a / 2 ^ i = q at hd
  rw [wrap_id (n := ((q : Nat) : Int)) (by omega) (by omega), Int.tmod_eq_emod_of_nonneg (by omega), Nat.testBit_eq_decide_div_mod_eq, hq]
  by_cases h1 : q % 2 = 1
  · rw [decide_eq_true h1, beq_iff_eq]; omega
  · rw [decide_eq_false h1, beq_eq_false_iff_ne]; omega
theorem mod_next (x i : Nat) : x % 2 ^ (i + 1) = x % 2 ^ i + (if x.testBit i = true then 2 ^ i else 0) := by
  rw [Nat.mod_pow_succ, Nat.testBit_eq_decide_div_mod_eq]
  have h := Nat.mod_two_eq_zero_or_one (x / 2 ^ i)
  rcases h with h | h <;> simp [h]
theorem cast_mod (x i : Nat) (hi : i ≤ 8) (hx : x < 256) : 0 ≤ ((x % 2 ^ i : Nat) : Int) ∧ ((x % 2 ^ i : Nat) : Int) ≤ 255 := by
  have := Nat.mod_le x (2 ^ i)
  omega
end Go.Proofs.Ytgfclechgalpmaa.Pure
/- The reference's common part of two sets. Conditions: sets in the range 0 to 255. -/
namespace Go.Proofs.Ytgfclechgalpmaa.Pure
open Go.RowKit Go.Proofs.YtgfclechgalpmaaW.PrintWords Go.Proofs.YtgfclechgalpmaaW.PrintLast Go.Proofs.Ytgfclechgalpmaa.Q
set_option linter.unusedVariables false
set_option linter.unusedSimpArgs false

theorem meet_ok (a b : Nat) (ha : a < 256) (hb : b < 256) : Ok (fun k => spec_l3Meet.f k (a : Int) (b : Int)) (· = ((a &&& b : Nat) : Int)) := by
  unfold spec_l3Meet.f
  have hab : a &&& b < 256 := Nat.and_lt_two_pow (n := 8) _ hb
  refine Ok.range (fun (s : Int) i k => spec_l3Meet.l0 k (a : Int) (b : Int) s i) 8 (fun i s => s = (((a &&& b) % 2 ^ i : Nat) : Int)) _ ?_ ?_ 0 (by simp [Nat.mod_one])
  · rintro i _ hi rfl ih
    have hr := cast_mod (a &&& b) i (by omega) hab
    have hp := pow_le i (by omega)
    have hn := mod_next (a &&& b) i
    have ew : wrap64 ((i : Int) + 1) = (i : Int) + 1 := wrap_id (by omega) (by omega)
    rw [Nat.testBit_and] at hn
    refine Ok.step (fun k => by simp only [spec_l3Meet.l0]; rfl) (Ok.pos (by omega) (Ok.bind (has_ok a ha i (by omega)) ?_))
    rintro _ rfl
    cases h1 : a.testBit i with
    | false =>
      refine Ok.neg (by simp) ?_
      rw [ew]
      exact ih _ (by rw [hn, h1]; simp)
    | true =>
      refine Ok.pos rfl (Ok.bind (has_ok b hb i (by omega)) ?_)
      rintro _ rfl
      cases h2 : b.testBit i with
      | false =>
        refine Ok.neg (by simp) ?_
        rw [ew]
        exact ih _ (by rw [hn, h2]; simp)
      | true =>
        refine Ok.pos rfl (Ok.bind (weight_ok i (by omega)) ?_)
        rintro _ rfl
        rw [ew, wrap_id (n := _ + 2 ^ i) (by omega) (by omega)]
        exact ih _ (by rw [hn, h1, h2]; simp)
  · rintro _ rfl
    refine Ok.step (fun k => by simp only [spec_l3Meet.l0]; rfl) (Ok.neg (by omega) (Ok.ret ?_))
    rw [Nat.mod_eq_of_lt hab]
end Go.Proofs.Ytgfclechgalpmaa.Pure
/- Who may eat what: GuestMay, in the program and in the reference. No conditions. -/
namespace Go.Proofs.Ytgfclechgalpmaa.Pure
open Go.RowKit Go.Proofs.YtgfclechgalpmaaW.PrintWords Go.Proofs.YtgfclechgalpmaaW.PrintLast Go.Proofs.Ytgfclechgalpmaa.Q
set_option linter.unusedVariables false
set_option linter.unusedSimpArgs false

def mayB (a b c s k : Int) : Bool := gB a b c && inr s 0 255 && decide (Go.bits .and .i64 c s = 0) && dietB b k
theorem iMay_eq (a b c s k : Int) : impl_GuestMay.f a b c s k = some (mayB a b c s k) := by
  unfold impl_GuestMay.f mayB
  simp only [iGuest_eq, isSet_eq, iDiet_eq, Option.bind_some]
  cases gB a b c <;> cases inr s 0 255 <;> by_cases h : Go.bits .and .i64 c s = 0 <;> simp [h]
theorem sMay_ok (a b c s k : Int) : Ok (fun n => spec_GuestMay.f n a b c s k) (· = mayB a b c s k) := by
  unfold spec_GuestMay.f mayB
  simp only [sGuest_eq, l3Set_eq, sDiet_eq, Option.bind_some]
  cases h1 : gB a b c with
  | false => exact Ok.neg (by simp) (Ok.ret (by simp))
  | true =>
    refine Ok.pos rfl ?_
    cases h2 : inr s 0 255 with
    | false => exact Ok.neg (by simp) (Ok.ret (by simp))
    | true =>
      refine Ok.pos rfl ?_
      cases h3 : dietB b k with
      | false => exact Ok.neg (by simp) (Ok.ret (by simp))
      | true =>
        refine Ok.pos rfl ?_
        obtain ⟨x, rfl, hx⟩ := set_nat ((gB_iff _ _ _).1 h1).2.2
        obtain ⟨y, rfl, hy⟩ := set_nat ((inr_iff _ _ _).1 h2)
        refine Ok.bind (meet_ok x y hx hy) ?_
        rintro _ rfl
        refine Ok.ret ?_
        rw [(bits_nat64 x y hx hy).1]
        simp only [Bool.true_and, Bool.and_true]
        rw [Bool.eq_iff_iff, decide_eq_true_iff, beq_iff_eq]
end Go.Proofs.Ytgfclechgalpmaa.Pure
/- The program's GuestMay returns what the reference's returns, for all arguments. No conditions. -/
namespace Go.Proofs.Ytgfclechgalpmaa.Pure
open Go.RowKit Go.Proofs.YtgfclechgalpmaaW.PrintWords Go.Proofs.YtgfclechgalpmaaW.PrintLast Go.Proofs.Ytgfclechgalpmaa.Q
set_option linter.unusedVariables false
set_option linter.unusedSimpArgs false
theorem FnExactGuestMay (a b c s : Int) (_ : (Lit.int .i64 s).wf = true) (d : Int) (_ : (Lit.int .i64 d).wf = true) : ∃ k, laws_FnExactGuestMay.f k a b c s d = some true := by
  apply Ok.rounds
  unfold laws_FnExactGuestMay.f
  simp only [laws_toGuest.f, Option.bind_some]
  refine Ok.bind (sMay_ok a b c s d) ?_
  rintro _ rfl
  simp only [iMay_eq, Option.bind_some]
  exact Ok.neg (by simp) (Ok.ret rfl)
end Go.Proofs.Ytgfclechgalpmaa.Pure
