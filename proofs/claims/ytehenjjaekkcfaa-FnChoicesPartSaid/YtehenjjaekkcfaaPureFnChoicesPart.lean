/- Choices may be missing: the law comes to true for every input. No conditions. -/
import Derived.Test.YtehenjjaekkcfaaWMore
import Derived.Test.YtehenjjaekkcfaaQx2
import Derived.Test.YtehenjjaekkcfaaQx4
import Derived.Test.YtehenjjaekkcfaaQx5
import Derived.Test.YtehenjjaekkcfaaQx6
/- Plain logic for printed functions: from some number of rounds on a function answers, and its answer fits. No conditions. -/
namespace Go.Proofs.Ytehenjjaekkcfaa.Pure
open Go.RowKit Go.Proofs.YtehenjjaekkcfaaW.PrintWords Go.Proofs.YtehenjjaekkcfaaW.PrintLast

/-- g answers from some number of rounds on, and the answer is as Q says. -/
def Ok {α : Type} (g : Nat → Option α) (Q : α → Prop) : Prop := ∃ r, Ev g r ∧ Q r
theorem Ok.ret {α : Type} {r : α} {Q : α → Prop} (h : Q r) : Ok (fun _ => some r) Q := ⟨r, Ev.now r, h⟩
theorem Ok.of_eq {α : Type} {o : Option α} {r : α} {Q : α → Prop} (e : o = some r) (h : Q r) : Ok (fun _ => o) Q := by subst e; exact Ok.ret h
theorem Ok.bind {α β : Type} {g : Nat → Option α} {f : Nat → α → Option β} {P : α → Prop} {Q : β → Prop} (h : Ok g P) (k : ∀ a, P a → Ok (fun n => f n a) Q) : Ok (fun n => (g n).bind (f n)) Q := by
  obtain ⟨a, ha, hp⟩ := h
  obtain ⟨r, hr, hq⟩ := k a hp
  exact ⟨r, Ev.bind ha hr, hq⟩
theorem Ok.val {α β : Type} {a : α} {f : Nat → α → Option β} {Q : β → Prop} (h : Ok (fun n => f n a) Q) : Ok (fun n => (some a).bind (f n)) Q := h
theorem Ok.pos {α : Type} {c : Prop} [Decidable c] {t e : Nat → Option α} {Q : α → Prop} (hc : c) (h : Ok t Q) : Ok (fun n => if c then t n else e n) Q := by simpa only [if_pos hc] using h
theorem Ok.neg {α : Type} {c : Prop} [Decidable c] {t e : Nat → Option α} {Q : α → Prop} (hc : ¬ c) (h : Ok e Q) : Ok (fun n => if c then t n else e n) Q := by simpa only [if_neg hc] using h
theorem Ok.ite {α : Type} {c : Prop} [Decidable c] {t e : Nat → Option α} {Q : α → Prop} (h : c → Ok t Q) (k : ¬ c → Ok e Q) : Ok (fun n => if c then t n else e n) Q := by
  by_cases hc : c
  · exact Ok.pos hc (h hc)
  · exact Ok.neg hc (k hc)
theorem Ok.step {α : Type} {g f : Nat → Option α} {Q : α → Prop} (h : ∀ k, g (k + 1) = f k) (k : Ok f Q) : Ok g Q := by
  obtain ⟨r, hr, hq⟩ := k
  exact ⟨r, Ev.step h hr, hq⟩
theorem Ok.congr {α : Type} {g f : Nat → Option α} {Q : α → Prop} (h : ∀ k, g k = f k) (k : Ok f Q) : Ok g Q := by
  obtain ⟨r, hr, hq⟩ := k
  exact ⟨r, Ev.congr h hr, hq⟩
theorem Ok.mono {α : Type} {g : Nat → Option α} {P Q : α → Prop} (h : Ok g P) (k : ∀ a, P a → Q a) : Ok g Q := by
  obtain ⟨r, hr, hp⟩ := h
  exact ⟨r, hr, k r hp⟩
theorem Ok.and {α : Type} {g : Nat → Option α} {P Q : α → Prop} (h : Ok g P) (k : Ok g Q) : Ok g (fun a => P a ∧ Q a) := by
  obtain ⟨r, ⟨K, hr⟩, hp⟩ := h
  obtain ⟨r', ⟨K', hr'⟩, hq⟩ := k
  have h1 := hr (max K K') (by omega)
  have h2 := hr' (max K K') (by omega)
  obtain rfl : r = r' := by rw [h1] at h2; injection h2
  exact ⟨r, ⟨K, hr⟩, hp, hq⟩
theorem Ok.rounds {α : Type} {g : Nat → Option α} {r : α} (h : Ok g (· = r)) : ∃ k, g k = some r := by
  obtain ⟨_, hr, rfl⟩ := h
  exact hr.rounds
theorem Ok.eq {α : Type} {g : Nat → Option α} {r : α} {Q : α → Prop} (h : Ok g (· = r)) (q : Q r) : Ok g Q := h.mono fun _ e => by subst e; exact q
theorem wrap_id {n : Int} (h0 : -9223372036854775808 ≤ n) (h1 : n ≤ 9223372036854775807) : wrap64 n = n := by unfold wrap64; omega
theorem wf64 {n : Int} (h : (Lit.int .i64 n).wf = true) : -9223372036854775808 ≤ n ∧ n ≤ 9223372036854775807 := by
  simp [Lit.wf, IntKind.min, IntKind.max, IntKind.signed, IntKind.bits] at h
  omega
theorem wfu8 {n : Int} (h : (Lit.int .u8 n).wf = true) : 0 ≤ n ∧ n ≤ 255 := by
  simp [Lit.wf, IntKind.min, IntKind.max, IntKind.signed, IntKind.bits] at h
  omega
/-- A loop that counts an index up to n, with what else it carries in s. -/
theorem Ok.range {σ ρ : Type} (L : σ → Int → Nat → Option ρ) (n : Nat) (Inv : Nat → σ → Prop) (Q : ρ → Prop)
    (step : ∀ (i : Nat) (s : σ), i < n → Inv i s → (∀ s', Inv (i + 1) s' → Ok (L s' ((i : Int) + 1)) Q) → Ok (L s (i : Int)) Q)
    (last : ∀ s, Inv n s → Ok (L s (n : Int)) Q) : ∀ s, Inv 0 s → Ok (L s 0) Q := by
  have key : ∀ d i, i + d = n → ∀ s, Inv i s → Ok (L s (i : Int)) Q := by
    intro d
    induction d with
    | zero => intro i hi s hs; obtain rfl : i = n := (by omega); exact last s hs
    | succ d ih =>
      intro i hi s hs
      refine step i s (by omega) hs fun s' hs' => ?_
      have := ih (i + 1) (by omega) s' hs'
      rwa [show ((i + 1 : Nat) : Int) = (i : Int) + 1 by omega] at this
  exact fun s hs => key n 0 (by omega) s hs
/-- The same for a loop that counts down from n - 1. -/
theorem Ok.down {σ ρ : Type} (L : σ → Int → Nat → Option ρ) (n : Nat) (Inv : Nat → σ → Prop) (Q : ρ → Prop)
    (step : ∀ (i : Nat) (s : σ), i < n → Inv (i + 1) s → (∀ s', Inv i s' → Ok (L s' ((i : Int) - 1)) Q) → Ok (L s (i : Int)) Q)
    (last : ∀ s, Inv 0 s → Ok (L s (-1)) Q) : ∀ s, Inv n s → Ok (L s ((n : Int) - 1)) Q := by
  have key : ∀ i, i ≤ n → ∀ s, Inv i s → Ok (L s ((i : Int) - 1)) Q := by
    intro i
    induction i with
    | zero => intro _ s hs; exact last s hs
    | succ i ih =>
      intro hi s hs
      have := step i s (by omega) hs fun s' hs' => ih (by omega) s' hs'
      rwa [show ((i + 1 : Nat) : Int) - 1 = (i : Int) by omega]
  exact fun s hs => key n (Nat.le_refl _) s hs
theorem bool_of_iff {a b : Bool} {P : Prop} (h : a = true ↔ P) (k : b = true ↔ P) : a = b := by
  cases a <;> cases b <;> simp_all
theorem take_next {α : Type} {l : List α} {i : Nat} (d : α) (h : i < l.length) : l.take (i + 1) = l.take i ++ [l.getD i d] := by
  rw [List.take_succ_eq_append_getElem h, List.getD_eq_getElem?_getD, List.getElem?_eq_getElem h, Option.getD_some]
theorem getD_at {α : Type} (l : List α) (d : α) (i : Nat) (h : i < l.length) : l.getD i d = l[i] := by
  rw [List.getD_eq_getElem?_getD, List.getElem?_eq_getElem h, Option.getD_some]
theorem len_small {α : Type} {l : List α} (h : l.length ≤ maxLen) : (l.length : Int) ≤ 9223372036854775807 := by unfold maxLen at h; omega
end Go.Proofs.Ytehenjjaekkcfaa.Pure
/- Ranges, and the bits of sets. No conditions. -/
namespace Go.Proofs.Ytehenjjaekkcfaa.Pure
open Go.RowKit Go.Proofs.YtehenjjaekkcfaaW.PrintWords Go.Proofs.YtehenjjaekkcfaaW.PrintLast
set_option linter.unusedVariables false
set_option linter.unusedSimpArgs false

def inr (a lo hi : Int) : Bool := decide (lo ≤ a ∧ a ≤ hi)
theorem inr_iff (a lo hi : Int) : inr a lo hi = true ↔ lo ≤ a ∧ a ≤ hi := by simp [inr]
theorem bits_nat64 (a b : Nat) (ha : a < 256) (hb : b < 256) : Go.bits .and .i64 (a : Int) (b : Int) = ((a &&& b : Nat) : Int) ∧ Go.bits .or .i64 (a : Int) (b : Int) = ((a ||| b : Nat) : Int) :=
  Go.bits_nat .i64 8 (by decide) (fun n h0 h1 => by rw [IntKind.wrap_i64]; omega) a b ha hb
theorem set_nat {a : Int} (h : 0 ≤ a ∧ a ≤ 255) : ∃ n : Nat, a = (n : Int) ∧ n < 256 := ⟨a.toNat, by omega, by omega⟩
end Go.Proofs.Ytehenjjaekkcfaa.Pure
/- The reference's ranges and sets. No conditions. -/
namespace Go.Proofs.Ytehenjjaekkcfaa.Pure
open Go.RowKit Go.Proofs.YtehenjjaekkcfaaW.PrintWords Go.Proofs.YtehenjjaekkcfaaW.PrintLast Go.Proofs.Ytehenjjaekkcfaa.Q
set_option linter.unusedVariables false
set_option linter.unusedSimpArgs false

theorem l6In_eq (a lo hi : Int) : spec_l6In.f a lo hi = some (inr a lo hi) := by
  unfold spec_l6In.f inr
  by_cases h : a ≥ lo
  · rw [if_pos h]; simp [h]
  · rw [if_neg h]; simp; omega
theorem l3Set_eq (a : Int) : spec_l3Set.f a = some (inr a 0 255) := by simp only [spec_l3Set.f, l6In_eq, Option.bind_some]
end Go.Proofs.Ytehenjjaekkcfaa.Pure
/- Lists, read and written element by element. No conditions. -/
namespace Go.Proofs.Ytehenjjaekkcfaa.Pure
open Go.RowKit Go.Proofs.YtehenjjaekkcfaaW.PrintWords Go.Proofs.YtehenjjaekkcfaaW.PrintLast
set_option linter.unusedVariables false
set_option linter.unusedSimpArgs false

theorem rd_nat (l : List Int) (i : Nat) : rd l (i : Int) = l.getD i 0 := rfl
theorem eq_of_getD {α : Type} {a b : List α} (d : α) (h : a.length = b.length) (k : ∀ i, i < a.length → a.getD i d = b.getD i d) : a = b := by
  refine List.ext_getElem h fun i h1 h2 => ?_
  have := k i h1
  rwa [getD_at _ _ _ h1, getD_at _ _ _ h2] at this
theorem getD_set {α : Type} (l : List α) (d v : α) (i j : Nat) (hi : i < l.length) : (l.set i v).getD j d = if j = i then v else l.getD j d := by
  rw [List.getD_eq_getElem?_getD, List.getElem?_set]
  by_cases h : i = j
  · subst h; simp [hi]
  · rw [if_neg h, if_neg (fun e => h e.symm), ← List.getD_eq_getElem?_getD]
theorem getD_snoc {α : Type} (l : List α) (d v : α) (j : Nat) : (l ++ [v]).getD j d = if j = l.length then v else l.getD j d := by
  rw [List.getD_eq_getElem?_getD, List.getElem?_append]
  by_cases h : j < l.length
  · rw [if_pos h, if_neg (by omega), ← List.getD_eq_getElem?_getD]
  · rw [if_neg h]
    by_cases e : j = l.length
    · subst e; simp
    · rw [if_neg e, List.getElem?_eq_none (by simp; omega), List.getD_eq_getElem?_getD, List.getElem?_eq_none (by omega)]
theorem skip_getD {α : Type} (l : List α) (d : α) (k i : Nat) (hk : k < l.length) : (l.take k ++ l.drop (k + 1)).getD i d = if i < k then l.getD i d else l.getD (i + 1) d := by
  simp only [List.getD_eq_getElem?_getD, List.getElem?_append, List.length_take]
  by_cases h : i < k
  · rw [if_pos h, if_pos (by omega), List.getElem?_take, if_pos h]
  · rw [if_neg h, if_neg (by omega), List.getElem?_drop, show k + 1 + (i - min k l.length) = i + 1 by omega]
theorem skip_len {α : Type} (l : List α) (k : Nat) (hk : k < l.length) : (l.take k ++ l.drop (k + 1)).length = l.length - 1 := by simp; omega
end Go.Proofs.Ytehenjjaekkcfaa.Pure
/- When choices are valid, in the program and in the reference. Condition: at most 2,000,000. -/
namespace Go.Proofs.Ytehenjjaekkcfaa.Pure
open Go.RowKit Go.Proofs.YtehenjjaekkcfaaW.PrintWords Go.Proofs.YtehenjjaekkcfaaW.PrintLast Go.Proofs.Ytehenjjaekkcfaa.Q
set_option linter.unusedVariables false
set_option linter.unusedSimpArgs false
abbrev Chc := S32
def cAt (l : List Chc) (i : Nat) : Chc := l.getD i z32
theorem cAt_rd (l : List Chc) (i : Nat) : rd_T32 l (i : Int) = cAt l i := rfl
def cB (x : Chc) : Bool := inr x.f0 0 255 && inr x.f1 1 5 && inr x.f2 0 10
theorem cB_iff (x : Chc) : cB x = true ↔ (0 ≤ x.f0 ∧ x.f0 ≤ 255) ∧ (1 ≤ x.f1 ∧ x.f1 ≤ 5) ∧ 0 ≤ x.f2 ∧ x.f2 ≤ 10 := by simp [cB, inr_iff, and_assoc]
theorem bad_eq (x : Chc) : impl_ChoicesValid.bad x = !cB x := by
  unfold impl_ChoicesValid.bad
  by_cases h0 : 0 ≤ x.f0 ∧ x.f0 ≤ 255
  · rw [if_pos h0]
    by_cases h1 : 1 ≤ x.f1 ∧ x.f1 ≤ 5
    · rw [if_pos h1]
      simp [cB, inr, h0, h1]
    · rw [if_neg h1]
      simp [cB, inr, h1]
  · rw [if_neg h0]
    simp [cB, inr, h0]
def CV (l : List Chc) : Prop := (1 ≤ l.length ∧ l.length ≤ 4) ∧ ∀ i, i < l.length → cB (cAt l i) = true
theorem CV_iff (l : List Chc) : CV l ↔ (1 ≤ l.length ∧ l.length ≤ 4) ∧ ∀ x ∈ l, cB x = true := by
  unfold CV
  refine and_congr_right fun _ => ⟨fun h x hx => ?_, fun h i hi => ?_⟩
  · obtain ⟨j, hj, rfl⟩ := List.mem_iff_getElem.1 hx
    have := h j hj
    unfold cAt at this
    rwa [getD_at _ _ _ hj] at this
  · unfold cAt
    rw [getD_at _ _ _ hi]
    exact h _ (List.getElem_mem hi)
theorem iChoices_eq (l : List Chc) : ∃ b, impl_ChoicesValid.f l = some b ∧ (b = true ↔ CV l) := by
  unfold impl_ChoicesValid.f
  by_cases h : 1 ≤ (l.length : Int) ∧ (l.length : Int) ≤ 4
  · rw [if_pos h]
    refine ⟨_, rfl, ?_⟩
    rw [CV_iff]
    simp only [Bool.not_eq_true', List.any_eq_false, bad_eq]
    constructor
    · intro h'; exact ⟨by omega, fun x hx => by simpa using h' x hx⟩
    · intro h' x hx; simp [h'.2 x hx]
  · rw [if_neg h]
    exact ⟨_, rfl, fun h' => (by cases h'), fun h' => absurd h'.1 (by omega)⟩
theorem sChoices_ok (l : List Chc) (hl : l.length ≤ 2000000) : Ok (fun k => spec_ChoicesValid.f k l) (fun r => r = true ↔ CV l) := by
  unfold spec_ChoicesValid.f
  refine Ok.range (fun (_ : Unit) i k => spec_ChoicesValid.l0 k l i) l.length (fun i _ => ∀ j, j < i → cB (cAt l j) = true) _ ?_ ?_ () (fun j hj => absurd hj (by omega))
  · intro i _ hi hinv ih
    have ew : wrap64 ((i : Int) + 1) = (i : Int) + 1 := wrap_id (by omega) (by omega)
    refine Ok.step (fun k => by simp only [spec_ChoicesValid.l0]; rfl) (Ok.pos (by omega) (Ok.pos (by omega) ?_))
    simp only [l3Set_eq, l6In_eq, Option.bind_some, ew, cAt_rd]
    have bad : cB (cAt l i) = false → Ok (fun _ => some false) (fun r : Bool => r = true ↔ CV l) := fun h => Ok.ret ⟨fun h' => (by cases h'), fun h' => by rw [h'.2 i hi] at h; cases h⟩
    refine Ok.ite (fun h1 => Ok.ite (fun h2 => Ok.ite (fun h3 => ih () fun j hj => ?_) (fun h => bad ?_)) (fun h => bad ?_)) (fun h => bad ?_)
    · rcases Nat.lt_succ_iff_lt_or_eq.1 hj with h4 | rfl
      · exact hinv j h4
      · simp [cB, h1, h2, h3]
    · simp [cB, Bool.not_eq_true _ ▸ h]
    · simp [cB, Bool.not_eq_true _ ▸ h]
    · simp [cB, Bool.not_eq_true _ ▸ h]
  · intro _ hinv
    refine Ok.step (fun k => by simp only [spec_ChoicesValid.l0]; rfl) (Ok.neg (by omega) ?_)
    simp only [l6In_eq, Option.bind_some]
    refine Ok.ret ?_
    rw [inr_iff]
    exact ⟨fun h => ⟨by omega, hinv⟩, fun h => by have := h.1; omega⟩
end Go.Proofs.Ytehenjjaekkcfaa.Pure
/- The reader of draws: each pick answers a number in its range and goes one place on. Condition: the bytes are bytes. -/
namespace Go.Proofs.Ytehenjjaekkcfaa.Pure
open Go.RowKit Go.Proofs.YtehenjjaekkcfaaW.PrintWords Go.Proofs.YtehenjjaekkcfaaW.PrintLast Go.Proofs.Ytehenjjaekkcfaa.Q
set_option linter.unusedVariables false
set_option linter.unusedSimpArgs false

def Bytes (b : List Int) : Prop := ∀ x ∈ b, 0 ≤ x ∧ x ≤ 255
theorem rd_byte {b : List Int} (h : Bytes b) (i : Int) : 0 ≤ rd b i ∧ rd b i ≤ 255 := by
  unfold rd
  rw [List.getD_eq_getElem?_getD]
  by_cases hi : i.toNat < b.length
  · rw [List.getElem?_eq_getElem hi]
    exact h _ (List.getElem_mem hi)
  · rw [List.getElem?_eq_none (by omega)]
    simp
theorem xor_nonneg (x y : Int) (hx : 0 ≤ x) (hx' : x < 4611686018427387904) (hy : 0 ≤ y) (hy' : y < 4611686018427387904) : 0 ≤ Go.bits .xor .i64 x y := by
  obtain ⟨a, rfl⟩ := Int.eq_ofNat_of_zero_le hx
  obtain ⟨b, rfl⟩ := Int.eq_ofNat_of_zero_le hy
  have ha : a < 2 ^ 62 := by omega
  have hb : b < 2 ^ 62 := by omega
  have hx := Nat.xor_lt_two_pow ha hb
  have ha' : a % 2 ^ 64 = a := Nat.mod_eq_of_lt (by omega)
  have hb' : b % 2 ^ 64 = b := Nat.mod_eq_of_lt (by omega)
  show 0 ≤ IntKind.i64.wrap ((BitVec.ofInt 64 (a : Int) ^^^ BitVec.ofInt 64 (b : Int)).toNat : Int)
  rw [IntKind.wrap_i64]
  simp only [BitVec.ofInt_natCast, BitVec.toNat_xor, BitVec.toNat_ofNat, ha', hb']
  omega
theorem mix_range (r1 r2 p t : Int) (h1 : 0 ≤ r1 ∧ r1 ≤ 255) (h2 : 0 ≤ r2 ∧ r2 ≤ 255) (hp : 0 ≤ p ∧ p ≤ 1099511627776) (ht : 0 ≤ t ∧ t ≤ 1099511627776) :
    wrap64 ((wrap64 ((wrap64 ((wrap64 ((wrap64 r1) * 131)) + (wrap64 ((wrap64 r2) * 1117)))) + (wrap64 (p * 29)))) + (wrap64 ((wrap64 t) * 53))) = r1 * 131 + r2 * 1117 + p * 29 + t * 53 := by
  rw [wrap_id (n := r1) (by omega) (by omega), wrap_id (n := r2) (by omega) (by omega), wrap_id (n := t) (by omega) (by omega)]
  rw [wrap_id (n := r1 * 131) (by omega) (by omega), wrap_id (n := r2 * 1117) (by omega) (by omega), wrap_id (n := p * 29) (by omega) (by omega), wrap_id (n := t * 53) (by omega) (by omega)]
  rw [wrap_id (n := r1 * 131 + r2 * 1117) (by omega) (by omega), wrap_id (n := r1 * 131 + r2 * 1117 + p * 29) (by omega) (by omega), wrap_id (by omega) (by omega)]
theorem tmod_range (x n : Int) (hx : 0 ≤ x) (hn : 1 ≤ n) : 0 ≤ Int.tmod x n ∧ Int.tmod x n < n :=
  ⟨Int.tmod_nonneg _ hx, Int.tmod_lt_of_pos _ (by omega)⟩
theorem tdiv_range (x n : Int) (hx : 0 ≤ x) (hn : 1 ≤ n) : 0 ≤ Int.tdiv x n ∧ Int.tdiv x n ≤ x := by
  refine ⟨Int.tdiv_nonneg hx (by omega), ?_⟩
  rw [Int.tdiv_eq_ediv_of_nonneg hx]
  exact Int.ediv_le_self _ hx

/-- What a pick says. -/
def Picked (p n : Int) (r : Int × Int) : Prop := r.2 = p + 1 ∧ 0 ≤ r.1 ∧ (1 ≤ n → r.1 < n) ∧ (n < 1 → r.1 = 0)
theorem pick_ok (b : List Int) (p n : Int) (hb : Bytes b) (hp : 0 ≤ p) (hp' : p ≤ 1099511627776) (hn : n ≤ 1000000000) : Ok (fun k => spec_l6Rd_pick.f k b p n) (Picked p n) := by
  unfold spec_l6Rd_pick.f
  rw [wrap_id (n := p + 1) (by omega) (by omega)]
  by_cases h1 : n < 1
  · refine Ok.pos h1 (Ok.step (fun k => by simp only [spec_l6Rd_pick.j0, if_true]; rfl) (Ok.ret ⟨rfl, by simp, fun h => absurd h (by omega), fun _ => rfl⟩))
  refine Ok.neg h1 ?_
  by_cases hl : (b.length : Int) = 0
  · rw [show ((b.length : Int) == 0) = true by simpa using hl]
    refine Ok.step (fun k => by simp only [spec_l6Rd_pick.j0, if_true]; rfl) (Ok.ret ⟨rfl, by simp, fun h => by omega, fun _ => rfl⟩)
  rw [show ((b.length : Int) == 0) = false by simpa using hl]
  have hlp : 1 ≤ (b.length : Int) := by omega
  refine Ok.step (f := _) (fun k => by simp only [spec_l6Rd_pick.j0]; rfl) ?_
  refine Ok.neg (by simp) ?_
  rw [show p + 1 - 1 = p by omega, wrap_id (n := p) (by omega) (by omega)]
  by_cases hlt : p < (b.length : Int)
  · refine Ok.pos hlt (Ok.pos hp (Ok.neg (by omega) (Ok.ret ?_)))
    have hr := rd_byte hb p
    rw [wrap_id (n := rd b p) (by omega) (by omega)]
    have := tmod_range (rd b p) n hr.1 (by omega)
    exact ⟨rfl, this.1, fun _ => this.2, fun h => absurd h h1⟩
  · have hm := tmod_range p b.length hp hlp
    have hq : wrap64 ((wrap64 (p * 7)) + 3) = p * 7 + 3 := by
      rw [wrap_id (n := p * 7) (by omega) (by omega), wrap_id (by omega) (by omega)]
    have hm2 := tmod_range (p * 7 + 3) b.length (by omega) hlp
    have ht := tdiv_range p b.length hp hlp
    rw [hq]
    refine Ok.neg hlt (Ok.neg hl (Ok.pos hm.1 (Ok.pos hm.2 (Ok.pos hm2.1 (Ok.pos hm2.2 (Ok.neg (by omega) (Ok.ret ?_)))))))
    rw [mix_range _ _ p _ (rd_byte hb _) (rd_byte hb _) ⟨hp, hp'⟩ ⟨ht.1, by omega⟩]
    have a1 := rd_byte hb (Int.tmod p b.length)
    have a2 := rd_byte hb (Int.tmod (p * 7 + 3) b.length)
    generalize rd b (Int.tmod p b.length) = r1 at *
    generalize rd b (Int.tmod (p * 7 + 3) b.length) = r2 at *
    generalize Int.tdiv p b.length = t at *
    have hx : 0 ≤ r1 * 131 + r2 * 1117 + p * 29 + t * 53 := by omega
    have hx' : r1 * 131 + r2 * 1117 + p * 29 + t * 53 < 4611686018427387904 := by omega
    generalize r1 * 131 + r2 * 1117 + p * 29 + t * 53 = x at *
    have h64 := tdiv_range x 64 hx (by omega)
    rw [wrap_id (n := Int.tdiv x 64) (by omega) (by omega)]
    have := tmod_range (Go.bits .xor .i64 x (Int.tdiv x 64)) n (xor_nonneg _ _ hx hx' h64.1 (by omega)) (by omega)
    exact ⟨rfl, this.1, fun _ => this.2, fun h => absurd h h1⟩
/-- The same, the number of answers at least one. -/
def Pk (p n : Int) (r : Int × Int) : Prop := r.2 = p + 1 ∧ 0 ≤ r.1 ∧ r.1 < n
theorem pick_in (b : List Int) (p n : Int) (hb : Bytes b) (hp : 0 ≤ p) (hp' : p ≤ 1099511627776) (hn : 1 ≤ n) (hn' : n ≤ 1000000000) : Ok (fun k => spec_l6Rd_pick.f k b p n) (Pk p n) :=
  (pick_ok b p n hb hp hp' hn').mono fun _ h => ⟨h.1, h.2.1, h.2.2.1 hn⟩
/-- a place that went on by some, not far -/
def On (p : Int) (m : Int) (q : Int) : Prop := p ≤ q ∧ q ≤ p + m
theorem open_ok (l : List Int) (hl : ∀ x ∈ l, (Lit.int .u8 x).wf = true) : ∃ b, spec_l6Open.f l = some (b, 0) ∧ Bytes b := by
  have hb : Bytes l := fun x hx => wfu8 (hl x hx)
  unfold spec_l6Open.f
  by_cases h : (l.length : Int) > 2000
  · rw [if_pos h, if_pos (by omega)]
    exact ⟨_, rfl, fun x hx => hb x (List.mem_of_mem_take hx)⟩
  · rw [if_neg h]
    exact ⟨_, rfl, hb⟩
end Go.Proofs.Ytehenjjaekkcfaa.Pure
/- The weight of an allergen: two to the power of its number, up to 8. -/
namespace Go.Proofs.Ytehenjjaekkcfaa.Pure
open Go.RowKit Go.Proofs.YtehenjjaekkcfaaW.PrintWords Go.Proofs.YtehenjjaekkcfaaW.PrintLast Go.Proofs.Ytehenjjaekkcfaa.Q
set_option linter.unusedVariables false
set_option linter.unusedSimpArgs false

theorem pow_le (i : Nat) (h : i ≤ 8) : (1 : Int) ≤ 2 ^ i ∧ (2 : Int) ^ i ≤ 256 := by
  have h1 : 2 ^ i ≤ 2 ^ 8 := Nat.pow_le_pow_right (by decide) h
  have h2 : 0 < 2 ^ i := Nat.two_pow_pos i
  constructor
  · have : ((2 ^ i : Nat) : Int) = (2 : Int) ^ i := by simp
    omega
  · have : ((2 ^ i : Nat) : Int) = (2 : Int) ^ i := by simp
    omega
theorem weight_ok (n : Nat) (h : n ≤ 8) : Ok (fun k => spec_l3Weight.f k (n : Int)) (· = (2 : Int) ^ n) := by
  unfold spec_l3Weight.f
  refine Ok.range (fun (s : Int) i k => spec_l3Weight.l0 k (n : Int) s i) n (fun i s => s = 2 ^ i) _ ?_ ?_ 1 rfl
  · rintro i _ hi rfl ih
    have hp := pow_le i (by omega)
    refine Ok.step (fun k => by simp only [spec_l3Weight.l0]; rfl) (Ok.pos (by omega) ?_)
    rw [wrap_id (n := (i : Int) + 1) (by omega) (by omega), wrap_id (n := 2 * 2 ^ i) (by omega) (by omega)]
    exact ih _ (by rw [Int.pow_succ, Int.mul_comm])
  · rintro _ rfl
    exact Ok.step (fun k => by simp only [spec_l3Weight.l0]; rfl) (Ok.neg (by omega) (Ok.ret rfl))
end Go.Proofs.Ytehenjjaekkcfaa.Pure
/- Drawn choices: at most 5. Condition: the bytes are bytes. -/
namespace Go.Proofs.Ytehenjjaekkcfaa.Pure
open Go.RowKit Go.Proofs.YtehenjjaekkcfaaW.PrintWords Go.Proofs.YtehenjjaekkcfaaW.PrintLast Go.Proofs.Ytehenjjaekkcfaa.Q
set_option linter.unusedVariables false
set_option linter.unusedSimpArgs false
theorem l91Choices_ok (b : List Int) (p : Int) (hB : Bytes b) (hp : 0 ≤ p) (hp' : p ≤ 100000) : Ok (fun k => spec_l91Choices.f k b p) (fun r => r.1.length ≤ 5 ∧ On p 40 r.2) := by
  unfold spec_l91Choices.f
  simp only [Option.bind_some]
  have fin : ∀ (xs : List S32) (n : Nat) (c : Bool) (q : Int), xs.length = n → n ≤ 5 → (c = true → 0 < n) → p ≤ q → q ≤ p + 30 → Ok (fun k => spec_l91Choices.j2 k xs (n : Int) c b q) (fun r => r.1.length ≤ 5 ∧ On p 40 r.2) := by
    intro xs n c q hx hn hc hq hq'
    refine Ok.step (fun k => by simp only [spec_l91Choices.j2]; rfl) (Ok.ite (fun h => ?_) (fun _ => Ok.ret ⟨by simp only; omega, by constructor <;> simp only <;> omega⟩))
    have := hc h
    refine Ok.bind (pick_in b q n hB (by omega) (by omega) (by omega) (by omega)) ?_
    rintro ⟨v, q2⟩ ⟨rfl, h0, h1⟩
    simp only [Option.bind_some] at h0 h1 ⊢
    refine Ok.bind (pick_in b _ 3 hB (by omega) (by omega) (by omega) (by omega)) ?_
    rintro ⟨v3, q3⟩ ⟨rfl, h4, h5⟩
    simp only at h4 h5 ⊢
    exact Ok.pos h4 (Ok.pos (by simpa using h5) (Ok.pos h0 (Ok.pos (by omega) (Ok.ret ⟨by simp only [List.length_set]; omega, by constructor <;> simp only <;> omega⟩))))
  have loop : ∀ (n : Nat) (q : Int), n ≤ 5 → p ≤ q → q ≤ p + 3 → Ok (fun k => spec_l91Choices.j0 k [] (n : Int) b q) (fun r => r.1.length ≤ 5 ∧ On p 40 r.2) := by
    intro n q hn hq hq'
    refine Ok.step (fun k => by simp only [spec_l91Choices.j0]; rfl) ?_
    refine Ok.range (fun (s : List S32 × Int) i k => spec_l91Choices.l0 k s.1 (n : Int) i b s.2) n (fun i s => s.1.length = i ∧ q ≤ s.2 ∧ s.2 ≤ q + 4 * i) _ ?_ ?_ ([], q) (by simp)
    · rintro i ⟨xs, q1⟩ hi ⟨h1, h2, h3⟩ ih
      simp only at h1 h2 h3 ih ⊢
      have ew : wrap64 ((i : Int) + 1) = (i : Int) + 1 := wrap_id (by omega) (by omega)
      refine Ok.step (fun k => by simp only [spec_l91Choices.l0]; rfl) (Ok.pos (by omega) (Ok.bind (pick_in b q1 5 hB (by omega) (by omega) (by omega) (by omega)) ?_))
      rintro ⟨v, q2⟩ ⟨rfl, h4, h5⟩
      simp only at h4 h5 ⊢
      refine Ok.bind (pick_in b _ 5 hB (by omega) (by omega) (by omega) (by omega)) ?_
      rintro ⟨v2, q2⟩ ⟨rfl, h6, h7⟩
      simp only at h6 h7 ⊢
      refine Ok.bind (pick_in b _ 2 hB (by omega) (by omega) (by omega) (by omega)) ?_
      rintro ⟨v3, q2⟩ ⟨rfl, h8, h9⟩
      simp only at h8 h9 ⊢
      rw [ew]
      refine Ok.ite (fun _ => Ok.bind (pick_in b _ 8 hB (by omega) (by omega) (by omega) (by omega)) ?_) (fun _ => Ok.pos (by omega) (ih (_, _) ⟨by simp [h1], by simp only; omega, by simp only; omega⟩))
      rintro ⟨v4, q2⟩ ⟨rfl, h10, h11⟩
      simp only at h10 h11 ⊢
      obtain ⟨m, rfl⟩ : ∃ m : Nat, v4 = (m : Int) := ⟨v4.toNat, by omega⟩
      refine Ok.bind (weight_ok m (by omega)) fun w _ => Ok.pos (by omega) (ih (_, _) ⟨by simp [h1], by simp only; omega, by simp only; omega⟩)
    · rintro ⟨xs, q1⟩ ⟨h1, h2, h3⟩
      simp only at h1 h2 h3 ⊢
      refine Ok.step (fun k => by simp only [spec_l91Choices.l0]; rfl) (Ok.neg (by omega) (Ok.ite (fun hn0 => Ok.bind (pick_in b q1 24 hB (by omega) (by omega) (by omega) (by omega)) ?_) (fun _ => fin xs n false q1 h1 hn (fun h => (by cases h)) (by omega) (by omega))))
      rintro ⟨v4, q2⟩ ⟨rfl, h10, h11⟩
      simp only at h10 h11 ⊢
      exact fin xs n _ _ h1 hn (fun _ => by omega) (by omega) (by omega)
  refine Ok.bind (pick_in b p 4 hB (by omega) (by omega) (by omega) (by omega)) ?_
  rintro ⟨v, q⟩ ⟨rfl, h0, h1⟩
  simp only at h0 h1 ⊢
  refine Ok.bind (pick_in b _ 24 hB (by omega) (by omega) (by omega) (by omega)) ?_
  rintro ⟨v2, q⟩ ⟨rfl, h2, h3⟩
  simp only at h2 h3 ⊢
  refine Ok.ite (fun _ => Ok.bind (pick_in b _ 2 hB (by omega) (by omega) (by omega) (by omega)) ?_) (fun _ => ?_)
  · rintro ⟨v3, q⟩ ⟨rfl, h4, h5⟩
    simp only at h4 h5 ⊢
    have := loop (v3 * 5).toNat (p + 1 + 1 + 1) (by omega) (by omega) (by omega)
    rw [wrap_id (n := v3 * 5) (by omega) (by omega)]
    rwa [show (((v3 * 5).toNat : Nat) : Int) = v3 * 5 by omega] at this
  · have := loop (1 + v).toNat (p + 1 + 1) (by omega) (by omega) (by omega)
    rw [wrap_id (n := 1 + v) (by omega) (by omega)]
    rwa [show (((1 + v).toNat : Nat) : Int) = 1 + v by omega] at this
end Go.Proofs.Ytehenjjaekkcfaa.Pure
/- Choices may be missing: the law comes to true for every input. No conditions. -/
namespace Go.Proofs.Ytehenjjaekkcfaa.Pure
open Go.RowKit Go.Proofs.YtehenjjaekkcfaaW.PrintWords Go.Proofs.YtehenjjaekkcfaaW.PrintLast Go.Proofs.Ytehenjjaekkcfaa.Q
set_option linter.unusedVariables false
set_option linter.unusedSimpArgs false
theorem drawChoicesValid_ok (l : List Int) (hl : ∀ x ∈ l, (Lit.int .u8 x).wf = true) : Ok (fun k => spec_DrawChoicesValid.f k l) (fun r => r.length ≤ 5) := by
  unfold spec_DrawChoicesValid.f
  obtain ⟨b, hb, hB⟩ := open_ok l hl
  simp only [hb, Option.bind_some]
  exact Ok.bind (l91Choices_ok b 0 hB (by omega) (by omega)) fun r hr => Ok.ret hr.1
theorem FnChoicesPart : laws_FnChoicesPart.Pure := by
  intro l m _ _ hl hm0 _ _
  apply Ok.rounds
  unfold laws_FnChoicesPart.f
  have main : ∀ c : Bool, ((m.length : Int) > 1048576 → c = true) → Ok (fun k => laws_FnChoicesPart.j0 k l m c) (· = true) := by
    intro c hc
    refine Ok.step (fun k => by simp only [laws_FnChoicesPart.j0]; rfl) (Ok.ite (fun _ => Ok.ret rfl) fun hcf => Ok.bind (drawChoicesValid_ok l hl) ?_)
    intro xs hx
    obtain ⟨b1, e1, hb1⟩ := iChoices_eq xs
    rw [e1]
    refine Ok.val (Ok.bind (sChoices_ok xs (by omega)) fun b2 hb2 => ?_)
    obtain rfl := bool_of_iff hb1 hb2
    refine Ok.neg (by simp) (Ok.step (fun k => by simp only [laws_FnChoicesPart.j1]; rfl) (Ok.ite (fun _ => Ok.ret (by simp)) fun hne => ?_))
    have hv : CV xs := hb1.1 (by simpa using hne)
    have hpos : 0 < xs.length := hv.1.1
    obtain ⟨k, hk, hkl⟩ : ∃ k : Nat, (m.length : Int) % (xs.length : Int) = (k : Int) ∧ k < xs.length := ⟨m.length % xs.length, by simp, Nat.mod_lt _ hpos⟩
    rw [hk, wrap_id (n := (k : Int) + 1) (by omega) (by omega)]
    refine Ok.neg (by omega) (Ok.val (Ok.pos (by omega) (Ok.pos (by omega) (Ok.val (Ok.pos ?_ (Ok.val (Ok.pos (by omega) (Ok.pos (by omega) (Ok.val (Ok.pos ?_ (Ok.val (Ok.pos ?_ (Ok.val (Ok.pos ?_ ?_))))))))))))))
    · exact Nat.lt_of_le_of_lt (m := 20) (by simp; omega) (by decide)
    · exact Nat.lt_of_le_of_lt (m := 20) (by simp; omega) (by decide)
    · exact Nat.lt_of_le_of_lt (m := 20) (by simp; omega) (by decide)
    · simp; omega
    have e1 : ((k : Int)).toNat = k := by omega
    have e2 : ((k : Int) + 1).toNat = k + 1 := by omega
    simp only [e1, e2, List.nil_append]
    have hlen := skip_len xs k hkl
    have hxs := (CV_iff _).1 hv
    obtain ⟨b3, e3, hb3⟩ := iChoices_eq (xs.take k ++ xs.drop (k + 1))
    rw [e3]
    have hx : b3 = decide ((xs.length : Int) > 1) := by
      rw [Bool.eq_iff_iff, hb3, decide_eq_true_iff, CV_iff, hlen]
      constructor
      · intro h; have := h.1; omega
      · intro h
        refine ⟨by omega, fun x hx => hxs.2 x ?_⟩
        rcases List.mem_append.1 hx with h' | h'
        · exact List.mem_of_mem_take h'
        · exact List.mem_of_mem_drop h'
    obtain ⟨b4, e4, hb4⟩ := iChoices_eq (xs.set k ⟨(rd_T32 xs (k : Int)).f0, 0, (rd_T32 xs (k : Int)).f2⟩)
    refine Ok.val (Ok.pos (by rw [hx]; simp) ?_)
    rw [e4]
    refine Ok.val (Ok.ret ?_)
    cases b4 with
    | false => rfl
    | true =>
      have := (hb4.1 rfl).2 k (by simp; omega)
      unfold cAt at this
      rw [getD_set _ _ _ _ _ hkl, if_pos rfl] at this
      rw [cB_iff] at this
      simp only at this
      omega
  exact Ok.ite (fun _ => main true (fun _ => rfl)) (fun _ => main _ (fun h => decide_eq_true h))
end Go.Proofs.Ytehenjjaekkcfaa.Pure
