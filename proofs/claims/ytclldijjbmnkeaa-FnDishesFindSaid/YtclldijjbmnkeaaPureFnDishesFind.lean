/- Dishes are found: the law comes to true for every input. No conditions. -/
import Derived.Test.YtclldijjbmnkeaaWMore
import Derived.Test.YtclldijjbmnkeaaQx0
import Derived.Test.YtclldijjbmnkeaaQx1
import Derived.Test.YtclldijjbmnkeaaQx2
import Derived.Test.YtclldijjbmnkeaaQx3
import Derived.Test.YtclldijjbmnkeaaQx4
import Derived.Test.YtclldijjbmnkeaaQx5
import Derived.Test.YtclldijjbmnkeaaQx6
/- Plain logic for printed functions: from some number of rounds on a function answers, and its answer fits. No conditions. -/
namespace Go.Proofs.Ytclldijjbmnkeaa.Pure
open Go.RowKit Go.Proofs.YtclldijjbmnkeaaW.PrintWords Go.Proofs.YtclldijjbmnkeaaW.PrintLast

/-- g answers from some number of rounds on, and the answer is as Q says. -/
def Ok {α : Type} (g : Nat → Option α) (Q : α → Prop) : Prop := ∃ r, Ev g r ∧ Q r
theorem Ok.ret {α : Type} {r : α} {Q : α → Prop} (h : Q r) : Ok (fun _ => some r) Q := ⟨r, Ev.now r, h⟩
theorem Ok.bind {α β : Type} {g : Nat → Option α} {f : Nat → α → Option β} {P : α → Prop} {Q : β → Prop} (h : Ok g P) (k : ∀ a, P a → Ok (fun n => f n a) Q) : Ok (fun n => (g n).bind (f n)) Q := by
  obtain ⟨a, ha, hp⟩ := h
  obtain ⟨r, hr, hq⟩ := k a hp
  exact ⟨r, Ev.bind ha hr, hq⟩
theorem Ok.val {α β : Type} {a : α} {f : Nat → α → Option β} {Q : β → Prop} (h : Ok (fun n => f n a) Q) : Ok (fun n => (some a).bind (f n)) Q := h
theorem Ok.pos {α : Type} {c : Prop} [Decidable c] {t e : Nat → Option α} {Q : α → Prop} (hc : c) (h : Ok t Q) : Ok (fun n => if c then t n else e n) Q := by simpa only [if_pos hc] using h
theorem Ok.neg {α : Type} {c : Prop} [Decidable c] {t e : Nat → Option α} {Q : α → Prop} (hc : ¬ c) (h : Ok e Q) : Ok (fun n => if c then t n else e n) Q := by simpa only [if_neg hc] using h
theorem Ok.ite {α : Type} {c : Prop} [Decidable c] {t e : Nat → Option α} {Q : α → Prop} (h : c → Ok t Q) (k : ¬ c → Ok e Q) : Ok (fun n => if c then t n else e n) Q := by
  by_cases hc : c
  · exact Ok.pos hc (h hc)
  · exact Ok.neg hc (k hc)
theorem Ok.step {α : Type} {g f : Nat → Option α} {Q : α → Prop} (h : ∀ k, g (k + 1) = f k) (k : Ok f Q) : Ok g Q := by
  obtain ⟨r, hr, hq⟩ := k
  exact ⟨r, Ev.step h hr, hq⟩
theorem Ok.mono {α : Type} {g : Nat → Option α} {P Q : α → Prop} (h : Ok g P) (k : ∀ a, P a → Q a) : Ok g Q := by
  obtain ⟨r, hr, hp⟩ := h
  exact ⟨r, hr, k r hp⟩
theorem Ok.and {α : Type} {g : Nat → Option α} {P Q : α → Prop} (h : Ok g P) (k : Ok g Q) : Ok g (fun a => P a ∧ Q a) := by
  obtain ⟨r, ⟨K, hr⟩, hp⟩ := h
  obtain ⟨r', ⟨K', hr'⟩, hq⟩ := k
  have h1 := hr (max K K') (by omega)
  have h2 := hr' (max K K') (by omega)
  obtain rfl : r = r' := by rw [h1] at h2; injection h2
  exact ⟨r, ⟨K, hr⟩, hp, hq⟩
theorem Ok.rounds {α : Type} {g : Nat → Option α} {r : α} (h : Ok g (· = r)) : ∃ k, g k = some r := by
  obtain ⟨_, hr, rfl⟩ := h
  exact hr.rounds
theorem wrap_id {n : Int} (h0 : -9223372036854775808 ≤ n) (h1 : n ≤ 9223372036854775807) : wrap64 n = n := by unfold wrap64; omega
theorem wfu8 {n : Int} (h : (Lit.int .u8 n).wf = true) : 0 ≤ n ∧ n ≤ 255 := by
  simp [Lit.wf, IntKind.min, IntKind.max, IntKind.signed, IntKind.bits] at h
  omega
/-- A loop that counts an index up to n, with what else it carries in s. -/
theorem Ok.range {σ ρ : Type} (L : σ → Int → Nat → Option ρ) (n : Nat) (Inv : Nat → σ → Prop) (Q : ρ → Prop)
    (step : ∀ (i : Nat) (s : σ), i < n → Inv i s → (∀ s', Inv (i + 1) s' → Ok (L s' ((i : Int) + 1)) Q) → Ok (L s (i : Int)) Q)
    (last : ∀ s, Inv n s → Ok (L s (n : Int)) Q) : ∀ s, Inv 0 s → Ok (L s 0) Q := by
  have key : ∀ d i, i + d = n → ∀ s, Inv i s → Ok (L s (i : Int)) Q := by
    intro d
    induction d with
    | zero => intro i hi s hs; obtain rfl : i = n := (by omega); exact last s hs
    | succ d ih =>
      intro i hi s hs
      refine step i s (by omega) hs fun s' hs' => ?_
      have := ih (i + 1) (by omega) s' hs'
      rwa [show ((i + 1 : Nat) : Int) = (i : Int) + 1 by omega] at this
  exact fun s hs => key n 0 (by omega) s hs
end Go.Proofs.Ytclldijjbmnkeaa.Pure
/- The program's dishes, as lists. No conditions. -/
namespace Go.Proofs.Ytclldijjbmnkeaa.Pure
open Go.RowKit Go.Proofs.YtclldijjbmnkeaaW.PrintWords Go.Proofs.YtclldijjbmnkeaaW.PrintLast Go.Proofs.Ytclldijjbmnkeaa.Q
set_option linter.unusedVariables false
set_option linter.unusedSimpArgs false
abbrev Ds := S29
def dAt (l : List Ds) (i : Nat) : Ds := l.getD i z29
theorem dAt_rd (l : List Ds) (i : Nat) : rd_T29 l (i : Int) = dAt l i := rfl
end Go.Proofs.Ytclldijjbmnkeaa.Pure
/- The place of a dish, in the program and in the reference. Condition: at most 2,000,000 dishes. -/
namespace Go.Proofs.Ytclldijjbmnkeaa.Pure
open Go.RowKit Go.Proofs.YtclldijjbmnkeaaW.PrintWords Go.Proofs.YtclldijjbmnkeaaW.PrintLast Go.Proofs.Ytclldijjbmnkeaa.Q
set_option linter.unusedVariables false
set_option linter.unusedSimpArgs false
def dPl (l : List Ds) (id : Int) : Int := idxOf (fun x => x.f0 == id) l
theorem iDFind_eq (l : List Ds) (id : Int) : impl_DishesFind.f l id = some (dPl l id) := rfl
theorem dPl_none {l : List Ds} {id : Int} (h : ∀ j, j < l.length → (dAt l j).f0 ≠ id) : dPl l id = -1 := idxOf_miss _ l z29 fun j hj => beq_eq_false_iff_ne.2 (h j hj)
theorem dPl_hit {l : List Ds} {id : Int} {k : Nat} (hk : k < l.length) (h : (dAt l k).f0 = id) (hn : ∀ j, j < k → (dAt l j).f0 ≠ id) : dPl l id = (k : Int) := idxOf_hit _ l z29 k hk (beq_iff_eq.2 h) fun j hj => beq_eq_false_iff_ne.2 (hn j hj)
theorem l11Find_ok (l : List Ds) (id : Int) (hl : l.length ≤ 2000000) : Ok (fun k => spec_l11Find.f k l id) (· = dPl l id) := by
  unfold spec_l11Find.f
  refine Ok.range (fun (_ : Unit) i k => spec_l11Find.l0 k l id i) l.length (fun i _ => ∀ j, j < i → (dAt l j).f0 ≠ id) _ ?_ ?_ () (fun j hj => absurd hj (by omega))
  · intro i _ hi hinv ih
    refine Ok.step (fun k => by simp only [spec_l11Find.l0]; rfl) (Ok.pos (by omega) (Ok.pos (by omega) ?_))
    rw [dAt_rd, wrap_id (n := (i : Int) + 1) (by omega) (by omega)]
    refine Ok.ite (fun h => Ok.ret (dPl_hit hi h hinv).symm) (fun h => ih () fun j hj => ?_)
    rcases Nat.lt_succ_iff_lt_or_eq.1 hj with h1 | rfl
    · exact hinv j h1
    · exact h
  · intro _ hinv
    exact Ok.step (fun k => by simp only [spec_l11Find.l0]; rfl) (Ok.neg (by omega) (Ok.ret (dPl_none hinv).symm))
end Go.Proofs.Ytclldijjbmnkeaa.Pure
/- The reader of draws: each pick answers a number in its range and goes one place on. Condition: the bytes are bytes. -/
namespace Go.Proofs.Ytclldijjbmnkeaa.Pure
open Go.RowKit Go.Proofs.YtclldijjbmnkeaaW.PrintWords Go.Proofs.YtclldijjbmnkeaaW.PrintLast Go.Proofs.Ytclldijjbmnkeaa.Q
set_option linter.unusedVariables false
set_option linter.unusedSimpArgs false

def Bytes (b : List Int) : Prop := ∀ x ∈ b, 0 ≤ x ∧ x ≤ 255
theorem rd_byte {b : List Int} (h : Bytes b) (i : Int) : 0 ≤ rd b i ∧ rd b i ≤ 255 := by
  unfold rd
  rw [List.getD_eq_getElem?_getD]
  by_cases hi : i.toNat < b.length
  · rw [List.getElem?_eq_getElem hi]
    exact h _ (List.getElem_mem hi)
  · rw [List.getElem?_eq_none (by omega)]
    simp
theorem xor_nonneg (x y : Int) (hx : 0 ≤ x) (hx' : x < 4611686018427387904) (hy : 0 ≤ y) (hy' : y < 4611686018427387904) : 0 ≤ Go.bits .xor .i64 x y := by
  obtain ⟨a, rfl⟩ := Int.eq_ofNat_of_zero_le hx
  obtain ⟨b, rfl⟩ := Int.eq_ofNat_of_zero_le hy
  have ha : a < 2 ^ 62 := by omega
  have hb : b < 2 ^ 62 := by omega
  have hx := Nat.xor_lt_two_pow ha hb
  have ha' : a % 2 ^ 64 = a := Nat.mod_eq_of_lt (by omega)
  have hb' : b % 2 ^ 64 = b := Nat.mod_eq_of_lt (by omega)
  show 0 ≤ IntKind.i64.wrap ((BitVec.ofInt 64 (a : Int) ^^^ BitVec.ofInt 64 (b : Int)).toNat : Int)
  rw [IntKind.wrap_i64]
  simp only [BitVec.ofInt_natCast, BitVec.toNat_xor, BitVec.toNat_ofNat, ha', hb']
  omega
theorem mix_range (r1 r2 p t : Int) (h1 : 0 ≤ r1 ∧ r1 ≤ 255) (h2 : 0 ≤ r2 ∧ r2 ≤ 255) (hp : 0 ≤ p ∧ p ≤ 1099511627776) (ht : 0 ≤ t ∧ t ≤ 1099511627776) :
    wrap64 ((wrap64 ((wrap64 ((wrap64 ((wrap64 r1) * 131)) + (wrap64 ((wrap64 r2) * 1117)))) + (wrap64 (p * 29)))) + (wrap64 ((wrap64 t) * 53))) = r1 * 131 + r2 * 1117 + p * 29 + t * 53 := by
  rw [wrap_id (n := r1) (by omega) (by omega), wrap_id (n := r2) (by omega) (by omega), wrap_id (n := t) (by omega) (by omega)]
  rw [wrap_id (n := r1 * 131) (by omega) (by omega), wrap_id (n := r2 * 1117) (by omega) (by omega), wrap_id (n := p * 29) (by omega) (by omega), wrap_id (n := t * 53) (by omega) (by omega)]
  rw [wrap_id (n := r1 * 131 + r2 * 1117) (by omega) (by omega), wrap_id (n := r1 * 131 + r2 * 1117 + p * 29) (by omega) (by omega), wrap_id (by omega) (by omega)]
theorem tmod_range (x n : Int) (hx : 0 ≤ x) (hn : 1 ≤ n) : 0 ≤ Int.tmod x n ∧ Int.tmod x n < n :=
  ⟨Int.tmod_nonneg _ hx, Int.tmod_lt_of_pos _ (by omega)⟩
theorem tdiv_range (x n : Int) (hx : 0 ≤ x) (hn : 1 ≤ n) : 0 ≤ Int.tdiv x n ∧ Int.tdiv x n ≤ x := by
  refine ⟨Int.tdiv_nonneg hx (by omega), ?_⟩
  rw [Int.tdiv_eq_ediv_of_nonneg hx]
  exact Int.ediv_le_self _ hx

/-- What a pick says. -/
def Picked (p n : Int) (r : Int × Int) : Prop := r.2 = p + 1 ∧ 0 ≤ r.1 ∧ (1 ≤ n → r.1 < n) ∧ (n < 1 → r.1 = 0)
theorem pick_ok (b : List Int) (p n : Int) (hb : Bytes b) (hp : 0 ≤ p) (hp' : p ≤ 1099511627776) (hn : n ≤ 1000000000) : Ok (fun k => spec_l6Rd_pick.f k b p n) (Picked p n) := by
  unfold spec_l6Rd_pick.f
  rw [wrap_id (n := p + 1) (by omega) (by omega)]
  by_cases h1 : n < 1
  · refine Ok.pos h1 (Ok.step (fun k => by simp only [spec_l6Rd_pick.j0, if_true]; rfl) (Ok.ret ⟨rfl, by simp, fun h => absurd h (by omega), fun _ => rfl⟩))
  refine Ok.neg h1 ?_
  by_cases hl : (b.length : Int) = 0
  · rw [show ((b.length : Int) == 0) = true by simpa using hl]
    refine Ok.step (fun k => by simp only [spec_l6Rd_pick.j0, if_true]; rfl) (Ok.ret ⟨rfl, by simp, fun h => by omega, fun _ => rfl⟩)
  rw [show ((b.length : Int) == 0) = false by simpa using hl]
  have hlp : 1 ≤ (b.length : Int) := by omega
  refine Ok.step (f := _) (fun k => by simp only [spec_l6Rd_pick.j0]; rfl) ?_
  refine Ok.neg (by simp) ?_
  rw [show p + 1 - 1 = p by omega, wrap_id (n := p) (by omega) (by omega)]
  by_cases hlt : p < (b.length : Int)
  · refine Ok.pos hlt (Ok.pos hp (Ok.neg (by omega) (Ok.ret ?_)))
    have hr := rd_byte hb p
    rw [wrap_id (n := rd b p) (by omega) (by omega)]
    have := tmod_range (rd b p) n hr.1 (by omega)
    exact ⟨rfl, this.1, fun _ => this.2, fun h => absurd h h1⟩
  · have hm := tmod_range p b.length hp hlp
    have hq : wrap64 ((wrap64 (p * 7)) + 3) = p * 7 + 3 := by
      rw [wrap_id (n := p * 7) (by omega) (by omega), wrap_id (by omega) (by omega)]
    have hm2 := tmod_range (p * 7 + 3) b.length (by omega) hlp
    have ht := tdiv_range p b.length hp hlp
    rw [hq]
    refine Ok.neg hlt (Ok.neg hl (Ok.pos hm.1 (Ok.pos hm.2 (Ok.pos hm2.1 (Ok.pos hm2.2 (Ok.neg (by omega) (Ok.ret ?_)))))))
    rw [mix_range _ _ p _ (rd_byte hb _) (rd_byte hb _) ⟨hp, hp'⟩ ⟨ht.1, by omega⟩]
    have a1 := rd_byte hb (Int.tmod p b.length)
    have a2 := rd_byte hb (Int.tmod (p * 7 + 3) b.length)
    generalize rd b (Int.tmod p b.length) = r1 at *
    generalize rd b (Int.tmod (p * 7 + 3) b.length) = r2 at *
    generalize Int.tdiv p b.length = t at *
    have hx : 0 ≤ r1 * 131 + r2 * 1117 + p * 29 + t * 53 := by omega
    have hx' : r1 * 131 + r2 * 1117 + p * 29 + t * 53 < 4611686018427387904 := by omega
    generalize r1 * 131 + r2 * 1117 + p * 29 + t * 53 = x at *
    have h64 := tdiv_range x 64 hx (by omega)
    rw [wrap_id (n := Int.tdiv x 64) (by omega) (by omega)]
    have := tmod_range (Go.bits .xor .i64 x (Int.tdiv x 64)) n (xor_nonneg _ _ hx hx' h64.1 (by omega)) (by omega)
    exact ⟨rfl, this.1, fun _ => this.2, fun h => absurd h h1⟩
/-- The same, the number of answers at least one. -/
def Pk (p n : Int) (r : Int × Int) : Prop := r.2 = p + 1 ∧ 0 ≤ r.1 ∧ r.1 < n
theorem pick_in (b : List Int) (p n : Int) (hb : Bytes b) (hp : 0 ≤ p) (hp' : p ≤ 1099511627776) (hn : 1 ≤ n) (hn' : n ≤ 1000000000) : Ok (fun k => spec_l6Rd_pick.f k b p n) (Pk p n) :=
  (pick_ok b p n hb hp hp' hn').mono fun _ h => ⟨h.1, h.2.1, h.2.2.1 hn⟩
/-- a place that went on by some, not far -/
def On (p : Int) (m : Int) (q : Int) : Prop := p ≤ q ∧ q ≤ p + m
theorem open_ok (l : List Int) (hl : ∀ x ∈ l, (Lit.int .u8 x).wf = true) : ∃ b, spec_l6Open.f l = some (b, 0) ∧ Bytes b := by
  have hb : Bytes l := fun x hx => wfu8 (hl x hx)
  unfold spec_l6Open.f
  by_cases h : (l.length : Int) > 2000
  · rw [if_pos h, if_pos (by omega)]
    exact ⟨_, rfl, fun x hx => hb x (List.mem_of_mem_take hx)⟩
  · rw [if_neg h]
    exact ⟨_, rfl, hb⟩
end Go.Proofs.Ytclldijjbmnkeaa.Pure
/- The weight of an allergen: two to the power of its number, up to 8. -/
namespace Go.Proofs.Ytclldijjbmnkeaa.Pure
open Go.RowKit Go.Proofs.YtclldijjbmnkeaaW.PrintWords Go.Proofs.YtclldijjbmnkeaaW.PrintLast Go.Proofs.Ytclldijjbmnkeaa.Q
set_option linter.unusedVariables false
set_option linter.unusedSimpArgs false

theorem pow_le (i : Nat) (h : i ≤ 8) : (1 : Int) ≤ 2 ^ i ∧ (2 : Int) ^ i ≤ 256 := by
  have h1 : 2 ^ i ≤ 2 ^ 8 := Nat.pow_le_pow_right (by decide) h
  have h2 : 0 < 2 ^ i := Nat.two_pow_pos i
  constructor
  · have : ((2 ^ i : Nat) : Int) = (2 : Int) ^ i := by simp
    omega
  · have : ((2 ^ i : Nat) : Int) = (2 : Int) ^ i := by simp
    omega
theorem weight_ok (n : Nat) (h : n ≤ 8) : Ok (fun k => spec_l3Weight.f k (n : Int)) (· = (2 : Int) ^ n) := by
  unfold spec_l3Weight.f
  refine Ok.range (fun (s : Int) i k => spec_l3Weight.l0 k (n : Int) s i) n (fun i s => s = 2 ^ i) _ ?_ ?_ 1 rfl
  · rintro i _ hi rfl ih
    have hp := pow_le i (by omega)
    refine Ok.step (fun k => by simp only [spec_l3Weight.l0]; rfl) (Ok.pos (by omega) ?_)
    rw [wrap_id (n := (i : Int) + 1) (by omega) (by omega), wrap_id (n := 2 * 2 ^ i) (by omega) (by omega)]
    exact ih _ (by rw [Int.pow_succ, Int.mul_comm])
  · rintro _ rfl
    exact Ok.step (fun k => by simp only [spec_l3Weight.l0]; rfl) (Ok.neg (by omega) (Ok.ret rfl))
end Go.Proofs.Ytclldijjbmnkeaa.Pure
/- Drawn foods: at most 7. Condition: the bytes are bytes. -/
namespace Go.Proofs.Ytclldijjbmnkeaa.Pure
open Go.RowKit Go.Proofs.YtclldijjbmnkeaaW.PrintWords Go.Proofs.YtclldijjbmnkeaaW.PrintLast Go.Proofs.Ytclldijjbmnkeaa.Q
set_option linter.unusedVariables false
set_option linter.unusedSimpArgs false
theorem l91Food_ok (b : List Int) (p a : Int) (hB : Bytes b) (hp : 0 ≤ p) (hp' : p ≤ 1000000) : Ok (fun k => spec_l91Food.f k b p a) (fun r => On p 16 r.2.2.2.2.2.2) := by
  unfold spec_l91Food.f
  refine Ok.bind (pick_in b p 3 hB (by omega) (by omega) (by omega) (by omega)) ?_
  rintro ⟨v, q⟩ ⟨rfl, h0, h1⟩
  simp only at h0 h1 ⊢
  refine Ok.bind (pick_in b _ 5 hB (by omega) (by omega) (by omega) (by omega)) ?_
  rintro ⟨v2, q⟩ ⟨rfl, h2, h3⟩
  simp only at h2 h3 ⊢
  refine Ok.bind (pick_in b _ 200 hB (by omega) (by omega) (by omega) (by omega)) ?_
  rintro ⟨v3, q⟩ ⟨rfl, h4, h5⟩
  simp only at h4 h5 ⊢
  refine Ok.bind (pick_in b _ 250 hB (by omega) (by omega) (by omega) (by omega)) ?_
  rintro ⟨v4, q⟩ ⟨rfl, h6, h7⟩
  simp only at h6 h7 ⊢
  have key := Ok.range (fun (s : Int × Int × Int × Int × Int × Int × Int) i k => spec_l91Food.l0 k i b s.1 s.2.1 s.2.2.1 s.2.2.2.1 s.2.2.2.2.1 s.2.2.2.2.2.1 s.2.2.2.2.2.2) 8 (fun i s => p + 4 ≤ s.1 ∧ s.1 ≤ p + 4 + i) (fun r => On p 16 r.2.2.2.2.2.2) ?_ ?_ (p + 1 + 1 + 1 + 1, a, wrap64 (1 + v), 0, wrap64 (1 + v2), wrap64 (v3 * 4), v4) ⟨by simp only; omega, by simp only; omega⟩
  · exact key
  · rintro i ⟨q, x0, x1, x2, x3, x4, x5⟩ hi hs ih
    simp only at hs ih ⊢
    refine Ok.step (fun k => by simp only [spec_l91Food.l0]; rfl) (Ok.pos (by omega) (Ok.bind (pick_in b q 6 hB (by omega) (by omega) (by omega) (by omega)) ?_))
    rintro ⟨w, q2⟩ ⟨rfl, h8, h9⟩
    simp only at h8 h9 ⊢
    rw [wrap_id (n := (i : Int) + 1) (by omega) (by omega)]
    exact Ok.ite (fun _ => Ok.bind (weight_ok i (by omega)) fun w _ => ih (q + 1, _, _, _, _, _, _) (by simp only; omega)) (fun _ => ih (q + 1, _, _, _, _, _, _) (by simp only; omega))
  · rintro ⟨q, x0, x1, x2, x3, x4, x5⟩ hs
    simp only at hs ⊢
    refine Ok.step (fun k => by simp only [spec_l91Food.l0]; rfl) (Ok.neg (by omega) (Ok.bind (pick_in b q 60 hB (by omega) (by omega) (by omega) (by omega)) ?_))
    rintro ⟨w, q2⟩ ⟨rfl, h8, h9⟩
    simp only [Option.bind_some] at h8 h9 ⊢
    refine Ok.ite (fun _ => Ok.bind (pick_in b _ 2 hB (by omega) (by omega) (by omega) (by omega)) ?_) (fun _ => Ok.ite (fun _ => Ok.bind (pick_in b _ 2 hB (by omega) (by omega) (by omega) (by omega)) ?_) (fun _ => Ok.ite (fun _ => Ok.bind (pick_in b _ 3 hB (by omega) (by omega) (by omega) (by omega)) ?_) (fun _ => Ok.ret ⟨by simp only; omega, by simp only; omega⟩)))
    · rintro ⟨w2, q3⟩ ⟨rfl, h10, h11⟩
      exact Ok.ret ⟨by simp only; omega, by simp only; omega⟩
    · rintro ⟨w2, q3⟩ ⟨rfl, h10, h11⟩
      exact Ok.ret ⟨by simp only; omega, by simp only; omega⟩
    · rintro ⟨w2, q3⟩ ⟨rfl, h10, h11⟩
      simp only at h10 h11 ⊢
      exact Ok.pos h10 (Ok.pos (by simpa using h11) (Ok.ret ⟨by simp only; omega, by simp only; omega⟩))
theorem l91Foods_ok (b : List Int) (p : Int) (hB : Bytes b) (hp : 0 ≤ p) (hp' : p ≤ 100000) : Ok (fun k => spec_l91Foods.f k b p) (fun r => r.1.length ≤ 7 ∧ On p 200 r.2) := by
  unfold spec_l91Foods.f
  have key : ∀ d i : Nat, i + d = 8 → ∀ (xs : List S63) (q : Int), xs.length ≤ 6 → p ≤ q → q ≤ p + 18 * i → Ok (fun k => spec_l91Foods.l0 k xs ((i : Int) + 1) b q) (fun r => r.1.length ≤ 7 ∧ On p 200 r.2) := by
    intro d
    induction d with
    | zero =>
      intro i hi xs q hx h0 h1
      refine Ok.step (fun k => by simp only [spec_l91Foods.l0]; rfl) (Ok.neg (by omega) (Ok.ite (fun hpos => Ok.bind (pick_in b q 30 hB (by omega) (by omega) (by omega) (by omega)) ?_) (fun _ => Ok.ret ⟨by simp only; omega, by constructor <;> simp only <;> omega⟩)))
      rintro ⟨v, q2⟩ ⟨rfl, h2, h3⟩
      simp only at h2 h3 ⊢
      exact Ok.ite (fun _ => Ok.pos (by omega) (Ok.pos (by omega) (Ok.ret ⟨by simp; omega, by constructor <;> simp only <;> omega⟩))) (fun _ => Ok.ret ⟨by simp only; omega, by constructor <;> simp only <;> omega⟩)
    | succ d ih =>
      intro i hi xs q hx h0 h1
      refine Ok.step (fun k => by simp only [spec_l91Foods.l0]; rfl) (Ok.pos (by omega) (Ok.bind (pick_in b q 3 hB (by omega) (by omega) (by omega) (by omega)) ?_))
      rintro ⟨v, q2⟩ ⟨rfl, h2, h3⟩
      simp only at h2 h3 ⊢
      rw [wrap_id (n := (i : Int) + 1 + 1) (by omega) (by omega)]
      have e : ((i : Int) + 1 + 1) = (((i + 1 : Nat) : Int) + 1) := by omega
      rw [e]
      refine Ok.ite (fun _ => Ok.ite (fun h6 => Ok.bind (l91Food_ok b _ _ hB (by omega) (by omega)) ?_) (fun _ => ih (i + 1) (by omega) _ _ hx (by omega) (by omega))) (fun _ => ih (i + 1) (by omega) _ _ hx (by omega) (by omega))
      rintro ⟨x0, x1, x2, x3, x4, x5, q3⟩ ⟨h4, h5⟩
      simp only at h4 h5 ⊢
      exact Ok.pos (by omega) (ih (i + 1) (by omega) _ _ (by simp; omega) (by omega) (by omega))
  exact key 8 0 rfl [] p (by simp) (by omega) (by omega)
end Go.Proofs.Ytclldijjbmnkeaa.Pure
/- Drawn dishes: at most 5 of at most 5 parts. Condition: the bytes are bytes. -/
namespace Go.Proofs.Ytclldijjbmnkeaa.Pure
open Go.RowKit Go.Proofs.YtclldijjbmnkeaaW.PrintWords Go.Proofs.YtclldijjbmnkeaaW.PrintLast Go.Proofs.Ytclldijjbmnkeaa.Q
set_option linter.unusedVariables false
set_option linter.unusedSimpArgs false
/-- few dishes of few parts -/
def Few (n m : Nat) (l : List S29) : Prop := l.length ≤ n ∧ ∀ x ∈ l, x.f2.length ≤ m
theorem Few.snoc {n m : Nat} {l : List S29} (h : Few n m l) (x : S29) (hx : x.f2.length ≤ m) : Few (n + 1) m (l ++ [x]) := by
  refine ⟨by simp only [List.length_append, List.length_singleton]; exact Nat.succ_le_succ h.1, fun y hy => ?_⟩
  rcases List.mem_append.1 hy with hy | hy
  · exact h.2 y hy
  · rw [List.mem_singleton.1 hy]; exact hx
theorem Few.put {n m : Nat} {l : List S29} (h : Few n m l) (i : Nat) (x : S29) (hx : x.f2.length ≤ m) : Few n m (l.set i x) := by
  refine ⟨by simpa using h.1, fun y hy => ?_⟩
  rcases List.mem_or_eq_of_mem_set hy with hy | rfl
  · exact h.2 y hy
  · exact hx
theorem Few.more {n m n' m' : Nat} {l : List S29} (h : Few n m l) (hn : n ≤ n') (hm : m ≤ m') : Few n' m' l := ⟨Nat.le_trans h.1 hn, fun x hx => Nat.le_trans (h.2 x hx) hm⟩
theorem Few.at_ {n m : Nat} {l : List S29} (h : Few n m l) {i : Int} (h0 : 0 ≤ i) (h1 : i < l.length) : (rd_T29 l i).f2.length ≤ m := by
  refine h.2 _ ?_
  unfold rd_T29
  rw [List.getD_eq_getElem?_getD, List.getElem?_eq_getElem (by omega)]
  exact List.getElem_mem _
theorem l91Dish_ok (b : List Int) (p a : Int) (d : List S29) (l : List S63) (hB : Bytes b) (hp : 0 ≤ p) (hp' : p ≤ 100000) (hd : d.length ≤ 1000) (hl : l.length ≤ 1000) : Ok (fun k => spec_l91Dish.f k b p a d l) (fun r => r.2.2.1.length ≤ 4 ∧ On p 20 r.2.2.2) := by
  unfold spec_l91Dish.f
  refine Ok.bind (pick_in b p 12 hB (by omega) (by omega) (by omega) (by omega)) ?_
  rintro ⟨v, q⟩ ⟨rfl, h0, h1⟩
  simp only at h0 h1 ⊢
  refine Ok.bind (pick_in b _ 4 hB (by omega) (by omega) (by omega) (by omega)) ?_
  rintro ⟨v2, q⟩ ⟨rfl, h2, h3⟩
  simp only at h2 h3 ⊢
  obtain ⟨n, rfl⟩ : ∃ n : Nat, v2 = n := ⟨v2.toNat, by omega⟩
  rw [wrap_id (n := 1 + (n : Int)) (by omega) (by omega), show (1 + (n : Int)) = ((n + 1 : Nat) : Int) by omega]
  have key := Ok.range (fun (s : Int × List S55) i k => spec_l91Dish.l0 k d l ((n + 1 : Nat) : Int) i b s.1 a (wrap64 (1 + v)) s.2) (n + 1) (fun i s => s.2.length ≤ i ∧ p + 2 ≤ s.1 ∧ s.1 ≤ p + 2 + 4 * i) (fun r => r.2.2.1.length ≤ 4 ∧ On p 20 r.2.2.2) ?_ ?_ (p + 1 + 1, []) ⟨by simp, by simp only; omega, by simp only; omega⟩
  · exact key
  · rintro i ⟨q, ps⟩ hi ⟨hs1, hs2, hs3⟩ ih
    simp only at hs1 hs2 hs3 ih ⊢
    have body : ∀ (c : Bool) (q : Int), (c = true → 0 < d.length) → p + 2 ≤ q → q ≤ p + 2 + 4 * i + 1 → Ok (fun k => spec_l91Dish.j1 k d l ((n + 1 : Nat) : Int) (i : Int) c b q a (wrap64 (1 + v)) ps) (fun r => r.2.2.1.length ≤ 4 ∧ On p 20 r.2.2.2) := by
      intro c q hc hq1 hq2
      refine Ok.step (fun k => by simp only [spec_l91Dish.j1]; rfl) ?_
      rw [wrap_id (n := (i : Int) + 1) (by omega) (by omega)]
      refine Ok.ite (fun h => ?_) (fun _ => Ok.ite (fun h => ?_) (fun _ => ih (q, ps) ⟨by simp only; omega, by simp only; omega, by simp only; omega⟩))
      · have := hc h
        refine Ok.bind (pick_in b q _ hB (by omega) (by omega) (by omega) (by omega)) ?_
        rintro ⟨w, q2⟩ ⟨rfl, h4, h5⟩
        simp only at h4 h5 ⊢
        refine Ok.pos h4 (Ok.pos h5 (Ok.bind (pick_in b _ 9 hB (by omega) (by omega) (by omega) (by omega)) ?_))
        rintro ⟨w2, q3⟩ ⟨rfl, h6, h7⟩
        simp only at h6 h7 ⊢
        exact Ok.pos (by omega) (ih (q + 1 + 1, _) ⟨by simp only [List.length_append, List.length_singleton]; omega, by simp only; omega, by simp only; omega⟩)
      · refine Ok.bind (pick_in b q _ hB (by omega) (by omega) (by omega) (by omega)) ?_
        rintro ⟨w, q2⟩ ⟨rfl, h4, h5⟩
        simp only at h4 h5 ⊢
        refine Ok.pos h4 (Ok.pos h5 (Ok.bind (pick_in b _ 200 hB (by omega) (by omega) (by omega) (by omega)) ?_))
        rintro ⟨w2, q3⟩ ⟨rfl, h6, h7⟩
        simp only at h6 h7 ⊢
        exact Ok.pos (by omega) (ih (q + 1 + 1, _) ⟨by simp only [List.length_append, List.length_singleton]; omega, by simp only; omega, by simp only; omega⟩)
    refine Ok.step (fun k => by simp only [spec_l91Dish.l0]; rfl) (Ok.pos (by omega) (Ok.ite (fun h => Ok.bind (pick_in b q 3 hB (by omega) (by omega) (by omega) (by omega)) ?_) (fun _ => body false q (fun h => by cases h) (by omega) (by omega))))
    rintro ⟨w, q2⟩ ⟨rfl, h4, h5⟩
    simp only at h4 h5 ⊢
    exact body _ _ (fun _ => by omega) (by omega) (by omega)
  · rintro ⟨q, ps⟩ ⟨hs1, hs2, hs3⟩
    simp only at hs1 hs2 hs3 ⊢
    exact Ok.step (fun k => by simp only [spec_l91Dish.l0]; rfl) (Ok.neg (by omega) (Ok.ret ⟨by simp only; omega, by simp only; omega, by simp only; omega⟩))
theorem l91Dishes_ok (b : List Int) (p : Int) (l : List S63) (hB : Bytes b) (hp : 0 ≤ p) (hp' : p ≤ 10000) (hl : l.length ≤ 1000) : Ok (fun k => spec_l91Dishes.f k b p l) (fun r => Few 5 5 r.1 ∧ On p 200 r.2) := by
  unfold spec_l91Dishes.f
  refine Ok.bind (pick_in b p 4 hB (by omega) (by omega) (by omega) (by omega)) ?_
  rintro ⟨v, q⟩ ⟨rfl, h0, h1⟩
  simp only at h0 h1 ⊢
  obtain ⟨n, rfl⟩ : ∃ n : Nat, v = n := ⟨v.toNat, by omega⟩
  rw [wrap_id (n := 1 + (n : Int)) (by omega) (by omega), show (1 + (n : Int)) = ((n + 1 : Nat) : Int) by omega]
  have key := Ok.range (fun (s : Int × List S29) i k => spec_l91Dishes.l0 k l s.2 ((n + 1 : Nat) : Int) i b s.1) (n + 1) (fun i s => Few i 4 s.2 ∧ s.2.length = i ∧ p + 1 ≤ s.1 ∧ s.1 ≤ p + 1 + 20 * i) (fun r => Few 5 5 r.1 ∧ On p 200 r.2) ?_ ?_ (p + 1, []) ⟨⟨by simp, by simp⟩, by simp, by simp only; omega, by simp only; omega⟩
  · exact key
  · rintro i ⟨q, ds⟩ hi ⟨hs1, hs0, hs2, hs3⟩ ih
    simp only at hs1 hs0 hs2 hs3 ih ⊢
    refine Ok.step (fun k => by simp only [spec_l91Dishes.l0]; rfl) (Ok.pos (by omega) (Ok.bind (l91Dish_ok b q _ ds l hB (by omega) (by omega) (by omega) hl) ?_))
    rintro ⟨x0, x1, x2, q2⟩ ⟨h4, h5, h6⟩
    simp only at h4 h5 h6 ⊢
    rw [wrap_id (n := (i : Int) + 1) (by omega) (by omega)]
    exact Ok.pos (by omega) (ih (q2, _) ⟨hs1.snoc _ h4, by simp only [List.length_append, List.length_singleton]; omega, by simp only; omega, by simp only; omega⟩)
  · rintro ⟨q, ds⟩ ⟨hs1, hs0, hs2, hs3⟩
    simp only at hs1 hs0 hs2 hs3 ⊢
    have f5 : Few 5 5 ds := hs1.more (by omega) (by omega)
    refine Ok.step (fun k => by simp only [spec_l91Dishes.l0]; rfl) (Ok.neg (by omega) (Ok.bind (pick_in b q 30 hB (by omega) (by omega) (by omega) (by omega)) ?_))
    rintro ⟨w, q2⟩ ⟨rfl, h4, h5⟩
    simp only at h4 h5 ⊢
    have on : ∀ q3 : Int, q ≤ q3 → q3 ≤ q + 5 → On p 200 q3 := fun q3 _ _ => ⟨by omega, by omega⟩
    have a0 : (rd_T29 ds 0).f2.length ≤ 4 := hs1.at_ (by omega) (by omega)
    refine Ok.ite (fun _ => Ok.bind (pick_in b _ _ hB (by omega) (by omega) (by omega) (by omega)) ?_) (fun _ => Ok.ite (fun _ => Ok.pos (by omega) (Ok.pos (by omega) (Ok.ret ⟨f5.put _ _ ?_, on _ (by simp only; omega) (by simp only; omega)⟩))) (fun _ => Ok.ite (fun _ => Ok.pos (by omega) (Ok.pos (by omega) (Ok.ret ⟨f5.put _ _ ?_, on _ (by simp only; omega) (by simp only; omega)⟩))) (fun _ => Ok.ite (fun _ => Ok.pos (by omega) (Ok.pos (by omega) (Ok.ret ⟨((hs1.more (n' := 4) (m' := 5) (by omega) (by omega)).snoc _ ?_), on _ (by simp only; omega) (by simp only; omega)⟩))) (fun _ => Ok.ret ⟨f5, on _ (by simp only; omega) (by simp only; omega)⟩))))
    · rintro ⟨w2, q3⟩ ⟨rfl, h6, h7⟩
      simp only at h6 h7 ⊢
      refine Ok.bind (pick_in b _ 2 hB (by omega) (by omega) (by omega) (by omega)) ?_
      rintro ⟨w3, q4⟩ ⟨rfl, h8, h9⟩
      simp only at h8 h9 ⊢
      exact Ok.pos h6 (Ok.pos (by omega) (Ok.ret ⟨f5.put _ _ (f5.at_ h6 (by omega)), on _ (by simp only; omega) (by simp only; omega)⟩))
    · simp only [List.length_append, List.length_singleton]; omega
    · simp only [List.length_append, List.length_singleton]; omega
    · simp only; omega
theorem l91Menu_ok (b : List Int) (p : Int) (hB : Bytes b) (hp : 0 ≤ p) (hp' : p ≤ 1000) : Ok (fun k => spec_l91Menu.f k b p) (fun r => Few 5 5 r.1 ∧ r.2.1.length ≤ 7 ∧ On p 500 r.2.2) := by
  unfold spec_l91Menu.f
  refine Ok.bind (l91Foods_ok b p hB hp (by omega)) ?_
  rintro ⟨l, q⟩ ⟨h0, h1, h2⟩
  simp only at h0 h1 h2 ⊢
  refine Ok.bind (l91Dishes_ok b q l hB (by omega) (by omega) (by omega)) ?_
  rintro ⟨d, q2⟩ ⟨h3, h4, h5⟩
  simp only at h3 h4 h5 ⊢
  exact Ok.ret ⟨h3, h0, by simp only; omega, by simp only; omega⟩
end Go.Proofs.Ytclldijjbmnkeaa.Pure
/- Dishes are found: the law comes to true for every input. No conditions. -/
namespace Go.Proofs.Ytclldijjbmnkeaa.Pure
open Go.RowKit Go.Proofs.YtclldijjbmnkeaaW.PrintWords Go.Proofs.YtclldijjbmnkeaaW.PrintLast Go.Proofs.Ytclldijjbmnkeaa.Q
set_option linter.unusedVariables false
set_option linter.unusedSimpArgs false
theorem drawDishesFind_ok (l : List Int) (hl : ∀ x ∈ l, (Lit.int .u8 x).wf = true) : Ok (fun k => spec_DrawDishesFind.f k l) (fun r => r.1.length ≤ 5) := by
  unfold spec_DrawDishesFind.f
  obtain ⟨b, hb, hB⟩ := open_ok l hl
  simp only [hb, Option.bind_some]
  refine Ok.bind (l91Menu_ok b 0 hB (by omega) (by omega)) ?_
  rintro ⟨d, f, q⟩ ⟨h0, h1, h2, h3⟩
  simp only at h0 h1 h2 h3 ⊢
  refine Ok.bind (pick_in b q 9 hB (by omega) (by omega) (by omega) (by omega)) ?_
  rintro ⟨w, q2⟩ ⟨rfl, h4, h5⟩
  exact Ok.ret h0.1
theorem FnDishesFind : laws_FnDishesFind.Pure := by
  intro l _ _ hl
  apply Ok.rounds
  unfold laws_FnDishesFind.f
  refine Ok.ite (fun _ => Ok.ret rfl) fun _ => Ok.bind (drawDishesFind_ok l hl) ?_
  rintro ⟨d, id⟩ hd
  simp only at hd ⊢
  rw [iDFind_eq]
  refine Ok.val (Ok.bind (P := (· = dPl d id)) (by unfold spec_DishesFind.f; exact Ok.bind (l11Find_ok d id (by omega)) fun r h1 => Ok.ret h1) ?_)
  rintro _ rfl
  refine Ok.pos rfl ?_
  refine Ok.range (fun (_ : Unit) i k => laws_FnDishesFind.l0 k d id (dPl d id) i) d.length (fun i _ => ∀ j, j < i → (dAt d j).f0 ≠ id) _ ?_ ?_ () (fun j hj => absurd hj (by omega))
  · intro i _ hi hinv ih
    refine Ok.step (fun k => by simp only [laws_FnDishesFind.l0]; rfl) (Ok.pos (by omega) (Ok.pos (by omega) ?_))
    rw [dAt_rd, wrap_id (n := (i : Int) + 1) (by omega) (by omega)]
    refine Ok.ite (fun h => Ok.ret ?_) (fun h => ih () fun j hj => ?_)
    · rw [dPl_hit hi h hinv]; simp
    · rcases Nat.lt_succ_iff_lt_or_eq.1 hj with h1 | rfl
      · exact hinv j h1
      · exact h
  · intro _ hinv
    refine Ok.step (fun k => by simp only [laws_FnDishesFind.l0]; rfl) (Ok.neg (by omega) (Ok.ret ?_))
    rw [dPl_none hinv]; simp
end Go.Proofs.Ytclldijjbmnkeaa.Pure
