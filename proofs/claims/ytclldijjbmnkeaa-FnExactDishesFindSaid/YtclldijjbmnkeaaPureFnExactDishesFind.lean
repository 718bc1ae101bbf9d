/- The program's DishesFind returns what the reference's returns, for all arguments. No conditions. -/
import Derived.Test.YtclldijjbmnkeaaWMore
import Derived.Test.YtclldijjbmnkeaaQx0
import Derived.Test.YtclldijjbmnkeaaQx5
import Derived.Test.YtclldijjbmnkeaaQx6
import Derived.Test.YtclldijjbmnkeaaQx7
import Derived.Test.YtclldijjbmnkeaaQx8
/- Plain logic for printed functions: from some number of rounds on a function answers, and its answer fits. No conditions. -/
namespace Go.Proofs.Ytclldijjbmnkeaa.Pure
open Go.RowKit Go.Proofs.YtclldijjbmnkeaaW.PrintWords Go.Proofs.YtclldijjbmnkeaaW.PrintLast

/-- g answers from some number of rounds on, and the answer is as Q says. -/
def Ok {α : Type} (g : Nat → Option α) (Q : α → Prop) : Prop := ∃ r, Ev g r ∧ Q r
theorem Ok.ret {α : Type} {r : α} {Q : α → Prop} (h : Q r) : Ok (fun _ => some r) Q := ⟨r, Ev.now r, h⟩
theorem Ok.bind {α β : Type} {g : Nat → Option α} {f : Nat → α → Option β} {P : α → Prop} {Q : β → Prop} (h : Ok g P) (k : ∀ a, P a → Ok (fun n => f n a) Q) : Ok (fun n => (g n).bind (f n)) Q := by
  obtain ⟨a, ha, hp⟩ := h
  obtain ⟨r, hr, hq⟩ := k a hp
  exact ⟨r, Ev.bind ha hr, hq⟩
theorem Ok.val {α β : Type} {a : α} {f : Nat → α → Option β} {Q : β → Prop} (h : Ok (fun n => f n a) Q) : Ok (fun n => (some a).bind (f n)) Q := h
theorem Ok.pos {α : Type} {c : Prop} [Decidable c] {t e : Nat → Option α} {Q : α → Prop} (hc : c) (h : Ok t Q) : Ok (fun n => if c then t n else e n) Q := by simpa only [if_pos hc] using h
theorem Ok.neg {α : Type} {c : Prop} [Decidable c] {t e : Nat → Option α} {Q : α → Prop} (hc : ¬ c) (h : Ok e Q) : Ok (fun n => if c then t n else e n) Q := by simpa only [if_neg hc] using h
theorem Ok.ite {α : Type} {c : Prop} [Decidable c] {t e : Nat → Option α} {Q : α → Prop} (h : c → Ok t Q) (k : ¬ c → Ok e Q) : Ok (fun n => if c then t n else e n) Q := by
  by_cases hc : c
  · exact Ok.pos hc (h hc)
  · exact Ok.neg hc (k hc)
theorem Ok.step {α : Type} {g f : Nat → Option α} {Q : α → Prop} (h : ∀ k, g (k + 1) = f k) (k : Ok f Q) : Ok g Q := by
  obtain ⟨r, hr, hq⟩ := k
  exact ⟨r, Ev.step h hr, hq⟩
theorem Ok.and {α : Type} {g : Nat → Option α} {P Q : α → Prop} (h : Ok g P) (k : Ok g Q) : Ok g (fun a => P a ∧ Q a) := by
  obtain ⟨r, ⟨K, hr⟩, hp⟩ := h
  obtain ⟨r', ⟨K', hr'⟩, hq⟩ := k
  have h1 := hr (max K K') (by omega)
  have h2 := hr' (max K K') (by omega)
  obtain rfl : r = r' := by rw [h1] at h2; injection h2
  exact ⟨r, ⟨K, hr⟩, hp, hq⟩
theorem Ok.rounds {α : Type} {g : Nat → Option α} {r : α} (h : Ok g (· = r)) : ∃ k, g k = some r := by
  obtain ⟨_, hr, rfl⟩ := h
  exact hr.rounds
theorem wrap_id {n : Int} (h0 : -9223372036854775808 ≤ n) (h1 : n ≤ 9223372036854775807) : wrap64 n = n := by unfold wrap64; omega
/-- A loop that counts an index up to n, with what else it carries in s. -/
theorem Ok.range {σ ρ : Type} (L : σ → Int → Nat → Option ρ) (n : Nat) (Inv : Nat → σ → Prop) (Q : ρ → Prop)
    (step : ∀ (i : Nat) (s : σ), i < n → Inv i s → (∀ s', Inv (i + 1) s' → Ok (L s' ((i : Int) + 1)) Q) → Ok (L s (i : Int)) Q)
    (last : ∀ s, Inv n s → Ok (L s (n : Int)) Q) : ∀ s, Inv 0 s → Ok (L s 0) Q := by
  have key : ∀ d i, i + d = n → ∀ s, Inv i s → Ok (L s (i : Int)) Q := by
    intro d
    induction d with
    | zero => intro i hi s hs; obtain rfl : i = n := (by omega); exact last s hs
    | succ d ih =>
      intro i hi s hs
      refine step i s (by omega) hs fun s' hs' => ?_
      have := ih (i + 1) (by omega) s' hs'
      rwa [show ((i + 1 : Nat) : Int) = (i : Int) + 1 by omega] at this
  exact fun s hs => key n 0 (by omega) s hs
theorem getD_at {α : Type} (l : List α) (d : α) (i : Nat) (h : i < l.length) : l.getD i d = l[i] := by
  rw [List.getD_eq_getElem?_getD, List.getElem?_eq_getElem h, Option.getD_some]
theorem len_small {α : Type} {l : List α} (h : l.length ≤ maxLen) : (l.length : Int) ≤ 9223372036854775807 := by unfold maxLen at h; omega
end Go.Proofs.Ytclldijjbmnkeaa.Pure
/- Lists, read and written element by element. No conditions. -/
namespace Go.Proofs.Ytclldijjbmnkeaa.Pure
open Go.RowKit Go.Proofs.YtclldijjbmnkeaaW.PrintWords Go.Proofs.YtclldijjbmnkeaaW.PrintLast
set_option linter.unusedVariables false
set_option linter.unusedSimpArgs false

theorem eq_of_getD {α : Type} {a b : List α} (d : α) (h : a.length = b.length) (k : ∀ i, i < a.length → a.getD i d = b.getD i d) : a = b := by
  refine List.ext_getElem h fun i h1 h2 => ?_
  have := k i h1
  rwa [getD_at _ _ _ h1, getD_at _ _ _ h2] at this
theorem getD_set {α : Type} (l : List α) (d v : α) (i j : Nat) (hi : i < l.length) : (l.set i v).getD j d = if j = i then v else l.getD j d := by
  rw [List.getD_eq_getElem?_getD, List.getElem?_set]
  by_cases h : i = j
  · subst h; simp [hi]
  · rw [if_neg h, if_neg (fun e => h e.symm), ← List.getD_eq_getElem?_getD]
end Go.Proofs.Ytclldijjbmnkeaa.Pure
/- The program's dishes, as lists. No conditions. -/
namespace Go.Proofs.Ytclldijjbmnkeaa.Pure
open Go.RowKit Go.Proofs.YtclldijjbmnkeaaW.PrintWords Go.Proofs.YtclldijjbmnkeaaW.PrintLast Go.Proofs.Ytclldijjbmnkeaa.Q
set_option linter.unusedVariables false
set_option linter.unusedSimpArgs false
abbrev Pt := S55
abbrev Ds := S29
def dAt (l : List Ds) (i : Nat) : Ds := l.getD i z29
theorem dAt_rd (l : List Ds) (i : Nat) : rd_T29 l (i : Int) = dAt l i := rfl
end Go.Proofs.Ytclldijjbmnkeaa.Pure
/- The place of a dish, in the program and in the reference. Condition: at most 2,000,000 dishes. -/
namespace Go.Proofs.Ytclldijjbmnkeaa.Pure
open Go.RowKit Go.Proofs.YtclldijjbmnkeaaW.PrintWords Go.Proofs.YtclldijjbmnkeaaW.PrintLast Go.Proofs.Ytclldijjbmnkeaa.Q
set_option linter.unusedVariables false
set_option linter.unusedSimpArgs false
def dPl (l : List Ds) (id : Int) : Int := idxOf (fun x => x.f0 == id) l
theorem iDFind_eq (l : List Ds) (id : Int) : impl_DishesFind.f l id = some (dPl l id) := rfl
theorem dPl_none {l : List Ds} {id : Int} (h : ∀ j, j < l.length → (dAt l j).f0 ≠ id) : dPl l id = -1 := idxOf_miss _ l z29 fun j hj => beq_eq_false_iff_ne.2 (h j hj)
theorem dPl_hit {l : List Ds} {id : Int} {k : Nat} (hk : k < l.length) (h : (dAt l k).f0 = id) (hn : ∀ j, j < k → (dAt l j).f0 ≠ id) : dPl l id = (k : Int) := idxOf_hit _ l z29 k hk (beq_iff_eq.2 h) fun j hj => beq_eq_false_iff_ne.2 (hn j hj)
theorem l11Find_ok (l : List Ds) (id : Int) (hl : l.length ≤ 2000000) : Ok (fun k => spec_l11Find.f k l id) (· = dPl l id) := by
  unfold spec_l11Find.f
  refine Ok.range (fun (_ : Unit) i k => spec_l11Find.l0 k l id i) l.length (fun i _ => ∀ j, j < i → (dAt l j).f0 ≠ id) _ ?_ ?_ () (fun j hj => absurd hj (by omega))
  · intro i _ hi hinv ih
    refine Ok.step (fun k => by simp only [spec_l11Find.l0]; rfl) (Ok.pos (by omega) (Ok.pos (by omega) ?_))
    rw [dAt_rd, wrap_id (n := (i : Int) + 1) (by omega) (by omega)]
    refine Ok.ite (fun h => Ok.ret (dPl_hit hi h hinv).symm) (fun h => ih () fun j hj => ?_)
    rcases Nat.lt_succ_iff_lt_or_eq.1 hj with h1 | rfl
    · exact hinv j h1
    · exact h
  · intro _ hinv
    exact Ok.step (fun k => by simp only [spec_l11Find.l0]; rfl) (Ok.neg (by omega) (Ok.ret (dPl_none hinv).symm))
end Go.Proofs.Ytclldijjbmnkeaa.Pure
/- The laws' dishes and the program's: copied field by field, and compared. Condition: at most 2,000,000 dishes, each of at most 2,000,000 parts. -/
namespace Go.Proofs.Ytclldijjbmnkeaa.Pure
open Go.RowKit Go.Proofs.YtclldijjbmnkeaaW.PrintWords Go.Proofs.YtclldijjbmnkeaaW.PrintLast Go.Proofs.Ytclldijjbmnkeaa.Q
set_option linter.unusedVariables false
set_option linter.unusedSimpArgs false
abbrev LDs := S76
abbrev LPt := S111
def cvPart (x : LPt) : Pt := ⟨x.f0, x.f1, x.f2⟩
def cvDish (x : LDs) : Ds := ⟨x.f0, x.f1, x.f2.map cvPart⟩
def lAt (l : List LDs) (i : Nat) : LDs := l.getD i z76
theorem lAt_rd (l : List LDs) (i : Nat) : rd_T76 l (i : Int) = lAt l i := rfl
theorem toPartS_ok (l : List LPt) (hl : l.length ≤ 2000000) : Ok (fun k => laws_toPartS.f k l) (· = l.map cvPart) := by
  unfold laws_toPartS.f
  refine Ok.pos (by omega) (Ok.pos (Nat.le_trans (m := 2000000) (by omega) (by decide)) ?_)
  refine Ok.range (fun (s : List Pt) i k => laws_toPartS.l0 k l s i) l.length (fun i s => s.length = l.length ∧ ∀ j, j < i → s.getD j z55 = (l.map cvPart).getD j z55) _ ?_ ?_ _ ⟨by simp, fun j hj => absurd hj (by omega)⟩
  · rintro i s hi ⟨h1, h2⟩ ih
    refine Ok.step (fun k => by simp only [laws_toPartS.l0]; rfl) (Ok.pos (by omega) (Ok.pos (by omega) ?_))
    simp only [laws_toPart.f, Option.bind_some]
    rw [wrap_id (n := (i : Int) + 1) (by omega) (by omega)]
    refine Ok.pos (by omega) (ih _ ⟨by simp [h1], fun j hj => ?_⟩)
    simp only [Int.toNat_natCast]
    rw [getD_set _ _ _ _ _ (by omega)]
    split
    · rename_i e; subst e
      rw [getD_at _ _ _ (by simp; omega), List.getElem_map]
      have e : rd_T111 l (j : Int) = l[j] := getD_at l z111 j (by omega)
      rw [e]; rfl
    · exact h2 j (by omega)
  · rintro s ⟨h1, h2⟩
    exact Ok.step (fun k => by simp only [laws_toPartS.l0]; rfl) (Ok.neg (by omega) (Ok.ret (eq_of_getD z55 (by simp [h1]) (fun i hi => h2 i (by omega)))))
theorem toDishS_ok (l : List LDs) (hl : l.length ≤ 2000000) (hp : ∀ i, i < l.length → (lAt l i).f2.length ≤ 2000000) : Ok (fun k => laws_toDishS.f k l) (· = l.map cvDish) := by
  unfold laws_toDishS.f
  refine Ok.pos (by omega) (Ok.pos (Nat.le_trans (m := 2000000) (by omega) (by decide)) ?_)
  refine Ok.range (fun (s : List Ds) i k => laws_toDishS.l0 k l s i) l.length (fun i s => s.length = l.length ∧ ∀ j, j < i → s.getD j z29 = (l.map cvDish).getD j z29) _ ?_ ?_ _ ⟨by simp, fun j hj => absurd hj (by omega)⟩
  · rintro i s hi ⟨h1, h2⟩ ih
    refine Ok.step (fun k => by simp only [laws_toDishS.l0]; rfl) (Ok.pos (by omega) (Ok.pos (by omega) ?_))
    rw [lAt_rd, wrap_id (n := (i : Int) + 1) (by omega) (by omega)]
    have td : Ok (fun k => laws_toDish.f k (lAt l i).f0 (lAt l i).f1 (lAt l i).f2) (· = ((lAt l i).f0, (lAt l i).f1, (lAt l i).f2.map cvPart)) := by
      unfold laws_toDish.f
      refine Ok.bind (toPartS_ok _ (hp i hi)) ?_
      rintro _ rfl
      exact Ok.ret rfl
    refine Ok.bind td ?_
    rintro _ rfl
    simp only
    refine Ok.pos (by omega) (ih _ ⟨by simp [h1], fun j hj => ?_⟩)
    simp only [Int.toNat_natCast]
    rw [getD_set _ _ _ _ _ (by omega)]
    split
    · rename_i e; subst e
      rw [getD_at _ _ _ (by simp; omega), List.getElem_map]
      have e : lAt l j = l[j] := getD_at l z76 j (by omega)
      rw [e]; rfl
    · exact h2 j (by omega)
  · rintro s ⟨h1, h2⟩
    exact Ok.step (fun k => by simp only [laws_toDishS.l0]; rfl) (Ok.neg (by omega) (Ok.ret (eq_of_getD z29 (by simp [h1]) (fun i hi => h2 i (by omega)))))
theorem map_at (l : List LDs) (i : Nat) (hi : i < l.length) : dAt (l.map cvDish) i = cvDish (lAt l i) := by
  unfold dAt lAt
  rw [getD_at _ _ _ (by simpa using hi), getD_at _ _ _ hi, List.getElem_map]
theorem szDishS_ok (l : List LDs) (hl : l.length ≤ maxLen) (hw : ∀ x ∈ l, x.f2.length ≤ maxLen) : Ok (fun k => laws_szDishS.f k l 1048576) (fun r => r < 0 ∨ (0 ≤ r ∧ r ≤ 1048576 ∧ l.length ≤ 1048576 ∧ ∀ i, i < l.length → (lAt l i).f2.length ≤ 1048576)) := by
  unfold laws_szDishS.f
  have h0 := len_small hl
  rw [wrap_id (n := 1048576 - (l.length : Int)) (by omega) (by omega)]
  refine Ok.ite (fun _ => Ok.ret (.inl (by omega))) (fun hn => ?_)
  refine Ok.range (fun (s : Int) i k => laws_szDishS.l0 k l s i) l.length (fun i s => 0 ≤ s ∧ s ≤ 1048576 ∧ ∀ j, j < i → (lAt l j).f2.length ≤ 1048576) _ ?_ ?_ _ ⟨by omega, by omega, fun j hj => absurd hj (by omega)⟩
  · rintro i s hi ⟨h1, h2, h3⟩ ih
    refine Ok.step (fun k => by simp only [laws_szDishS.l0]; rfl) (Ok.pos (by omega) (Ok.pos (by omega) ?_))
    rw [lAt_rd, wrap_id (n := (i : Int) + 1) (by omega) (by omega)]
    have hx : (lAt l i).f2.length ≤ maxLen := by
      unfold lAt
      rw [getD_at _ _ _ hi]
      exact hw _ (List.getElem_mem hi)
    have hb := len_small hx
    unfold laws_szDish.f laws_szPartS.f
    rw [wrap_id (n := s - ((lAt l i).f2.length : Int)) (by omega) (by omega)]
    by_cases hs : s - ((lAt l i).f2.length : Int) < 0
    · rw [if_pos hs]
      simp only [Option.bind_some]
      rw [if_pos (by omega)]
      simp only [Option.bind_some]
      exact Ok.pos (by omega) (Ok.ret (.inl (by omega)))
    · rw [if_neg hs]
      simp only [Option.bind_some]
      rw [if_neg hs]
      simp only [Option.bind_some]
      refine Ok.neg hs (ih _ ⟨by omega, by omega, fun j hj => ?_⟩)
      rcases Nat.lt_succ_iff_lt_or_eq.1 hj with h4 | rfl
      · exact h3 j h4
      · omega
  · rintro s ⟨h1, h2, h3⟩
    exact Ok.step (fun k => by simp only [laws_szDishS.l0]; rfl) (Ok.neg (by omega) (Ok.ret (.inr ⟨h1, h2, by omega, h3⟩)))
theorem eqPartS_ok (l : List Pt) (hl : l.length ≤ 2000000) : Ok (fun k => laws_eqPartS.f k l l) (· = true) := by
  unfold laws_eqPartS.f
  refine Ok.pos rfl ?_
  refine Ok.range (fun (_ : Unit) i k => laws_eqPartS.l0 k l l i) l.length (fun _ _ => True) _ ?_ ?_ () trivial
  · intro i _ hi _ ih
    refine Ok.step (fun k => by simp only [laws_eqPartS.l0]; rfl) (Ok.pos (by omega) (Ok.pos (by omega) (Ok.pos (by omega) ?_)))
    simp only [laws_eqPart.f, if_true, Option.bind_some]
    rw [wrap_id (n := (i : Int) + 1) (by omega) (by omega)]
    exact ih () trivial
  · intro _ _
    exact Ok.step (fun k => by simp only [laws_eqPartS.l0]; rfl) (Ok.neg (by omega) (Ok.ret rfl))
theorem eqDishS_ok (l : List Ds) (hl : l.length ≤ 2000000) (hp : ∀ i, i < l.length → (dAt l i).f2.length ≤ 2000000) : Ok (fun k => laws_eqDishS.f k l l) (· = true) := by
  unfold laws_eqDishS.f
  refine Ok.pos rfl ?_
  refine Ok.range (fun (_ : Unit) i k => laws_eqDishS.l0 k l l i) l.length (fun _ _ => True) _ ?_ ?_ () trivial
  · intro i _ hi _ ih
    refine Ok.step (fun k => by simp only [laws_eqDishS.l0]; rfl) (Ok.pos (by omega) (Ok.pos (by omega) (Ok.pos (by omega) ?_)))
    rw [dAt_rd, wrap_id (n := (i : Int) + 1) (by omega) (by omega)]
    have te : Ok (fun k => laws_eqDish.f k (dAt l i).f0 (dAt l i).f1 (dAt l i).f2 (dAt l i).f0 (dAt l i).f1 (dAt l i).f2) (· = true) := by
      unfold laws_eqDish.f
      refine Ok.pos rfl (Ok.pos rfl (Ok.bind (eqPartS_ok _ (hp i hi)) ?_))
      rintro _ rfl
      exact Ok.pos (by trivial) (Ok.ret rfl)
    refine Ok.bind te ?_
    rintro _ rfl
    exact Ok.pos (by trivial) (ih () trivial)
  · intro _ _
    exact Ok.step (fun k => by simp only [laws_eqDishS.l0]; rfl) (Ok.neg (by omega) (Ok.ret rfl))
end Go.Proofs.Ytclldijjbmnkeaa.Pure
/- The program's DishesFind returns what the reference's returns, for all arguments. No conditions. -/
namespace Go.Proofs.Ytclldijjbmnkeaa.Pure
open Go.RowKit Go.Proofs.YtclldijjbmnkeaaW.PrintWords Go.Proofs.YtclldijjbmnkeaaW.PrintLast Go.Proofs.Ytclldijjbmnkeaa.Q
set_option linter.unusedVariables false
set_option linter.unusedSimpArgs false
theorem FnExactDishesFind (l : List S76) (hm : l.length ≤ maxLen) (hw : ∀ x ∈ l, x.f2.length ≤ maxLen) (id : Int) (_ : (Lit.int .i64 id).wf = true) : ∃ k, laws_FnExactDishesFind.f k l id = some true := by
  apply Ok.rounds
  unfold laws_FnExactDishesFind.f
  refine Ok.bind (szDishS_ok l hm hw) fun r hr => Ok.ite (fun _ => Ok.ret rfl) fun h => ?_
  rcases hr with hr | ⟨_, _, hl, hp⟩
  · exact absurd hr h
  have hl2 : l.length ≤ 2000000 := by omega
  have hp2 : ∀ i, i < l.length → (lAt l i).f2.length ≤ 2000000 := fun i hi => by have := hp i hi; omega
  have hl' : (l.map cvDish).length ≤ 2000000 := by simpa using hl2
  have hp' : ∀ i, i < (l.map cvDish).length → (dAt (l.map cvDish) i).f2.length ≤ 2000000 := fun i hi => by
    have hi' : i < l.length := by simpa using hi
    rw [map_at l i hi']
    simpa [cvDish] using hp2 i hi'
  refine Ok.bind (toDishS_ok l hl2 hp2) ?_
  rintro _ rfl
  unfold spec_DishesFind.f
  refine Ok.bind (Ok.bind (l11Find_ok _ id hl') fun r h1 => Ok.ret h1) ?_
  rintro _ rfl
  refine Ok.bind (toDishS_ok l hl2 hp2) ?_
  rintro _ rfl
  rw [iDFind_eq]
  refine Ok.val (Ok.pos rfl (Ok.bind (toDishS_ok l hl2 hp2) ?_))
  rintro _ rfl
  refine Ok.bind (eqDishS_ok _ hl' hp') ?_
  rintro _ rfl
  exact Ok.pos (by trivial) (Ok.ret rfl)
end Go.Proofs.Ytclldijjbmnkeaa.Pure
