/- How the parameters of this seat's laws read: what is read as data is, as cells, of a kind. No conditions. -/
import Derived.Test.YtclldijjbmnkeaaQx0
import Derived.ProofKit
import Derived.Deep.Slices
import Derived.OpenShut
import Derived.Lib.SmallJoins
namespace Go.Proofs.Ytclldijjbmnkeaa.Opens
open Go.ChangeShapes Go.WideShapes Go.RowKit Go.Deep Go.Proofs.YtclldijjbmnkeaaW.PrintWords Go.Proofs.Ytclldijjbmnkeaa.Q
set_option linter.unusedVariables false
set_option linter.unusedSimpArgs false
/-- Whatever reads at type t is, as cells, of the kind d. -/
def Opens {α : Type} (P : Program) (t : TypeId) (d : Kd α) : Prop := ∀ {H : Type} (enc : TypeId × Value → H) (w : World) (base : Nat) (spare : Nat → Bool) (held : Bool) (fuel : Nat) (cs : List Value) (x : DataW H × List MemPlace), DataW.trod enc P w base spare held fuel t cs = some x → ∃ a, d.K w a cs
theorem opens_int {P : Program} {t : TypeId} {k : IntKind} (ht : P.underlying t = some (.int k)) : Opens P t (Kd.int k) := by
  intro H enc w base spare held fuel cs x h
  obtain ⟨n, rfl, _⟩ := DataW.trod_int ht h
  exact ⟨n, rfl⟩
theorem opens_bool {P : Program} {t : TypeId} (ht : P.underlying t = some .bool) : Opens P t Kd.bool := by
  intro H enc w base spare held fuel cs x h
  obtain ⟨n, rfl, _⟩ := DataW.trod_bool ht h
  exact ⟨n, rfl⟩
theorem opens_slice {α : Type} [Inhabited α] {P : Program} {t e : TypeId} {d : Kd α} (ht : P.underlying t = some (.slice e)) (hc : P.cellsOf e = d.sz) (hE : Opens P e d) : Opens P t (Kd.slice e d) := by
  intro H enc w base spare held fuel cs x h
  rcases open_slice ht h with ⟨rfl, _⟩ | ⟨a, len, cap, m, n, D, Pl, rfl, _, hl, hm, hmm, _, hx⟩
  · exact ⟨[], none, 0, rfl, Nat.le_refl _, rfl, by simp, fun h => absurd h (by simp)⟩
  have hlm : len ≤ m := by rw [hmm]; split <;> omega
  have hp : ∀ i, i < len → ∃ p : α, ∃ c : List Value, c.length = d.sz ∧ d.K w p c ∧ ∀ j u, c[j]? = some u → w.cell? (a.add (i * d.sz + j)) = some u := by
    intro i hi
    obtain ⟨cs', h1, h2⟩ := hx i (by omega)
    obtain ⟨p, hp⟩ := hE _ _ _ _ _ _ _ _ h2
    obtain ⟨_, hlen, hcell⟩ := World.cells?_some h1
    refine ⟨p, cs', d.K_len hp, hp, fun j u hu => ?_⟩
    have hj : j < cs'.length := (List.getElem?_eq_some_iff.1 hu).1
    have := hcell j (by omega)
    rw [Deep.add_add, hc] at this
    rw [this, hu]
  have hpc : ∃ f : Nat → α, ∀ i, i < len → ∃ c : List Value, c.length = d.sz ∧ d.K w (f i) c ∧ ∀ j u, c[j]? = some u → w.cell? (a.add (i * d.sz + j)) = some u := choose_lt hp
  obtain ⟨f, hf⟩ := hpc
  refine ⟨(List.range len).map f, some a, cap, by simp, by simpa using hl, by simp, by simp; unfold maxLen at hm; omega, fun _ => ⟨a, rfl, fun j p hj => ?_⟩⟩
  have hj' : j < len := by
    have := (List.getElem?_eq_some_iff.1 hj).1
    simpa using this
  obtain rfl : f j = p := by
    rw [List.getElem?_map, List.getElem?_range hj'] at hj
    simpa using hj
  exact hf j hj'

theorem opens3 : Opens Try.prog 3 (Kd.int .i64) := opens_int Try.underlying3
instance : Inhabited S111 := ⟨z111⟩
theorem cells111 : Try.prog.cellsOf 111 = 3 := by kernel_rfl
set_option maxRecDepth 100000 in
theorem opens111 : Opens Try.prog 111 k111 := by
  intro H enc w base spare held fuel cs x h
  obtain ⟨xs, m, _, _, hl, hlen, hf⟩ := DataW.trod_struct Try.underlying111 h
  rw [cells111] at hl
  match cs, hl with
  | [c0, c1, c2], _ =>
    have e0 : DataW.trod enc Try.prog w base spare held m 3 (([c0, c1, c2].drop 0).take (Try.prog.cellsOf 3)) = xs[0]? := hf 0 _ rfl
    rw [List.getElem?_eq_getElem (by rw [hlen]; decide), show Try.prog.cellsOf 3 = 1 from by kernel_rfl] at e0
    obtain ⟨v0, g0⟩ := opens3 _ _ _ _ _ _ _ _ e0
    have g0' : (Kd.int .i64).K w v0 [c0] := g0
    have e1 : DataW.trod enc Try.prog w base spare held m 3 (([c0, c1, c2].drop 1).take (Try.prog.cellsOf 3)) = xs[1]? := hf 1 _ rfl
    rw [List.getElem?_eq_getElem (by rw [hlen]; decide), show Try.prog.cellsOf 3 = 1 from by kernel_rfl] at e1
    obtain ⟨v1, g1⟩ := opens3 _ _ _ _ _ _ _ _ e1
    have g1' : (Kd.int .i64).K w v1 [c1] := g1
    have e2 : DataW.trod enc Try.prog w base spare held m 3 (([c0, c1, c2].drop 2).take (Try.prog.cellsOf 3)) = xs[2]? := hf 2 _ rfl
    rw [List.getElem?_eq_getElem (by rw [hlen]; decide), show Try.prog.cellsOf 3 = 1 from by kernel_rfl] at e2
    obtain ⟨v2, g2⟩ := opens3 _ _ _ _ _ _ _ _ e2
    have g2' : (Kd.int .i64).K w v2 [c2] := g2
    exact ⟨⟨v0, v1, v2⟩, ⟨[c0], [c1, c2], rfl, g0', ⟨[c1], [c2], rfl, g1', g2'⟩⟩⟩
theorem opens74 : Opens Try.prog 74 (Kd.slice 111 k111) := opens_slice Try.underlying74 (by kernel_rfl) opens111
instance : Inhabited S76 := ⟨z76⟩
theorem cells76 : Try.prog.cellsOf 76 = 3 := by kernel_rfl
set_option maxRecDepth 100000 in
theorem opens76 : Opens Try.prog 76 k76 := by
  intro H enc w base spare held fuel cs x h
  obtain ⟨xs, m, _, _, hl, hlen, hf⟩ := DataW.trod_struct Try.underlying76 h
  rw [cells76] at hl
  match cs, hl with
  | [c0, c1, c2], _ =>
    have e0 : DataW.trod enc Try.prog w base spare held m 3 (([c0, c1, c2].drop 0).take (Try.prog.cellsOf 3)) = xs[0]? := hf 0 _ rfl
    rw [List.getElem?_eq_getElem (by rw [hlen]; decide), show Try.prog.cellsOf 3 = 1 from by kernel_rfl] at e0
    obtain ⟨v0, g0⟩ := opens3 _ _ _ _ _ _ _ _ e0
    have g0' : (Kd.int .i64).K w v0 [c0] := g0
    have e1 : DataW.trod enc Try.prog w base spare held m 3 (([c0, c1, c2].drop 1).take (Try.prog.cellsOf 3)) = xs[1]? := hf 1 _ rfl
    rw [List.getElem?_eq_getElem (by rw [hlen]; decide), show Try.prog.cellsOf 3 = 1 from by kernel_rfl] at e1
    obtain ⟨v1, g1⟩ := opens3 _ _ _ _ _ _ _ _ e1
    have g1' : (Kd.int .i64).K w v1 [c1] := g1
    have e2 : DataW.trod enc Try.prog w base spare held m 74 (([c0, c1, c2].drop 2).take (Try.prog.cellsOf 74)) = xs[2]? := hf 2 _ rfl
    rw [List.getElem?_eq_getElem (by rw [hlen]; decide), show Try.prog.cellsOf 74 = 1 from by kernel_rfl] at e2
    obtain ⟨v2, g2⟩ := opens74 _ _ _ _ _ _ _ _ e2
    have g2' : (Kd.slice 111 k111).K w v2 [c2] := g2
    exact ⟨⟨v0, v1, v2⟩, ⟨[c0], [c1, c2], rfl, g0', ⟨[c1], [c2], rfl, g1', g2'⟩⟩⟩
theorem opens31 : Opens Try.prog 31 (Kd.slice 76 k76) := opens_slice Try.underlying31 (by kernel_rfl) opens76
instance : Inhabited S81 := ⟨z81⟩
theorem cells81 : Try.prog.cellsOf 81 = 6 := by kernel_rfl
set_option maxRecDepth 100000 in
theorem opens81 : Opens Try.prog 81 k81 := by
  intro H enc w base spare held fuel cs x h
  obtain ⟨xs, m, _, _, hl, hlen, hf⟩ := DataW.trod_struct Try.underlying81 h
  rw [cells81] at hl
  match cs, hl with
  | [c0, c1, c2, c3, c4, c5], _ =>
    have e0 : DataW.trod enc Try.prog w base spare held m 3 (([c0, c1, c2, c3, c4, c5].drop 0).take (Try.prog.cellsOf 3)) = xs[0]? := hf 0 _ rfl
    rw [List.getElem?_eq_getElem (by rw [hlen]; decide), show Try.prog.cellsOf 3 = 1 from by kernel_rfl] at e0
    obtain ⟨v0, g0⟩ := opens3 _ _ _ _ _ _ _ _ e0
    have g0' : (Kd.int .i64).K w v0 [c0] := g0
    have e1 : DataW.trod enc Try.prog w base spare held m 3 (([c0, c1, c2, c3, c4, c5].drop 1).take (Try.prog.cellsOf 3)) = xs[1]? := hf 1 _ rfl
    rw [List.getElem?_eq_getElem (by rw [hlen]; decide), show Try.prog.cellsOf 3 = 1 from by kernel_rfl] at e1
    obtain ⟨v1, g1⟩ := opens3 _ _ _ _ _ _ _ _ e1
    have g1' : (Kd.int .i64).K w v1 [c1] := g1
    have e2 : DataW.trod enc Try.prog w base spare held m 3 (([c0, c1, c2, c3, c4, c5].drop 2).take (Try.prog.cellsOf 3)) = xs[2]? := hf 2 _ rfl
    rw [List.getElem?_eq_getElem (by rw [hlen]; decide), show Try.prog.cellsOf 3 = 1 from by kernel_rfl] at e2
    obtain ⟨v2, g2⟩ := opens3 _ _ _ _ _ _ _ _ e2
    have g2' : (Kd.int .i64).K w v2 [c2] := g2
    have e3 : DataW.trod enc Try.prog w base spare held m 3 (([c0, c1, c2, c3, c4, c5].drop 3).take (Try.prog.cellsOf 3)) = xs[3]? := hf 3 _ rfl
    rw [List.getElem?_eq_getElem (by rw [hlen]; decide), show Try.prog.cellsOf 3 = 1 from by kernel_rfl] at e3
    obtain ⟨v3, g3⟩ := opens3 _ _ _ _ _ _ _ _ e3
    have g3' : (Kd.int .i64).K w v3 [c3] := g3
    have e4 : DataW.trod enc Try.prog w base spare held m 3 (([c0, c1, c2, c3, c4, c5].drop 4).take (Try.prog.cellsOf 3)) = xs[4]? := hf 4 _ rfl
    rw [List.getElem?_eq_getElem (by rw [hlen]; decide), show Try.prog.cellsOf 3 = 1 from by kernel_rfl] at e4
    obtain ⟨v4, g4⟩ := opens3 _ _ _ _ _ _ _ _ e4
    have g4' : (Kd.int .i64).K w v4 [c4] := g4
    have e5 : DataW.trod enc Try.prog w base spare held m 3 (([c0, c1, c2, c3, c4, c5].drop 5).take (Try.prog.cellsOf 3)) = xs[5]? := hf 5 _ rfl
    rw [List.getElem?_eq_getElem (by rw [hlen]; decide), show Try.prog.cellsOf 3 = 1 from by kernel_rfl] at e5
    obtain ⟨v5, g5⟩ := opens3 _ _ _ _ _ _ _ _ e5
    have g5' : (Kd.int .i64).K w v5 [c5] := g5
    exact ⟨⟨v0, v1, v2, v3, v4, v5⟩, ⟨[c0], [c1, c2, c3, c4, c5], rfl, g0', ⟨[c1], [c2, c3, c4, c5], rfl, g1', ⟨[c2], [c3, c4, c5], rfl, g2', ⟨[c3], [c4, c5], rfl, g3', ⟨[c4], [c5], rfl, g4', g5'⟩⟩⟩⟩⟩⟩
theorem opens36 : Opens Try.prog 36 (Kd.slice 81 k81) := opens_slice Try.underlying36 (by kernel_rfl) opens81
end Go.Proofs.Ytclldijjbmnkeaa.Opens
