/- How the parameters of this seat's laws read: what is read as data is, as cells, of a kind. No conditions. -/
import Derived.Test.YtglpjchpgjaanaaQx0
import Derived.ProofKit
import Derived.Deep.Slices
import Derived.OpenShut
import Derived.Lib.SmallJoins
namespace Go.Proofs.Ytglpjchpgjaanaa.Opens
open Go.ChangeShapes Go.WideShapes Go.RowKit Go.Deep Go.Proofs.YtglpjchpgjaanaaW.PrintWords Go.Proofs.Ytglpjchpgjaanaa.Q
set_option linter.unusedVariables false
set_option linter.unusedSimpArgs false
/-- Whatever reads at type t is, as cells, of the kind d. -/
def Opens {α : Type} (P : Program) (t : TypeId) (d : Kd α) : Prop := ∀ {H : Type} (enc : TypeId × Value → H) (w : World) (base : Nat) (spare : Nat → Bool) (held : Bool) (fuel : Nat) (cs : List Value) (x : DataW H × List MemPlace), DataW.trod enc P w base spare held fuel t cs = some x → ∃ a, d.K w a cs
theorem opens_int {P : Program} {t : TypeId} {k : IntKind} (ht : P.underlying t = some (.int k)) : Opens P t (Kd.int k) := by
  intro H enc w base spare held fuel cs x h
  obtain ⟨n, rfl, _⟩ := DataW.trod_int ht h
  exact ⟨n, rfl⟩
theorem opens_bool {P : Program} {t : TypeId} (ht : P.underlying t = some .bool) : Opens P t Kd.bool := by
  intro H enc w base spare held fuel cs x h
  obtain ⟨n, rfl, _⟩ := DataW.trod_bool ht h
  exact ⟨n, rfl⟩
theorem opens_slice {α : Type} [Inhabited α] {P : Program} {t e : TypeId} {d : Kd α} (ht : P.underlying t = some (.slice e)) (hc : P.cellsOf e = d.sz) (hE : Opens P e d) : Opens P t (Kd.slice e d) := by
  intro H enc w base spare held fuel cs x h
  rcases open_slice ht h with ⟨rfl, _⟩ | ⟨a, len, cap, m, n, D, Pl, rfl, _, hl, hm, hmm, _, hx⟩
  · exact ⟨[], none, 0, rfl, Nat.le_refl _, rfl, by simp, fun h => absurd h (by simp)⟩
  have hlm : len ≤ m := by rw [hmm]; split <;> omega
  have hp : ∀ i, i < len → ∃ p : α, ∃ c : List Value, c.length = d.sz ∧ d.K w p c ∧ ∀ j u, c[j]? = some u → w.cell? (a.add (i * d.sz + j)) = some u := by
    intro i hi
    obtain ⟨cs', h1, h2⟩ := hx i (by omega)
    obtain ⟨p, hp⟩ := hE _ _ _ _ _ _ _ _ h2
    obtain ⟨_, hlen, hcell⟩ := World.cells?_some h1
    refine ⟨p, cs', d.K_len hp, hp, fun j u hu => ?_⟩
    have hj : j < cs'.length := (List.getElem?_eq_some_iff.1 hu).1
    have := hcell j (by omega)
    rw [Deep.add_add, hc] at this
    rw [this, hu]
  have hpc : ∃ f : Nat → α, ∀ i, i < len → ∃ c : List Value, c.length = d.sz ∧ d.K w (f i) c ∧ ∀ j u, c[j]? = some u → w.cell? (a.add (i * d.sz + j)) = some u := choose_lt hp
  obtain ⟨f, hf⟩ := hpc
  refine ⟨(List.range len).map f, some a, cap, by simp, by simpa using hl, by simp, by simp; unfold maxLen at hm; omega, fun _ => ⟨a, rfl, fun j p hj => ?_⟩⟩
  have hj' : j < len := by
    have := (List.getElem?_eq_some_iff.1 hj).1
    simpa using this
  obtain rfl : f j = p := by
    rw [List.getElem?_map, List.getElem?_range hj'] at hj
    simpa using hj
  exact hf j hj'

theorem opens3 : Opens Try.prog 3 (Kd.int .i64) := opens_int Try.underlying3
theorem opens4 : Opens Try.prog 4 Kd.bool := opens_bool Try.underlying4
instance : Inhabited S53 := ⟨z53⟩
theorem cells53 : Try.prog.cellsOf 53 = 3 := by kernel_rfl
theorem opens53 : Opens Try.prog 53 k53 := by
  intro H enc w base spare held fuel cs x h
  obtain ⟨xs, m, _, _, hl, hlen, hf⟩ := DataW.trod_struct Try.underlying53 h
  rw [cells53] at hl
  match cs, hl with
  | [c0, c1, c2], _ =>
    have e0 : DataW.trod enc Try.prog w base spare held m 3 (([c0, c1, c2].drop 0).take (Try.prog.cellsOf 3)) = xs[0]? := hf 0 _ rfl
    rw [List.getElem?_eq_getElem (by rw [hlen]; decide), show Try.prog.cellsOf 3 = 1 from by kernel_rfl] at e0
    obtain ⟨v0, g0⟩ := opens3 _ _ _ _ _ _ _ _ e0
    have g0' : (Kd.int .i64).K w v0 [c0] := g0
    have e1 : DataW.trod enc Try.prog w base spare held m 3 (([c0, c1, c2].drop 1).take (Try.prog.cellsOf 3)) = xs[1]? := hf 1 _ rfl
    rw [List.getElem?_eq_getElem (by rw [hlen]; decide), show Try.prog.cellsOf 3 = 1 from by kernel_rfl] at e1
    obtain ⟨v1, g1⟩ := opens3 _ _ _ _ _ _ _ _ e1
    have g1' : (Kd.int .i64).K w v1 [c1] := g1
    have e2 : DataW.trod enc Try.prog w base spare held m 4 (([c0, c1, c2].drop 2).take (Try.prog.cellsOf 4)) = xs[2]? := hf 2 _ rfl
    rw [List.getElem?_eq_getElem (by rw [hlen]; decide), show Try.prog.cellsOf 4 = 1 from by kernel_rfl] at e2
    obtain ⟨v2, g2⟩ := opens4 _ _ _ _ _ _ _ _ e2
    have g2' : Kd.bool.K w v2 [c2] := g2
    exact ⟨⟨v0, v1, v2⟩, ⟨[c0], [c1, c2], rfl, g0', ⟨[c1], [c2], rfl, g1', g2'⟩⟩⟩
theorem opens22 : Opens Try.prog 22 (Kd.slice 53 k53) := opens_slice Try.underlying22 (by kernel_rfl) opens53
theorem opens33 : Opens Try.prog 33 (Kd.slice 3 (Kd.int .i64)) := opens_slice Try.underlying33 (by kernel_rfl) opens3
end Go.Proofs.Ytglpjchpgjaanaa.Opens
