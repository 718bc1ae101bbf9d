/- The row of the law FnExactDishesValid: for every input the call returns true and each argument reads behind it as before, out of its pure statement and the walk. No conditions. -/
import Derived.Test.YtclldijjbmnkeaaRows
import Derived.Test.YtclldijjbmnkeaaQx25
import Derived.Test.YtclldijjbmnkeaaOpens
import Derived.Test.YtclldijjbmnkeaaInit
import Derived.Test.YtclldijjbmnkeaaPureFnExactDishesValid
import Derived.WalkKit
import Derived.ProofKit
import Derived.OpenShut
import Derived.ShutString
import Derived.ChangeOld
import Derived.Below
import Derived.SizedLaws
import Derived.Lib.SmallJoins
namespace Go.Proofs.Ytclldijjbmnkeaa.fnExactDishesValid
open Go.ChangeShapes Go.WideShapes Go.ChangeAt Go.RowKit Go.Proofs.YtclldijjbmnkeaaW.PrintWords
open Go.ChangeMaps (open_string shut_string)
set_option linter.unusedVariables false
theorem own : ownKnob Try.prog.godebug = none := by kernel_rfl
theorem laidOut : laidOutB Try.prog = true := by kernel_rfl
set_option maxRecDepth 100000 in
theorem lifted (os : Os) (started : os.Started) (H : Type) (enc : TypeId × Value → H) :
    ReturnsInHanded {} Try.checked os 9 .any (Rows.fnExactDishesValidSpec.pre6 enc Try.prog Try.f9 Rows.fnExactDishesValidRow.domain false) (Rows.fnExactDishesValidSpec.post enc Try.prog Try.f9 false true false false) := by
  refine returnsInHanded_of_change_sized (C := Try.checked) own started (by kernel_rfl) Try.func9
    (ChangeSpec.witness6 (enc := enc) (C := Try.checked) false ⟨#[], #[.slice none 0 0, .slice none 0 0], []⟩ 8 (by kernel_rfl) (by kernel_rfl) (by kernel_rfl) (by kernel_rfl)) ?_
  intro W base args ds gs before hval0 hW hcnd hsz0 _
  have hval : ∀ (j : Nat) t v, Try.f9.params[j]? = some t → args[j]? = some v → Value.okWide Try.prog W .any base t v := hval0
  have hW' := hW
  obtain ⟨p, q, hA0, hV, rfl, hfz, hnd⟩ := hW
  have hA : DataW.TrodAll enc Try.prog W 0 (fun _ => true) true Try.f9.params.toList args.toList ds p := hA0
  rw [Try.params9] at hA hval
  obtain ⟨v0, vs0, d0, ds0, p0, q0, hargs, rfl, rfl, h0, r0⟩ := trodAll_cons hA
  obtain ⟨v1, vs1, d1, ds1, p1, q1, rfl, rfl, rfl, h1, r1⟩ := trodAll_cons r0
  obtain ⟨rfl, rfl, rfl⟩ := trodAll_nil r1
  obtain rfl : args = #[v0, v1] := by cases args; simp_all
  obtain ⟨rfl, rfl⟩ := trodVars_none hV
  obtain ⟨a0, len0, cap0, rfl⟩ := okWide_slice Try.underlying31 (hval 0 31 v0 rfl rfl)
  have k0 := h0
  have lt0 : ∀ x ∈ p0, x.block < W.heap.size := by obtain ⟨m, hm⟩ := k0; exact DataW.trod_lt m _ _ _ hm
  obtain ⟨l0, A0, c0, e0, hc0, hr0⟩ : ∃ xs, (Kd.slice 76 Q.k76).K W xs [.slice a0 len0 cap0] := by
    obtain ⟨fuel, hf⟩ := h0
    exact Opens.opens31 enc W _ _ _ fuel _ _ (by simpa [Value.cells] using hf)
  obtain ⟨rfl, rfl, rfl⟩ : a0 = A0 ∧ len0 = l0.length ∧ cap0 = c0 := by simpa using e0
  have m0 : l0.length ≤ maxLen := by have := hr0.2.1; unfold maxLen; omega
  have w0_2 : ∀ x ∈ l0, x.f2.length ≤ maxLen := by
    intro x hx
    obtain ⟨j, hj, rfl⟩ := List.mem_iff_getElem.1 hx
    obtain ⟨ad, A2, c2, e, hx0, hx1, hx2, hl2, hi2⟩ := Q.at_T76 hr0 (j : Int) (by omega) (by omega)
    have e1 : Q.rd_T76 l0 (j : Int) = l0[j] := by show l0.getD _ _ = _; rw [Int.toNat_natCast, List.getD_eq_getElem?_getD, List.getElem?_eq_getElem hj]; rfl
    rw [e1] at hi2
    have := hi2.2.1; unfold maxLen; omega
  obtain ⟨a1, len1, cap1, rfl⟩ := okWide_slice Try.underlying36 (hval 1 36 v1 rfl rfl)
  have k1 := h1
  have lt1 : ∀ x ∈ p1, x.block < W.heap.size := by obtain ⟨m, hm⟩ := k1; exact DataW.trod_lt m _ _ _ hm
  obtain ⟨l1, A1, c1, e1, hc1, hr1⟩ : ∃ xs, (Kd.slice 81 Q.k81).K W xs [.slice a1 len1 cap1] := by
    obtain ⟨fuel, hf⟩ := h1
    exact Opens.opens36 enc W _ _ _ fuel _ _ (by simpa [Value.cells] using hf)
  obtain ⟨rfl, rfl, rfl⟩ : a1 = A1 ∧ len1 = l1.length ∧ cap1 = c1 := by simpa using e1
  have m1 : l1.length ≤ maxLen := by have := hr1.2.1; unfold maxLen; omega
  clear hA0 hval0 hsz0
  obtain ⟨k, h⟩ := Pure.FnExactDishesValid l0 m0 w0_2 l1 m1
  refine (Q.laws_FnExactDishesValid.calls k _ _ l0 _ _ l1 true W hr0 hc0 hr1 hc1 h).mono fun e W' ⟨he, bel0⟩ => ?_
  have bel : Below W.heap.size W W' := bel0
  subst he
  exact ⟨_, rfl, _, _, _, [], _, [], hW', trodAll_mk1 (shut_bool Try.underlying4 _), (trodAll_cons_mk (Below.trod laidOut (by kernel_rfl) (of_decide_eq_true (by kernel_rfl)) k0 bel lt0) (trodAll_cons_mk (Below.trod laidOut (by kernel_rfl) (of_decide_eq_true (by kernel_rfl)) k1 bel lt1) trodAll_mk0)), rfl, bel.frame _, fun h => by cases h⟩
set_option maxRecDepth 100000 in
theorem reach0 : Try.pinned.checked.prog.inPlace 9 = Rows.fnExactDishesValidRow.inPlace := by kernel_rfl
set_option maxRecDepth 100000 in
theorem reach1 : Try.pinned.checked.prog.unfollowed 9 = Rows.fnExactDishesValidRow.unfollowed := by kernel_rfl
set_option maxRecDepth 100000 in
theorem reach2 : Try.pinned.checked.prog.recurses 9 = Rows.fnExactDishesValidRow.recurses := by kernel_rfl
set_option maxRecDepth 100000 in
theorem reach3 : Try.pinned.checked.prog.varsNamed 9 = Rows.fnExactDishesValidRow.named := by kernel_rfl
set_option maxRecDepth 100000 in
theorem left : (Init.rest Try.pinned.checked.prog 9 Try.f9 Rows.fnExactDishesValidSpec Rows.fnExactDishesValidRow).1 = true := by kernel_rfl
theorem closed : joinedFacts Try.pinned.checked.prog 9 Try.f9 Rows.fnExactDishesValidSpec Rows.fnExactDishesValidRow = true := Init.closed_of left Init.mayEnter Init.liftsFinal Init.make reach0 reach1 reach2 reach3
theorem over : Rows.fnExactDishesValidRow.holds Try.pinned (OpenSpec.ofChange Rows.fnExactDishesValidSpec) :=
  OpenClaim.holds_of_wide 9 Try.f9 rfl rfl rfl rfl rfl rfl rfl ⟨rfl, rfl, rfl, rfl, rfl⟩ rfl rfl rfl rfl rfl (by kernel_rfl) Try.func9 closed
    (of_decide_eq_true (by kernel_rfl)) (by unfold Func.isWrapper; first | (rw [if_pos (by decide +kernel)]; kernel_rfl) | (rw [if_neg (by decide +kernel)]; exact ⟨rfl, rfl⟩))
    (fun os started H enc _ => lifted os started H enc)
theorem proved : Rows.FnExactDishesValidSaid := over
#print axioms proved
end Go.Proofs.Ytclldijjbmnkeaa.fnExactDishesValid
namespace Go.Proofs.Ytclldijjbmnkeaa
/-- The row, under a short name, for the claim. -/
theorem fnExactDishesValid_holds : Rows.FnExactDishesValidSaid := fnExactDishesValid.proved
end Go.Proofs.Ytclldijjbmnkeaa
