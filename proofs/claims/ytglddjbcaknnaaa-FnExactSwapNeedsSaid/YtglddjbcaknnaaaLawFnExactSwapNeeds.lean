/- The row of the law FnExactSwapNeeds: for every input the call returns true and each argument reads behind it as before, out of its pure statement and the walk. No conditions. -/
import Derived.Test.YtglddjbcaknnaaaRows
import Derived.Test.YtglddjbcaknnaaaQx32
import Derived.Test.YtglddjbcaknnaaaOpens
import Derived.Test.YtglddjbcaknnaaaPureFnExactSwapNeeds
import Derived.WalkKit
import Derived.ProofKit
import Derived.OpenShut
import Derived.ShutString
import Derived.ChangeOld
import Derived.Below
import Derived.SizedLaws
import Derived.Lib.SmallJoins
namespace Go.Proofs.Ytglddjbcaknnaaa.fnExactSwapNeeds
open Go.ChangeShapes Go.WideShapes Go.ChangeAt Go.RowKit Go.Proofs.YtglddjbcaknnaaaW.PrintWords
open Go.ChangeMaps (open_string shut_string)
set_option linter.unusedVariables false
theorem own : ownKnob Try.prog.godebug = none := by kernel_rfl
theorem laidOut : laidOutB Try.prog = true := by kernel_rfl
set_option maxRecDepth 100000 in
theorem lifted (os : Os) (started : os.Started) (H : Type) (enc : TypeId × Value → H) :
    ReturnsInHanded {} Try.checked os 14 .any (Rows.fnExactSwapNeedsSpec.pre6 enc Try.prog Try.f14 Rows.fnExactSwapNeedsRow.domain false) (Rows.fnExactSwapNeedsSpec.post enc Try.prog Try.f14 false true false false) := by
  refine returnsInHanded_of_change_sized (C := Try.checked) own started (by kernel_rfl) Try.func14
    (ChangeSpec.witness6 (enc := enc) (C := Try.checked) false ⟨#[], #[.slice none 0 0, .slice none 0 0, .slice none 0 0, .slice none 0 0], []⟩ 8 (by kernel_rfl) (by kernel_rfl) (by kernel_rfl) (by kernel_rfl)) ?_
  intro W base args ds gs before hval0 hW hcnd hsz0 _
  have hval : ∀ (j : Nat) t v, Try.f14.params[j]? = some t → args[j]? = some v → Value.okWide Try.prog W .any base t v := hval0
  have hW' := hW
  obtain ⟨p, q, hA0, hV, rfl, hfz, hnd⟩ := hW
  have hA : DataW.TrodAll enc Try.prog W 0 (fun _ => true) true Try.f14.params.toList args.toList ds p := hA0
  rw [Try.params14] at hA hval
  obtain ⟨v0, vs0, d0, ds0, p0, q0, hargs, rfl, rfl, h0, r0⟩ := trodAll_cons hA
  obtain ⟨v1, vs1, d1, ds1, p1, q1, rfl, rfl, rfl, h1, r1⟩ := trodAll_cons r0
  obtain ⟨v2, vs2, d2, ds2, p2, q2, rfl, rfl, rfl, h2, r2⟩ := trodAll_cons r1
  obtain ⟨v3, vs3, d3, ds3, p3, q3, rfl, rfl, rfl, h3, r3⟩ := trodAll_cons r2
  obtain ⟨rfl, rfl, rfl⟩ := trodAll_nil r3
  obtain rfl : args = #[v0, v1, v2, v3] := by cases args; simp_all
  obtain ⟨rfl, rfl⟩ := trodVars_none hV
  obtain ⟨a0, len0, cap0, rfl⟩ := okWide_slice Try.underlying43 (hval 0 43 v0 rfl rfl)
  have k0 := h0
  have lt0 : ∀ x ∈ p0, x.block < W.heap.size := by obtain ⟨m, hm⟩ := k0; exact DataW.trod_lt m _ _ _ hm
  obtain ⟨l0, A0, c0, e0, hc0, hr0⟩ : ∃ xs, (Kd.slice 77 Q.k77).K W xs [.slice a0 len0 cap0] := by
    obtain ⟨fuel, hf⟩ := h0
    exact Opens.opens43 enc W _ _ _ fuel _ _ (by simpa [Value.cells] using hf)
  obtain ⟨rfl, rfl, rfl⟩ : a0 = A0 ∧ len0 = l0.length ∧ cap0 = c0 := by simpa using e0
  have m0 : l0.length ≤ maxLen := by have := hr0.2.1; unfold maxLen; omega
  obtain ⟨a1, len1, cap1, rfl⟩ := okWide_slice Try.underlying22 (hval 1 22 v1 rfl rfl)
  have k1 := h1
  have lt1 : ∀ x ∈ p1, x.block < W.heap.size := by obtain ⟨m, hm⟩ := k1; exact DataW.trod_lt m _ _ _ hm
  obtain ⟨l1, A1, c1, e1, hc1, hr1⟩ : ∃ xs, (Kd.slice 65 Q.k65).K W xs [.slice a1 len1 cap1] := by
    obtain ⟨fuel, hf⟩ := h1
    exact Opens.opens22 enc W _ _ _ fuel _ _ (by simpa [Value.cells] using hf)
  obtain ⟨rfl, rfl, rfl⟩ : a1 = A1 ∧ len1 = l1.length ∧ cap1 = c1 := by simpa using e1
  have m1 : l1.length ≤ maxLen := by have := hr1.2.1; unfold maxLen; omega
  obtain ⟨a2, len2, cap2, rfl⟩ := okWide_slice Try.underlying23 (hval 2 23 v2 rfl rfl)
  have k2 := h2
  have lt2 : ∀ x ∈ p2, x.block < W.heap.size := by obtain ⟨m, hm⟩ := k2; exact DataW.trod_lt m _ _ _ hm
  obtain ⟨l2, A2, c2, e2, hc2, hr2⟩ : ∃ xs, (Kd.slice 3 (Kd.int .i64)).K W xs [.slice a2 len2 cap2] := by
    obtain ⟨fuel, hf⟩ := h2
    exact Opens.opens23 enc W _ _ _ fuel _ _ (by simpa [Value.cells] using hf)
  obtain ⟨rfl, rfl, rfl⟩ : a2 = A2 ∧ len2 = l2.length ∧ cap2 = c2 := by simpa using e2
  have m2 : l2.length ≤ maxLen := by have := hr2.2.1; unfold maxLen; omega
  obtain ⟨a3, len3, cap3, rfl⟩ := okWide_slice Try.underlying23 (hval 3 23 v3 rfl rfl)
  have k3 := h3
  have lt3 : ∀ x ∈ p3, x.block < W.heap.size := by obtain ⟨m, hm⟩ := k3; exact DataW.trod_lt m _ _ _ hm
  obtain ⟨l3, A3, c3, e3, hc3, hr3⟩ : ∃ xs, (Kd.slice 3 (Kd.int .i64)).K W xs [.slice a3 len3 cap3] := by
    obtain ⟨fuel, hf⟩ := h3
    exact Opens.opens23 enc W _ _ _ fuel _ _ (by simpa [Value.cells] using hf)
  obtain ⟨rfl, rfl, rfl⟩ : a3 = A3 ∧ len3 = l3.length ∧ cap3 = c3 := by simpa using e3
  have m3 : l3.length ≤ maxLen := by have := hr3.2.1; unfold maxLen; omega
  clear hA0 hval0 hsz0
  obtain ⟨k, h⟩ := Pure.FnExactSwapNeeds l0 m0 l1 m1 l2 m2 l3 m3
  refine (Q.laws_FnExactSwapNeeds.calls k _ _ l0 _ _ l1 _ _ l2 _ _ l3 true W hr0 hc0 hr1 hc1 hr2 hc2 hr3 hc3 h).mono fun e W' ⟨he, bel0⟩ => ?_
  have bel : Below W.heap.size W W' := bel0
  subst he
  exact ⟨_, rfl, _, _, _, [], _, [], hW', trodAll_mk1 (shut_bool Try.underlying4 _), (trodAll_cons_mk (Below.trod laidOut (by kernel_rfl) (of_decide_eq_true (by kernel_rfl)) k0 bel lt0) (trodAll_cons_mk (Below.trod laidOut (by kernel_rfl) (of_decide_eq_true (by kernel_rfl)) k1 bel lt1) (trodAll_cons_mk (Below.trod laidOut (by kernel_rfl) (of_decide_eq_true (by kernel_rfl)) k2 bel lt2) (trodAll_cons_mk (Below.trod laidOut (by kernel_rfl) (of_decide_eq_true (by kernel_rfl)) k3 bel lt3) trodAll_mk0)))), rfl, bel.frame _, fun h => by cases h⟩
theorem over : Rows.fnExactSwapNeedsRow.holds Try.pinned (OpenSpec.ofChange Rows.fnExactSwapNeedsSpec) :=
  OpenClaim.holds_of_wide 14 Try.f14 rfl rfl rfl rfl rfl rfl rfl ⟨rfl, rfl, rfl, rfl, rfl⟩ rfl rfl rfl rfl rfl (by kernel_rfl) Try.func14 (by kernel_rfl)
    (of_decide_eq_true (by kernel_rfl)) (by unfold Func.isWrapper; first | (rw [if_pos (by decide +kernel)]; kernel_rfl) | (rw [if_neg (by decide +kernel)]; exact ⟨rfl, rfl⟩))
    (fun os started H enc _ => lifted os started H enc)
theorem proved : Rows.FnExactSwapNeedsSaid := over
#print axioms proved
end Go.Proofs.Ytglddjbcaknnaaa.fnExactSwapNeeds
namespace Go.Proofs.Ytglddjbcaknnaaa
/-- The row, under a short name, for the claim. -/
theorem fnExactSwapNeeds_holds : Rows.FnExactSwapNeedsSaid := fnExactSwapNeeds.proved
end Go.Proofs.Ytglddjbcaknnaaa
