/- A stricter diet allows less: the law's body comes to true for every input. No conditions. -/
import Derived.Test.YtgfclechgalpmaaDrawDiet
import Derived.Test.YtgfclechgalpmaaQx2
namespace Go.Proofs.Ytgfclechgalpmaa.Pure
open Go.RowKit Go.Proofs.YtgfclechgalpmaaW.PrintWords Go.Proofs.YtgfclechgalpmaaW.PrintLast Go.Proofs.Ytgfclechgalpmaa.Q
set_option linter.unusedVariables false
theorem FnDiet : laws_FnDiet.Pure := by
  intro l _ _ hl
  apply Ok.rounds
  unfold laws_FnDiet.f
  refine Ok.ite (fun _ => Ok.ret rfl) fun _ => Ok.bind (drawDiet_ok l hl) ?_
  rintro ⟨d, k⟩ ⟨h0, h1, h2, h3⟩
  simp only at h0 h1 h2 h3
  simp only [iDiet_eq, sDiet_eq, Option.bind_some]
  refine Ok.neg (by simp) ?_
  refine Ok.step (fun k => by simp only [laws_FnDiet.j0]; rfl) (Ok.ite (fun _ => Ok.ret (by simp)) fun h => ?_)
  have hb : dietB d k = true := by simpa using h
  have hb' := (dietB_iff _ _).1 hb
  have e1 : wrap64 (k - 1) = k - 1 := wrap_id (by omega) (by omega)
  have e2 : wrap64 (d - 1) = d - 1 := wrap_id (by omega) (by omega)
  simp only [iDiet_eq, Option.bind_some, e1, e2]
  have a1 : ¬ d = 1 → dietB (d - 1) k = true := fun h => (dietB_iff _ _).2 (by omega)
  have a2 : ¬ k = 1 → dietB d (k - 1) = true := fun h => (dietB_iff _ _).2 (by omega)
  refine Ok.ite (fun _ => Ok.ite (fun _ => Ok.ret rfl) fun h => Ok.ret (a2 h)) fun hd => Ok.pos (a1 hd) (Ok.ite (fun _ => Ok.ret rfl) fun h => Ok.ret (a2 h))
end Go.Proofs.Ytgfclechgalpmaa.Pure
