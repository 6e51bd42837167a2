/- ModularEvals: for every list, place and number, the derivative and the value by the picked prime are the document's. Conditions: none but those of the statement. -/
import Derived.Test.YtgfefcopaeelnaaEvl
import Derived.Test.YtgfefcopaeelnaaMx27
namespace Go.Proofs.Ytgfefcopaeelnaa.Pure
open Go.RowKit Go.Proofs.Ytgfefcopaeelnaa.M Go.Proofs.YtgfefcopaeelnaaW.PrintWords Go.Proofs.YtgfefcopaeelnaaW.PrintLast Go.Proofs.Ytgfefcopaeelnaa.Alg
set_option linter.unusedVariables false

theorem ModularEvals : primroselaw10_ModularEvals.Pure := by
  intro f x a _ _ _ _ _
  refine Ev.rounds (g := fun k => primroselaw10_ModularEvals.f k f x a) ?_
  unfold primroselaw10_ModularEvals.f
  by_cases h1 : (f.length : Int) > 30
  · exact ev_pos h1 (Ev.bind awake (Ev.now _))
  refine ev_neg h1 ?_
  obtain ⟨p, hpick, hp⟩ := pick a
  obtain ⟨m, m1, m2, m3, _, m4⟩ := (progDeriv_is hp f (by omega)).same hp.pos (n := f.length) (by omega) (refDeriv_is hp f (by omega)) (.refl _ _) (dv_lt (cf_lt_ p f))
  obtain ⟨v, v1, v2, v3⟩ := progEval hp f x (by omega)
  obtain ⟨u, u1, u2, u3⟩ := refEval hp f x (by omega)
  have hvu : v = u := (v3.trans u3.symm).eq_of v2.1 v2.2 u2.1 u2.2
  subst hvu
  refine Ev.bind hpick (Ev.bind awake (ev_pos rfl (Ev.bind m1 (Ev.bind m2 (Ev.bind (same_eq rfl (by omega)) (ev_pos rfl (Ev.bind v1 (Ev.bind u1 ?_))))))))
  exact ev_eq (Ev.now _) (beq_self_eq_true v)

end Go.Proofs.Ytgfefcopaeelnaa.Pure
