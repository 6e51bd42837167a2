/- ModularGcds: for every pair of lists and every number, the greatest common divisor and the monic list by the picked prime are the document's. Conditions: none but those of the statement. -/
import Derived.Test.YtgfefcopaeelnaaGcdRef
import Derived.Test.YtgfefcopaeelnaaMx35
namespace Go.Proofs.Ytgfefcopaeelnaa.Pure
open Go.RowKit Go.Proofs.Ytgfefcopaeelnaa.M Go.Proofs.YtgfefcopaeelnaaW.PrintWords Go.Proofs.YtgfefcopaeelnaaW.PrintLast Go.Proofs.Ytgfefcopaeelnaa.Alg
set_option linter.unusedVariables false

theorem ModularGcds : primroselaw10_ModularGcds.Pure := by
  intro f g a _ _ _ _ _ _ _
  refine Ev.rounds (g := fun k => primroselaw10_ModularGcds.f k f g a) ?_
  have hj : Ev (fun k => primroselaw10_ModularGcds.j0 k f g a true) true :=
    Ev.step (f := fun k => (primroselaw10_awake.f k).bind fun t => some t) (fun k => by rw [primroselaw10_ModularGcds.j0, if_pos rfl]) (Ev.bind awake (Ev.now _))
  unfold primroselaw10_ModularGcds.f
  by_cases h1 : (f.length : Int) > 12
  · exact ev_pos h1 hj
  refine ev_neg h1 ?_
  by_cases h2 : (g.length : Int) > 12
  · rw [decide_eq_true h2]; exact hj
  rw [decide_eq_false h2]
  obtain ⟨p, hpick, hp⟩ := pick a
  obtain ⟨d, d1, d2, d3⟩ := gcd_same hp f g (by omega) (by omega)
  obtain ⟨m, m1, m2⟩ := progMonic hp f (by omega)
  obtain ⟨m', n1, n2⟩ := refMonic hp f (by omega)
  have hm : m' = m := n2.one hp m2
  subst hm
  have hl := m2.len hp (cf_lt_ p f)
  refine Ev.step (fun k => by rw [primroselaw10_ModularGcds.j0, if_neg (by decide)]) ?_
  exact (Ev.bind hpick (Ev.bind awake (ev_pos rfl (Ev.bind d1 (Ev.bind d2 (Ev.bind (same_eq rfl (by omega)) (ev_pos rfl (Ev.bind m1 (Ev.bind n1 (Ev.bind (same_eq rfl (by omega)) (Ev.now _)))))))))))

end Go.Proofs.Ytgfefcopaeelnaa.Pure
