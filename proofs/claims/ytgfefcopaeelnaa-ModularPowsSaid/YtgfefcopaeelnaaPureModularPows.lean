/- ModularPows: for every pair of lists, every exponent and number, the power by the picked prime, divided by the other list, is the document's. Conditions: none but those of the statement. -/
import Derived.Test.YtgfefcopaeelnaaPowRef
import Derived.Test.YtgfefcopaeelnaaMx21
namespace Go.Proofs.Ytgfefcopaeelnaa.Pure
open Go.RowKit Go.Proofs.Ytgfefcopaeelnaa.M Go.Proofs.YtgfefcopaeelnaaW.PrintWords Go.Proofs.YtgfefcopaeelnaaW.PrintLast Go.Proofs.Ytgfefcopaeelnaa.Alg
set_option linter.unusedVariables false

theorem ModularPows : primroselaw10_ModularPows.Pure := by
  intro f n m a _ _ _ hn _ _ _ _
  have hnb := wfI hn
  refine Ev.rounds (g := fun k => primroselaw10_ModularPows.f k f n m a) ?_
  have hj : Ev (fun k => primroselaw10_ModularPows.j0 k f n m a true) true :=
    Ev.step (f := fun k => (primroselaw10_awake.f k).bind fun t => some t) (fun k => by rw [primroselaw10_ModularPows.j0, if_pos rfl]) (Ev.bind awake (Ev.now _))
  unfold primroselaw10_ModularPows.f
  by_cases h1 : (f.length : Int) > 8
  · exact ev_pos h1 hj
  refine ev_neg h1 ?_
  by_cases h2 : (m.length : Int) > 8
  · rw [decide_eq_true h2]; exact hj
  rw [decide_eq_false h2]
  obtain ⟨p, hpick, hp⟩ := pick a
  refine Ev.step (fun k => by rw [primroselaw10_ModularPows.j0, if_neg (by decide)]) (Ev.bind hpick ?_)
  by_cases h3 : n < 0
  · exact Ev.bind (progPow_neg hp f h3 m) (Ev.bind (refPow_neg hp f h3 m) (Ev.bind awake (ev_pos rfl (Ev.bind (same_eq rfl (by simp)) (ev_pos rfl (Ev.now _))))))
  by_cases hz : Sq.Cq p (cf m) 0
  · exact Ev.bind (progPow_zero hp f h3 m (by omega) hz) (Ev.bind (refPow_zero hp f h3 m (by omega) hz) (Ev.bind awake (ev_pos rfl (Ev.bind (same_eq rfl (by simp)) (ev_pos rfl (Ev.now _))))))
  obtain ⟨r, r1, r2⟩ := progPow hp f (by omega) (n := n) (by omega) m (by omega) hz
  obtain ⟨s, s1, s2⟩ := refPowL hp f (by omega) (n := n) (by omega) hnb.2 m (by omega) hz
  have hrs : s = r := s2.one hp r2 (.refl _ _ _)
  subst hrs
  have hl := r2.len hp (cf_lt_ p m)
  exact Ev.bind r1 (Ev.bind s1 (Ev.bind awake (ev_pos rfl (Ev.bind (same_eq rfl (show s.length ≤ 1073741824 by omega)) (ev_pos rfl (Ev.now _))))))

end Go.Proofs.Ytgfefcopaeelnaa.Pure
