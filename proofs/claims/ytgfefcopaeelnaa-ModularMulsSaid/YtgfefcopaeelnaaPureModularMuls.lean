/- ModularMuls: for every pair of lists and every number, products, quotients and rests by the picked prime are the document's. Conditions: none but those of the statement (lists longer than 12 are only asked awake). -/
import Derived.Test.YtgfefcopaeelnaaTop1
import Derived.Test.YtgfefcopaeelnaaMx23
namespace Go.Proofs.Ytgfefcopaeelnaa.Pure
open Go.RowKit Go.Proofs.Ytgfefcopaeelnaa.M Go.Proofs.YtgfefcopaeelnaaW.PrintWords Go.Proofs.YtgfefcopaeelnaaW.PrintLast Go.Proofs.Ytgfefcopaeelnaa.Alg

theorem ModularMuls : primroselaw10_ModularMuls.Pure := by
  intro f g a _ _ _ _ _ _ _
  refine Ev.rounds (g := fun k => primroselaw10_ModularMuls.f k f g a) ?_
  have hj : Ev (fun k => primroselaw10_ModularMuls.j0 k f g a true) true :=
    Ev.step (f := fun k => (primroselaw10_awake.f k).bind fun t => some t) (fun k => by rw [primroselaw10_ModularMuls.j0, if_pos rfl]) (Ev.bind awake (Ev.now _))
  unfold primroselaw10_ModularMuls.f
  by_cases h1 : (f.length : Int) > 12
  · exact ev_pos h1 hj
  refine ev_neg h1 ?_
  by_cases h2 : (g.length : Int) > 12
  · rw [decide_eq_true h2]; exact hj
  rw [decide_eq_false h2]
  obtain ⟨p, hpick, hp⟩ := pick a
  obtain ⟨m, m1, m2, m3, _, m4⟩ := (progMul_is hp f g (by omega) (by omega)).same hp.pos (n := f.length + g.length + 1) (by omega) (refMul_is hp f g (by omega) (by omega)) (.refl _ _) ((cf_lt_ p f).mul' (cf_lt_ p g))
  refine Ev.step (fun k => by rw [primroselaw10_ModularMuls.j0, if_neg (by decide)]) (Ev.bind hpick ?_)
  by_cases hz : Sq.Cq p (cf g) 0
  · refine Ev.bind (prog_dz hp f g (by omega) hz) (Ev.bind (ref_dz hp f g (by omega) (by omega) hz) (Ev.bind awake (ev_pos rfl (Ev.bind m1 (Ev.bind m2 (Ev.bind (same_eq rfl (by omega)) (ev_pos rfl ?_)))))))
    exact Ev.bind (same_eq rfl (by simp)) (ev_pos rfl (Ev.bind (same_eq rfl (by simp)) (ev_pos rfl (Ev.now _))))
  · obtain ⟨q, r, k1, k2⟩ := prog_dm hp f g (by omega) (by omega) hz
    obtain ⟨q', r', l1, l2⟩ := ref_dm hp f g (by omega) (by omega) hz
    obtain ⟨rfl, rfl⟩ := k2.one hp l2
    refine Ev.bind k1 (Ev.bind l1 (Ev.bind awake (ev_pos rfl (Ev.bind m1 (Ev.bind m2 (Ev.bind (same_eq rfl (by omega)) (ev_pos rfl ?_)))))))
    have hb := k2.len hp (n := f.length) (cf_lt_ p f) (m := g.length) (cf_lt_ p g)
    exact Ev.bind (same_eq rfl (show q.length ≤ 1073741824 by omega)) (ev_pos rfl (Ev.bind (same_eq rfl (show r.length ≤ 1073741824 by omega)) (ev_pos rfl (Ev.now _))))

end Go.Proofs.Ytgfefcopaeelnaa.Pure
