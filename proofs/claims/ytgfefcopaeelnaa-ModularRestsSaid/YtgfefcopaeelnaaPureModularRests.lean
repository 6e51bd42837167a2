/- ModularRests: for every pair of lists and every number, what is divided by the picked prime is the quotient times the divisor, and a rest of a smaller degree. Conditions: none but those of the statement. -/
import Derived.Test.YtgfefcopaeelnaaTop1
import Derived.Test.YtgfefcopaeelnaaMx29
namespace Go.Proofs.Ytgfefcopaeelnaa.Pure
open Go.RowKit Go.Proofs.Ytgfefcopaeelnaa.M Go.Proofs.YtgfefcopaeelnaaW.PrintWords Go.Proofs.YtgfefcopaeelnaaW.PrintLast Go.Proofs.Ytgfefcopaeelnaa.Alg
set_option linter.unusedVariables false

theorem ModularRests : primroselaw10_ModularRests.Pure := by
  intro f g a _ _ _ _ _ _ _
  refine Ev.rounds (g := fun k => primroselaw10_ModularRests.f k f g a) ?_
  have hj : Ev (fun k => primroselaw10_ModularRests.j0 k f g a true true) true :=
    Ev.step (f := fun k => some true) (fun k => by rw [primroselaw10_ModularRests.j0, if_pos rfl]) (Ev.now _)
  unfold primroselaw10_ModularRests.f
  refine Ev.bind awake (ev_pos rfl ?_)
  by_cases h1 : (f.length : Int) > 20
  · exact ev_pos h1 hj
  refine ev_neg h1 ?_
  by_cases h2 : (g.length : Int) > 20
  · rw [decide_eq_true h2]; exact hj
  rw [decide_eq_false h2]
  obtain ⟨p, hpick, hp⟩ := pick a
  obtain ⟨G, g1, g2, g3, g4⟩ := (progPlain_is hp g (by omega)).len hp.pos (cf_lt_ p g)
  refine Ev.step (fun k => by rw [primroselaw10_ModularRests.j0, if_neg (by decide)]) (Ev.bind hpick ?_)
  by_cases hz : Sq.Cq p (cf g) 0
  · refine Ev.bind (prog_dz hp f g (by omega) hz) (Ev.bind g1 (ev_pos ?_ (ev_pos rfl (ev_pos rfl (ev_pos rfl (Ev.now _))))))
    have := (g2.len_iff hp.pos).2 (g3.trans hz); omega
  · obtain ⟨q, r, k1, k2⟩ := prog_dm hp f g (by omega) (by omega) hz
    have hb := k2.len hp (n := f.length) (cf_lt_ p f) (m := g.length) (cf_lt_ p g)
    obtain ⟨d, hd, hdc, hdl⟩ := k2.lt
    have hdG : d = G := hd.ext g2 hp.pos (hdc.trans g3.symm)
    subst hdG
    obtain ⟨m, m1, m2, m3, m4⟩ := (progMul_is hp q g (by omega) (by omega)).len hp.pos (n := q.length + g.length + 1) ((cf_lt_ p q).mul' (cf_lt_ p g))
    obtain ⟨s, s1, s2, s3, _, s4⟩ := (progPlain_is hp f (by omega)).same hp.pos (n := f.length) (by omega) (progAdd_is hp m r (by omega) (by omega)) (k2.eq.trans (m3.symm.add (.refl _ _))) (cf_lt_ p f)
    refine Ev.bind k1 (Ev.bind g1 (ev_neg (by omega) (ev_pos rfl (ev_pos rfl (ev_pos (show (r.length : Int) < (d.length : Int) by omega) (Ev.bind m1 (Ev.bind s2 (Ev.bind s1 (Ev.bind (same_eq rfl (by omega)) (Ev.now _))))))))))

end Go.Proofs.Ytgfefcopaeelnaa.Pure
