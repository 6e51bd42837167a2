/- ModularFrobenius: for every three lists, every pair of exponents and number, the power of a sum by the picked prime is the sum of the powers, and powers add up. Conditions: none but those of the statement. -/
import Derived.Test.YtgfefcopaeelnaaPow
import Derived.Test.YtgfefcopaeelnaaFrob
import Derived.Test.YtgfefcopaeelnaaMx30
namespace Go.Proofs.Ytgfefcopaeelnaa.Pure
open Go.RowKit Go.Proofs.Ytgfefcopaeelnaa.M Go.Proofs.YtgfefcopaeelnaaW.PrintWords Go.Proofs.YtgfefcopaeelnaaW.PrintLast Go.Proofs.Ytgfefcopaeelnaa.Alg
set_option linter.unusedVariables false

theorem ModularFrobenius : primroselaw10_ModularFrobenius.Pure := by
  intro f g m n j a _ _ _ _ _ _ _ _ _ _ _ _
  refine Ev.rounds (g := fun k => primroselaw10_ModularFrobenius.f k f g m n j a) ?_
  have hj : Ev (fun k => primroselaw10_ModularFrobenius.j0 k f g m n j a true true) true :=
    Ev.step (f := fun k => some true) (fun k => by rw [primroselaw10_ModularFrobenius.j0, if_pos rfl]) (Ev.now _)
  unfold primroselaw10_ModularFrobenius.f
  refine Ev.bind awake (ev_pos rfl ?_)
  by_cases h1 : (f.length : Int) > 6
  · exact ev_pos h1 hj
  refine ev_neg h1 ?_
  by_cases h2 : (g.length : Int) > 6
  · exact ev_pos h2 hj
  refine ev_neg h2 ?_
  by_cases h3 : (m.length : Int) > 6
  · rw [decide_eq_true h3]; exact hj
  rw [decide_eq_false h3]
  obtain ⟨p, hpick, hp⟩ := pick a
  obtain ⟨M, m1, m2, m3, m4⟩ := (progPlain_is hp m (by omega)).len hp.pos (cf_lt_ p m)
  refine Ev.step (fun k => by rw [primroselaw10_ModularFrobenius.j0, if_neg (by decide)]) (Ev.bind hpick (Ev.bind m1 ?_))
  by_cases h0 : M.length = 0
  · exact ev_pos (by omega) (Ev.now _)
  refine ev_neg (by omega) ?_
  have hz : ¬ Sq.Cq p (cf m) 0 := fun hz => h0 ((m2.len_iff hp.pos).2 (m3.trans hz))
  obtain ⟨s, s1, s2, s3, s4⟩ := (progAdd_is hp f g (by omega) (by omega)).len hp.pos (n := f.length + g.length) (((cf_lt_ p f).mono (by omega)).add ((cf_lt_ p g).mono (by omega)))
  have hpp := hp.pos
  obtain ⟨x, x1, x2⟩ := progPow hp s (by omega) (n := p) (by omega) m (by omega) hz
  obtain ⟨b, b1, b2⟩ := progPow hp f (by omega) (n := p) (by omega) m (by omega) hz
  obtain ⟨c, c1, c2⟩ := progPow hp g (by omega) (n := p) (by omega) m (by omega) hz
  have hbl := b2.len hp (cf_lt_ p m); have hcl := c2.len hp (cf_lt_ p m); have hxl := x2.len hp (cf_lt_ p m)
  obtain ⟨t, t1, t2, t3, t4⟩ := (progAdd_is hp b c (by omega) (by omega)).len hp.pos (n := max b.length c.length) (((cf_lt_ p b).mono (by omega)).add ((cf_lt_ p c).mono (by omega)))
  have hxt : x = t := by
    have hcm : Cm p (cf m) (cf s ^ p.toNat) (cf t) := (Cm.of_cq (s3.pow _)).trans ((Cm.of_cq (Sq.frob hp.1 _ _)).trans ((b2.eq.add c2.eq).trans (.of_cq t3.symm)))
    obtain ⟨d, d1, d2, d3⟩ := b2.lt
    obtain ⟨d', e1, e2, e3⟩ := c2.lt
    have hdd : d' = d := e1.ext d1 hp.pos (e2.trans d2.symm)
    subst hdd
    exact x2.one hp (⟨t2, .refl _ _ _, d', d1, d2, by omega⟩ : Rm p (cf m) (cf t) t) hcm
  subst hxt
  refine Ev.bind s1 (Ev.bind x1 (Ev.bind b1 (Ev.bind c1 (ev_pos rfl (ev_pos rfl (ev_pos rfl (Ev.bind t1 (Ev.bind (same_eq rfl (show x.length ≤ 1073741824 by omega)) ?_))))))))
  have hj2 : Ev (fun k => primroselaw10_ModularFrobenius.j2 k f m n j p true true) true :=
    Ev.step (f := fun k => some true) (fun k => by rw [primroselaw10_ModularFrobenius.j2, if_pos rfl]) (Ev.now _)
  refine Ev.step (fun k => by rw [primroselaw10_ModularFrobenius.j1, if_neg (by decide)]) ?_
  by_cases g1 : n < 0
  · exact ev_pos g1 hj2
  refine ev_neg g1 ?_
  by_cases g2 : j < 0
  · exact ev_pos g2 hj2
  refine ev_neg g2 ?_
  by_cases g3 : n > 1099511627776
  · exact ev_pos g3 hj2
  refine ev_neg g3 ?_
  by_cases g4 : j > 1099511627776
  · rw [decide_eq_true g4]; exact hj2
  rw [decide_eq_false g4]
  obtain ⟨u, u1, u2⟩ := progPow hp f (by omega) (n := n) (by omega) m (by omega) hz
  obtain ⟨v, v1, v2⟩ := progPow hp f (by omega) (n := j) (by omega) m (by omega) hz
  obtain ⟨z, z1, z2⟩ := progPow hp f (by omega) (n := n + j) (by omega) m (by omega) hz
  have hul := u2.len hp (cf_lt_ p m); have hvl := v2.len hp (cf_lt_ p m); have hzl := z2.len hp (cf_lt_ p m)
  obtain ⟨y, y1, y2, y3, y4⟩ := (progMul_is hp u v (by omega) (by omega)).len hp.pos ((cf_lt_ p u).mul' (cf_lt_ p v))
  obtain ⟨q, w, w1, w2⟩ := prog_dm hp y m (by omega) (by omega) hz
  have hzw : z = w := by
    refine z2.one hp w2.rm ?_
    rw [show (n + j).toNat = n.toNat + j.toNat by omega, Sq.pow_add]
    exact (u2.eq.mul v2.eq (fin_cf p u) ((fin_cf p f).pow _)).trans (.of_cq y3.symm)
  subst hzw
  refine Ev.step (fun k => by rw [primroselaw10_ModularFrobenius.j2, if_neg (by decide), w64 (x := n + j) (by omega) (by omega)]) ?_
  exact Ev.bind u1 (Ev.bind v1 (Ev.bind z1 (Ev.bind y1 (Ev.bind w1 (ev_pos rfl (Ev.bind (same_eq rfl (show z.length ≤ 1073741824 by omega)) (Ev.now _)))))))

end Go.Proofs.Ytgfefcopaeelnaa.Pure
