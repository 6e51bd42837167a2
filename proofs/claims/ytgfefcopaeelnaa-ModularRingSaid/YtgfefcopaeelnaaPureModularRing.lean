/- ModularRing: for every three lists and every number, sums and products by the picked prime follow the laws of a ring. Conditions: none but those of the statement. -/
import Derived.Test.YtgfefcopaeelnaaTop1
import Derived.Test.YtgfefcopaeelnaaMx36
namespace Go.Proofs.Ytgfefcopaeelnaa.Pure
open Go.RowKit Go.Proofs.Ytgfefcopaeelnaa.M Go.Proofs.YtgfefcopaeelnaaW.PrintWords Go.Proofs.YtgfefcopaeelnaaW.PrintLast Go.Proofs.Ytgfefcopaeelnaa.Alg
set_option linter.unusedVariables false

/-- A sum, as a list. -/
theorem add_len {p : Int} (hp : Pr p) (f g : List Int) (hf : f.length ≤ 1000) (hg : g.length ≤ 1000) : ∃ r, Ev (fun k => modular_Add.f k f g p) r ∧ PL p r ∧ Sq.Cq p (cf r) (cf f + cf g) ∧ r.length ≤ f.length + g.length :=
  (progAdd_is hp f g (by omega) (by omega)).len hp.pos (((cf_lt_ p f).mono (by omega)).add ((cf_lt_ p g).mono (by omega)))
theorem mul_len {p : Int} (hp : Pr p) (f g : List Int) (hf : f.length ≤ 1000) (hg : g.length ≤ 1000) : ∃ r, Ev (fun k => modular_Mul.f k f g p) r ∧ PL p r ∧ Sq.Cq p (cf r) (cf f * cf g) ∧ r.length ≤ f.length + g.length + 1 :=
  (progMul_is hp f g (by omega) (by omega)).len hp.pos ((cf_lt_ p f).mul' (cf_lt_ p g))
theorem same_ext {p : Int} (hp : Pr p) {a b : List Int} (ha : PL p a) (hb : PL p b) (h : Sq.Cq p (cf a) (cf b)) (hl : a.length ≤ 1000000) : Ev (fun k => primroselaw10_same.f k a b) true :=
  same_eq (ha.ext hb hp.pos h) (by omega)

theorem ModularRing : primroselaw10_ModularRing.Pure := by
  intro f g h a _ _ _ _ _ _ _ _ _ _
  refine Ev.rounds (g := fun k => primroselaw10_ModularRing.f k f g h a) ?_
  have hj : Ev (fun k => primroselaw10_ModularRing.j0 k f g h a true true) true :=
    Ev.step (f := fun k => some true) (fun k => by rw [primroselaw10_ModularRing.j0, if_pos rfl]) (Ev.now _)
  unfold primroselaw10_ModularRing.f
  refine Ev.bind awake (ev_pos rfl ?_)
  by_cases h1 : (f.length : Int) > 10
  · exact ev_pos h1 hj
  refine ev_neg h1 ?_
  by_cases h2 : (g.length : Int) > 10
  · exact ev_pos h2 hj
  refine ev_neg h2 ?_
  by_cases h3 : (h.length : Int) > 10
  · rw [decide_eq_true h3]; exact hj
  rw [decide_eq_false h3]
  obtain ⟨p, hpick, hp⟩ := pick a
  obtain ⟨s, s1, s2, s3, s4⟩ := add_len hp f g (by omega) (by omega)
  obtain ⟨m, m1, m2, m3, m4⟩ := mul_len hp f g (by omega) (by omega)
  obtain ⟨s', t1, t2, t3, t4⟩ := add_len hp g f (by omega) (by omega)
  obtain ⟨sh, u1, u2, u3, u4⟩ := add_len hp s h (by omega) (by omega)
  obtain ⟨gh, v1, v2, v3, v4⟩ := add_len hp g h (by omega) (by omega)
  obtain ⟨fgh, w1, w2, w3, w4⟩ := add_len hp f gh (by omega) (by omega)
  obtain ⟨d, d1, d2, d3, d4⟩ := (progSub_is hp s g (by omega) (by omega)).len hp.pos (n := s.length + g.length) (((cf_lt_ p s).mono (by omega)).sub ((cf_lt_ p g).mono (by omega)))
  obtain ⟨F, e1, e2, e3, e4⟩ := (progPlain_is hp f (by omega)).len hp.pos (cf_lt_ p f)
  obtain ⟨m', n1, n2, n3, n4⟩ := mul_len hp g f (by omega) (by omega)
  obtain ⟨mh, o1, o2, o3, o4⟩ := mul_len hp m h (by omega) (by omega)
  obtain ⟨xgh, p1, p2, p3, p4⟩ := mul_len hp g h (by omega) (by omega)
  obtain ⟨xf, q1, q2, q3, q4⟩ := mul_len hp f xgh (by omega) (by omega)
  obtain ⟨xs, r1, r2, r3, r4⟩ := mul_len hp s h (by omega) (by omega)
  obtain ⟨fh, x1, x2, x3, x4⟩ := mul_len hp f h (by omega) (by omega)
  obtain ⟨su, y1, y2, y3, y4⟩ := add_len hp fh xgh (by omega) (by omega)
  have c1 : Sq.Cq p (cf s) (cf s') := s3.trans ((Sq.Cq.of_eq (Sq.add_comm _ _)).trans t3.symm)
  have c2 : Sq.Cq p (cf sh) (cf fgh) := u3.trans ((s3.add (.refl _ _)).trans ((Sq.Cq.of_eq (Sq.add_assoc _ _ _)).trans (((Sq.Cq.refl p _).add v3.symm).trans w3.symm)))
  have c3 : Sq.Cq p (cf d) (cf F) := d3.trans ((s3.sub (.refl _ _)).trans ((Sq.Cq.of_eq (by ext n; simp)).trans e3.symm))
  have c4 : Sq.Cq p (cf m) (cf m') := m3.trans ((Sq.Cq.of_eq (Sq.mul_comm _ _)).trans n3.symm)
  have c5 : Sq.Cq p (cf mh) (cf xf) := o3.trans ((m3.mul (.refl _ _)).trans ((Sq.Cq.of_eq (Sq.mul_assoc _ _ _)).trans (((Sq.Cq.refl p _).mul p3.symm).trans q3.symm)))
  have c6 : Sq.Cq p (cf xs) (cf su) := r3.trans ((s3.mul (.refl _ _)).trans ((Sq.Cq.of_eq (Sq.add_mul _ _ _)).trans ((x3.symm.add p3.symm).trans y3.symm)))
  refine Ev.step (fun k => by rw [primroselaw10_ModularRing.j0, if_neg (by decide)]) (Ev.bind hpick (Ev.bind s1 (Ev.bind m1 (Ev.bind t1 (Ev.bind (same_ext hp s2 t2 c1 (by omega)) (ev_pos rfl (Ev.bind u1 (Ev.bind v1 (Ev.bind w1 (Ev.bind (same_ext hp u2 w2 c2 (by omega)) (ev_pos rfl
    (Ev.bind d1 (Ev.bind e1 (Ev.bind (same_ext hp d2 e2 c3 (by omega)) ?_))))))))))))))
  refine Ev.step (fun k => by rw [primroselaw10_ModularRing.j1, if_neg (by decide)]) (ev_pos rfl (Ev.bind n1 (Ev.bind (same_ext hp m2 n2 c4 (by omega)) (ev_pos rfl (Ev.bind o1 (Ev.bind p1 (Ev.bind q1 (Ev.bind (same_ext hp o2 q2 c5 (by omega)) (ev_pos rfl
    (Ev.bind r1 (Ev.bind x1 (Ev.bind p1 (Ev.bind y1 (Ev.bind (same_ext hp r2 y2 c6 (by omega)) (Ev.now _)))))))))))))))

end Go.Proofs.Ytgfefcopaeelnaa.Pure
