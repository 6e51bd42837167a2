/- ModularValues: for every pair of lists, every place and number, sums and products are evaluated part by part, and a place is a root just if the line through it divides. Conditions: none but those of the statement. -/
import Derived.Test.YtgfefcopaeelnaaEvl
import Derived.Test.YtgfefcopaeelnaaMx32
import Derived.Test.YtgfefcopaeelnaaMx31
namespace Go.Proofs.Ytgfefcopaeelnaa.Pure
open Go.RowKit Go.Proofs.Ytgfefcopaeelnaa.M Go.Proofs.YtgfefcopaeelnaaW.PrintWords Go.Proofs.YtgfefcopaeelnaaW.PrintLast Go.Proofs.Ytgfefcopaeelnaa.Alg
set_option linter.unusedVariables false

theorem refadd_f {p : Int} (hp : Pr p) {a b : Int} (ha : 0 ≤ a ∧ a < p) (hb : 0 ≤ b ∧ b < p) : Ev (fun k => primroseref05_Add.f k a b p) ((a + b) % p) := by
  unfold primroseref05_Add.f
  refine Ev.bind (refIs p) (ev_pos (isB_true hp) (ev_some (rrest_f hp.pos hp.2) (ev_some (rrest_f hp.pos hp.2) ?_)))
  rw [Int.emod_eq_of_lt ha.1 ha.2, Int.emod_eq_of_lt hb.1 hb.2, wrs2 hp ha hb]
  exact ev_some (rrest_f hp.pos hp.2) (Ev.now _)
theorem refmul_f {p : Int} (hp : Pr p) {a b : Int} (ha : 0 ≤ a ∧ a < p) (hb : 0 ≤ b ∧ b < p) : Ev (fun k => primroseref05_Mul.f k a b p) ((a * b) % p) := by
  unfold primroseref05_Mul.f
  refine Ev.bind (refIs p) (ev_pos (isB_true hp) (ev_some (rrest_f hp.pos hp.2) (ev_some (rrest_f hp.pos hp.2) ?_)))
  rw [Int.emod_eq_of_lt ha.1 ha.2, Int.emod_eq_of_lt hb.1 hb.2, wmul hp ha hb]
  exact ev_some (rrest_f hp.pos hp.2) (Ev.now _)
theorem cf_two (a b : Int) (n : Nat) : cf [a, b] n = if n = 0 then a else if n = 1 then b else 0 := by
  rw [cf_at]
  match n with
  | 0 => rfl
  | 1 => rfl
  | n + 2 => rfl
theorem cf_one (a : Int) (n : Nat) : cf [a] n = if n = 0 then a else 0 := by
  rw [cf_at]
  match n with
  | 0 => rfl
  | n + 1 => rfl

theorem ModularValues : primroselaw10_ModularValues.Pure := by
  intro f g x a _ _ _ _ _ _ _ _
  refine Ev.rounds (g := fun k => primroselaw10_ModularValues.f k f g x a) ?_
  have hj : Ev (fun k => primroselaw10_ModularValues.j0 k f g x a true true) true :=
    Ev.step (f := fun k => some true) (fun k => by rw [primroselaw10_ModularValues.j0, if_pos rfl]) (Ev.now _)
  unfold primroselaw10_ModularValues.f
  refine Ev.bind awake (ev_pos rfl ?_)
  by_cases h1 : (f.length : Int) > 12
  · exact ev_pos h1 hj
  refine ev_neg h1 ?_
  by_cases h2 : (g.length : Int) > 12
  · rw [decide_eq_true h2]; exact hj
  rw [decide_eq_false h2]
  obtain ⟨p, hpick, hp⟩ := pick a
  obtain ⟨u, u1, u2, u3⟩ := progEval hp f x (by omega)
  obtain ⟨v, v1, v2, v3⟩ := progEval hp g x (by omega)
  obtain ⟨l, l1, l2, l3, l4⟩ := (progSub_is hp [0, 1] [x] (by simp) (by simp)).len hp.pos (n := 2) (((cf_lt_ p _).mono (by simp)).sub ((cf_lt_ p _).mono (by simp)))
  have hl0 : Cg p (cf l 0) (-x) := by have := l3 0; rw [Sq.sub_at, cf_two, cf_one] at this; simpa using this
  have hl1 : Cg p (cf l 1) 1 := by have := l3 1; rw [Sq.sub_at, cf_two, cf_one] at this; simpa using this
  have hlz : ¬ Sq.Cq p (cf l) 0 := fun h => hp.1.one_ne (hl1.symm.trans (h 1))
  obtain ⟨q, r, k1, k2⟩ := prog_dm hp f l (by omega) (by omega) hlz
  have hr1 : r.length ≤ 1 := by
    obtain ⟨d, hd, hdc, hdl⟩ := k2.lt
    have : d = l := hd.ext l2 hp.pos hdc
    subst this; omega
  have hql := k2.len hp (n := f.length) (cf_lt_ p f) (m := 2) ((cf_lt_ p l).mono l4)
  -- the value of f at x is the rest's
  have hval : Cg p u (cf r 0) := by
    have e1 : Cg p (ev (q.length + f.length + 2) (cf f) x) (ev (q.length + f.length + 2) (cf q * cf l + cf r) x) := ev_cq k2.eq (.refl _ _) _
    have e2 := ev_more (cf_lt_ p f) x (q.length + f.length + 2) (by omega)
    have e3 := ev_mul ((cf_lt_ p q).mono (show q.length ≤ q.length + f.length by omega)) ((cf_lt_ p l).mono l4) x
    have e4 : Cg p (ev 2 (cf l) x) 0 := by
      have : ev 2 (cf l) x = cf l 0 + x * (cf l 1 + x * 0) := rfl
      rw [this]
      exact (hl0.add ((Cg.refl p x).mul (hl1.add (.refl _ _)))).trans (.of_eq (by omega))
    have e5 := ev_more (cf_lt_ p r) x (q.length + f.length + 2) (by omega)
    have e6 : Cg p (ev r.length (cf r) x) (cf r 0) := by
      rcases (show r.length = 0 ∨ r.length = 1 by omega) with h | h
      · rw [h, cf_big (by omega)]; exact .refl _ _
      · rw [h]; exact .of_eq (by simp [ev])
    rw [ev_add] at e1
    refine u3.trans (e2.symm.trans (e1.trans ((((e3.trans ((Cg.refl p _).mul e4))).add (e5.trans e6)).trans (.of_eq (by omega)))))
  have hroot : (((r.length : Int) == 0) == (u == 0)) = true := by
    have hr0 := k2.pr.at hp.pos 0
    have hu : u = cf r 0 := hval.eq_of u2.1 u2.2 hr0.1 hr0.2
    rcases (show r.length = 0 ∨ r.length = 1 by omega) with h | h
    · rw [hu, cf_big (by omega), h]; rfl
    · have hne : cf r 0 ≠ 0 := by have := k2.pr.2 (by omega); rwa [h] at this
      rw [h, hu, beq_eq_false_iff_ne.2 hne]; rfl
  obtain ⟨s, s1, s2, s3, s4⟩ := (progAdd_is hp f g (by omega) (by omega)).len hp.pos (n := f.length + g.length) (((cf_lt_ p f).mono (by omega)).add ((cf_lt_ p g).mono (by omega)))
  obtain ⟨es, t1, t2, t3⟩ := progEval hp s x (by omega)
  obtain ⟨m, m1, m2, m3, m4⟩ := (progMul_is hp f g (by omega) (by omega)).len hp.pos (n := f.length + g.length + 1) ((cf_lt_ p f).mul' (cf_lt_ p g))
  obtain ⟨em, n1, n2, n3⟩ := progEval hp m x (by omega)
  have hsum : es = (u + v) % p := by
    refine Cg.eq_of (p := p) ?_ t2.1 t2.2 (md hp _).1 (md hp _).2
    have a1 := ev_more (cf_lt_ p s) x (f.length + g.length) s4
    have a2 := ev_cq s3 (Cg.refl p x) (f.length + g.length)
    have a3 := ev_more (cf_lt_ p f) x (f.length + g.length) (by omega)
    have a4 := ev_more (cf_lt_ p g) x (f.length + g.length) (by omega)
    rw [ev_add] at a2
    exact (t3.trans (a1.symm.trans (a2.trans ((a3.trans u3.symm).add (a4.trans v3.symm))))).trans (Cg.mod p _).symm
  have hprod : em = (u * v) % p := by
    refine Cg.eq_of (p := p) ?_ n2.1 n2.2 (md hp _).1 (md hp _).2
    have a1 := ev_more (cf_lt_ p m) x (f.length + g.length + 1) m4
    have a2 := ev_cq m3 (Cg.refl p x) (f.length + g.length + 1)
    have a3 := ev_mul (cf_lt_ p f) ((cf_lt_ p g).mono (show g.length ≤ g.length + 1 by omega)) x
    have a4 := ev_more (cf_lt_ p g) x (g.length + 1) (by omega)
    exact (n3.trans (a1.symm.trans (a2.trans (a3.trans (u3.symm.mul (a4.trans v3.symm)))))).trans (Cg.mod p _).symm
  refine Ev.step (fun k => by rw [primroselaw10_ModularValues.j0, if_neg (by decide)]) (Ev.bind hpick (Ev.bind u1 (Ev.bind v1 (Ev.bind l1 (Ev.bind k1 (ev_pos rfl (ev_pos rfl (Ev.bind s1 (Ev.bind t1 (Ev.bind (refadd_f hp u2 v2) (ev_pos hsum
    (Ev.bind m1 (Ev.bind n1 (Ev.bind (refmul_f hp u2 v2) (ev_pos hprod ?_)))))))))))))))
  exact ev_eq (Ev.now _) hroot

end Go.Proofs.Ytgfefcopaeelnaa.Pure
