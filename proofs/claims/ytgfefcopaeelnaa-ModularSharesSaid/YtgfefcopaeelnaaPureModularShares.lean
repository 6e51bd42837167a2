/- ModularShares: for every three lists and every number, the greatest common divisor by the picked prime divides both, is the same the other way round, and is times a factor of both. Conditions: none but those of the statement. -/
import Derived.Test.YtgfefcopaeelnaaDvd
import Derived.Test.YtgfefcopaeelnaaMx37
namespace Go.Proofs.Ytgfefcopaeelnaa.Pure
open Go.RowKit Go.Proofs.Ytgfefcopaeelnaa.M Go.Proofs.YtgfefcopaeelnaaW.PrintWords Go.Proofs.YtgfefcopaeelnaaW.PrintLast Go.Proofs.Ytgfefcopaeelnaa.Alg
set_option linter.unusedVariables false

/-- How long Euclid's last rest is. -/
theorem eu_len {p : Int} (hp : Pr p) {f g d : List Int} (h : Eu p f g d) {n : Nat} : f.length ≤ n → g.length ≤ n → d.length ≤ n := by
  induction h with
  | done f => intro h _; exact h
  | step h0 hq _ ih => intro h1 h2; exact ih h2 (by have := (hq.len hp (cf_lt_ p _) (cf_lt_ p _)).2; omega)

theorem ModularShares : primroselaw10_ModularShares.Pure := by
  intro f g h a _ _ _ _ _ _ _ _ _ _
  refine Ev.rounds (g := fun k => primroselaw10_ModularShares.f k f g h a) ?_
  have hj : Ev (fun k => primroselaw10_ModularShares.j0 k f g h a true true) true :=
    Ev.step (f := fun k => some true) (fun k => by rw [primroselaw10_ModularShares.j0, if_pos rfl]) (Ev.now _)
  unfold primroselaw10_ModularShares.f
  refine Ev.bind awake (ev_pos rfl ?_)
  by_cases h1 : (f.length : Int) > 8
  · exact ev_pos h1 hj
  refine ev_neg h1 ?_
  by_cases h2 : (g.length : Int) > 8
  · exact ev_pos h2 hj
  refine ev_neg h2 ?_
  by_cases h3 : (h.length : Int) > 8
  · rw [decide_eq_true h3]; exact hj
  rw [decide_eq_false h3]
  obtain ⟨p, hpick, hp⟩ := pick a
  obtain ⟨F, G, d, m, F1, G1, F2, G2, e1, d1, m1, m2⟩ := progGcd hp f g (by omega) (by omega)
  have hFl : F.length ≤ 8 := by have := F1.le_of hp.pos F2 (cf_lt_ p f); omega
  have hGl : G.length ≤ 8 := by have := G1.le_of hp.pos G2 (cf_lt_ p g); omega
  have hdl : d.length ≤ 8 := eu_len hp e1 hFl hGl
  have hml : m.length ≤ 8 := by have := m2.len hp (cf_lt_ p d); omega
  have df : Dd p (cf d) (cf f) := e1.dvd.1.cq (.refl _ _) F2
  have dg : Dd p (cf d) (cf g) := e1.dvd.2.cq (.refl _ _) G2
  refine Ev.step (fun k => by rw [primroselaw10_ModularShares.j0, if_neg (by decide)]) (Ev.bind hpick (Ev.bind m1 ?_))
  by_cases h0 : m.length = 0
  · have hdz : Sq.Cq p (cf d) 0 := by
      rcases m2.eq with ⟨hz, _⟩ | ⟨hl, _⟩
      · exact hz
      · omega
    have zero : ∀ l : List Int, l.length ≤ 8 → Dd p (cf d) (cf l) → ∃ r, Ev (fun k => modular_Plain.f k l p) r ∧ r.length = 0 := fun l hl hd => by
      obtain ⟨r, r1, r2, r3⟩ := progPlain_is hp l (by omega)
      obtain ⟨s, _, hs⟩ := hd
      refine ⟨r, r1, (r2.len_iff hp.pos).2 (r3.trans (hs.trans ?_))⟩
      have := hdz.mul_right s; rw [Sq.zero_mul, Sq.mul_comm] at this; exact this
    obtain ⟨r, r1, r2⟩ := zero f (by omega) df
    obtain ⟨s, s1, s2⟩ := zero g (by omega) dg
    exact ev_pos (by omega) (ev_pos rfl (Ev.bind r1 (ev_pos (by omega) (Ev.bind s1 (ev_eq (Ev.now _) (by rw [s2]; rfl))))))
  · refine ev_neg (by omega) ?_
    have hmz : ¬ Sq.Cq p (cf m) 0 := fun hz => h0 ((m2.pl.len_iff hp.pos).2 hz)
    obtain ⟨q, r, k1, k2⟩ := prog_dm hp f m (by omega) (by omega) hmz
    have hr := rest_nil hp m2.pl (by omega) k2 (m2.dvd hp df)
    subst hr
    obtain ⟨q', r', l1, l2⟩ := prog_dm hp g m (by omega) (by omega) hmz
    have hr' := rest_nil hp m2.pl (by omega) l2 (m2.dvd hp dg)
    subst hr'
    obtain ⟨fh, fh1, fh2, fh3, fh4⟩ := (progMul_is hp f h (by omega) (by omega)).len hp.pos ((cf_lt_ p f).mul' (cf_lt_ p h))
    obtain ⟨gh, gh1, gh2, gh3, gh4⟩ := (progMul_is hp g h (by omega) (by omega)).len hp.pos ((cf_lt_ p g).mul' (cf_lt_ p h))
    obtain ⟨Fh, Gh, dh, mh, A1, A2, A3, A4, A5, A6, A7, A8⟩ := progGcd hp fh gh (by omega) (by omega)
    obtain ⟨G', F', d', m', B1, B2, B3, B4, B5, B6, B7, B8⟩ := progGcd hp g f (by omega) (by omega)
    have eG : G' = G := B1.ext G1 hp.pos (B3.trans G2.symm)
    have eF : F' = F := B2.ext F1 hp.pos (B4.trans F2.symm)
    subst eG; subst eF
    have hmm : m' = m := gcd_sym hp e1 B5 m2 B8
    subst hmm
    obtain ⟨n, n1, n2⟩ := progMonic hp h (by omega)
    have hnl := n2.len hp (cf_lt_ p h)
    obtain ⟨t, t1, t2, t3, t4⟩ := (progMul_is hp m' n (by omega) (by omega)).len hp.pos ((cf_lt_ p m').mul' (cf_lt_ p n))
    have hFhl : Fh.length ≤ 20 := by have := A1.le_of hp.pos A3 (cf_lt_ p fh); omega
    have hGhl : Gh.length ≤ 20 := by have := A2.le_of hp.pos A4 (cf_lt_ p gh); omega
    have hdhl : dh.length ≤ 20 := eu_len hp A5 hFhl hGhl
    have hmhl : mh.length ≤ 20 := by have := A8.len hp (cf_lt_ p dh); omega
    have hT : Mn p (cf d * cf h) t := Mn.times hp m2 n2 t2 t3
    have hboth : Sq.Cq p (cf dh) (cf d * cf h) := by
      obtain ⟨H, H1, H2, H3⟩ := progPlain_is hp h (by omega)
      have hHl : H.length ≤ 8 := by have := H2.le_of hp.pos H3 (cf_lt_ p h); omega
      have cF : Sq.Cq p (cf Fh) (cf F' * cf H) := A3.trans (fh3.trans (F2.symm.mul H3.symm))
      have cG : Sq.Cq p (cf Gh) (cf G' * cf H) := A4.trans (gh3.trans (G2.symm.mul H3.symm))
      by_cases hH : H = []
      · subst hH
        rw [cf_nil, Sq.mul_zero] at cF cG
        have eG0 : Gh = [] := (A2.nil_iff hp.pos).2 cG
        subst eG0
        have e := A5
        cases e with
        | done =>
          refine cF.trans (Sq.Cq.symm ?_)
          have hz : Sq.Cq p (cf h) 0 := by rw [cf_nil] at H3; exact H3.symm
          have := hz.mul_right (cf d); rw [Sq.zero_mul, Sq.mul_comm] at this; exact this
        | step hne => exact absurd rfl hne
      · exact (e1.times hp H2 hH (by omega) F1 G1 (by omega) (by omega) A1 A2 cF cG A5).trans ((Sq.Cq.refl p _).mul H3)
    have hmt : mh = t := (A8.cq hboth).one hp hT
    subst hmt
    refine Ev.bind k1 (Ev.bind l1 (Ev.bind fh1 (Ev.bind gh1 (Ev.bind A7 (ev_pos rfl (ev_pos rfl (ev_pos rfl (Ev.bind B7 (Ev.bind (same_eq rfl (show m'.length ≤ 1073741824 by omega)) (ev_pos rfl (Ev.bind n1 (Ev.bind t1 ?_))))))))))))
    exact Ev.bind (same_eq rfl (show mh.length ≤ 1073741824 by omega)) (Ev.now _)

end Go.Proofs.Ytgfefcopaeelnaa.Pure
