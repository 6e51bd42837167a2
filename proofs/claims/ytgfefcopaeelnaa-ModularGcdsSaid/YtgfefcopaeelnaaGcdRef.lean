/- The document's greatest common divisors of lists by a prime, and lists made monic. -/
import Derived.Test.YtgfefcopaeelnaaGcd
import Derived.Test.YtgfefcopaeelnaaRef
import Derived.Test.YtgfefcopaeelnaaMx33
import Derived.Test.YtgfefcopaeelnaaMx34
namespace Go.Proofs.Ytgfefcopaeelnaa.Alg
open Go.RowKit Go.Proofs.YtgfefcopaeelnaaW.PrintWords Go.Proofs.YtgfefcopaeelnaaW.PrintMore Go.Proofs.Ytgfefcopaeelnaa.M Sq
set_option linter.unusedVariables false
set_option linter.unusedSimpArgs false

theorem refMonic {p : Int} (hp : Pr p) (f : List Int) (hf : f.length ≤ 1073741824) : ∃ m, Ev (fun k => primroseref10_Monic.f k f p) m ∧ Mn p (cf f) m := by
  obtain ⟨F, a1, a2, a3, a4⟩ := (refPlain_is hp f hf).len hp.pos (cf_lt_ p f)
  by_cases h0 : F.length = 0
  · refine ⟨F, ?_, a2, .inl ⟨a3.symm.trans ((a2.len_iff hp.pos).1 h0), List.length_eq_zero_iff.1 h0⟩⟩
    unfold primroseref10_Monic.f
    exact Ev.bind a1 (ev_pos (by omega) (Ev.now _))
  · obtain ⟨v, b1, b2, b3⟩ := refInv hp (a2.last hp.pos (by omega))
    obtain ⟨m, c1, c2, c3⟩ := refScale_is hp F v (by omega)
    refine ⟨m, ?_, (mn_of hp a2 (by omega) b3 c2 c3).cq a3⟩
    unfold primroseref10_Monic.f
    refine Ev.bind a1 (ev_neg (by omega) ?_)
    rw [wpred (by omega) (by omega)]
    refine ev_pos (by omega) (ev_pos (by omega) ?_)
    rw [rd_cf]
    exact Ev.bind b1 (Ev.bind c1 (Ev.now _))

theorem refGcd_l0 {p : Int} (hp : Pr p) : ∀ (n : Nat) (f g : List Int), g.length ≤ n → PL p f → PL p g → f.length ≤ 134217728 → g.length ≤ 134217728 →
    ∃ d m, Eu p f g d ∧ PL p d ∧ Ev (fun k => primroseref10_Gcd.l0 k f g p) m ∧ Mn p (cf d) m := by
  intro n
  induction n with
  | zero =>
    intro f g hn hf hg hfl hgl
    have h0 : g = [] := List.length_eq_zero_iff.1 (by omega)
    subst h0
    obtain ⟨m, h1, h2⟩ := refMonic hp f (by omega)
    refine ⟨f, m, .done f, hf, Ev.step (f := fun k => (primroseref10_Monic.f k f p).bind fun t => some t) (fun k => ?_) (Ev.bind h1 (Ev.now _)), h2⟩
    rw [primroseref10_Gcd.l0, if_neg (by simp)]
  | succ n ih =>
    intro f g hn hf hg hfl hgl
    by_cases h0 : g = []
    · subst h0; exact ih f [] (by simp) hf hg hfl hgl
    · have hpos : 0 < g.length := List.length_pos_iff.2 h0
      obtain ⟨q, r, k1, k2⟩ := refRest hp f g hfl hgl (plz hp hg h0)
      have hrl : r.length < g.length := by
        obtain ⟨e, he, hec, hel⟩ := k2.lt
        rwa [he.ext hg hp.pos hec] at hel
      obtain ⟨d, m, h1, h2, h3, h4⟩ := ih g r (by omega) hg k2.pr hgl (by omega)
      refine ⟨d, m, .step h0 k2 h1, h2, Ev.step (f := fun k => (primroseref10_Rest.f k f g p).bind fun b => primroseref10_Gcd.l0 k g b p) (fun k => ?_) (Ev.bind k1 h3), h4⟩
      rw [primroseref10_Gcd.l0, if_pos (by omega)]

theorem refGcd {p : Int} (hp : Pr p) (f g : List Int) (hf : f.length ≤ 134217728) (hg : g.length ≤ 134217728) : ∃ F G d m, PL p F ∧ PL p G ∧ Cq p (cf F) (cf f) ∧ Cq p (cf G) (cf g) ∧ Eu p F G d ∧ PL p d ∧ Ev (fun k => primroseref10_Gcd.f k f g p) m ∧ Mn p (cf d) m := by
  obtain ⟨F, a1, a2, a3, a4⟩ := (refPlain_is hp f (by omega)).len hp.pos (cf_lt_ p f)
  obtain ⟨G, b1, b2, b3, b4⟩ := (refPlain_is hp g (by omega)).len hp.pos (cf_lt_ p g)
  obtain ⟨d, m, h1, h2, h3, h4⟩ := refGcd_l0 hp G.length F G (Nat.le_refl _) a2 b2 (by omega) (by omega)
  exact ⟨F, G, d, m, a2, b2, a3, b3, h1, h2, by unfold primroseref10_Gcd.f; exact Ev.bind a1 (Ev.bind b1 h3), h4⟩
theorem gcd_same {p : Int} (hp : Pr p) (f g : List Int) (hf : f.length ≤ 1000000) (hg : g.length ≤ 1000000) : ∃ m, Ev (fun k => modular_Gcd.f k f g p) m ∧ Ev (fun k => primroseref10_Gcd.f k f g p) m ∧ m.length ≤ 1000000 := by
  obtain ⟨F, G, d, m, a1, a2, a3, a4, a5, a6, a7, a8⟩ := progGcd hp f g (by omega) (by omega)
  obtain ⟨F', G', d', m', b1, b2, b3, b4, b5, b6, b7, b8⟩ := refGcd hp f g (by omega) (by omega)
  have e1 : F' = F := b1.ext a1 hp.pos (b3.trans a3.symm)
  have e2 : G' = G := b2.ext a2 hp.pos (b4.trans a4.symm)
  subst e1; subst e2
  have e3 : d' = d := b5.one hp a5
  subst e3
  have e4 : m' = m := b8.one hp a8
  subst e4
  have hFl : F'.length ≤ 1000000 := by have := a1.le_of hp.pos a3 (cf_lt_ p f); omega
  have hGl : G'.length ≤ 1000000 := by have := a2.le_of hp.pos a4 (cf_lt_ p g); omega
  have hd : d'.length ≤ 1000000 := by
    have : ∀ {f g d : List Int}, Eu p f g d → f.length ≤ 1000000 → g.length ≤ 1000000 → d.length ≤ 1000000 := by
      intro f g d h
      induction h with
      | done f => intro h _; exact h
      | step h0 hq _ ih => intro h1 h2; exact ih h2 (by have := (hq.len hp (cf_lt_ p _) (cf_lt_ p _)).2; omega)
    exact this a5 hFl hGl
  exact ⟨m', a7, b7, by have := a8.len hp (cf_lt_ p d'); omega⟩

end Go.Proofs.Ytgfefcopaeelnaa.Alg
