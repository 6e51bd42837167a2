/- Greatest common divisors of lists by a prime, and lists made monic: what the program's and the document's printed functions come to. -/
import Derived.Test.YtgfefcopaeelnaaTop1
import Derived.Test.YtgfefcopaeelnaaMx33
namespace Go.Proofs.Ytgfefcopaeelnaa.Alg
open Go.RowKit Go.Proofs.YtgfefcopaeelnaaW.PrintWords Go.Proofs.YtgfefcopaeelnaaW.PrintMore Go.Proofs.Ytgfefcopaeelnaa.M Sq
set_option linter.unusedVariables false
set_option linter.unusedSimpArgs false

/-- F, divided by its last coefficient. -/
structure Mn (p : Int) (F : Sq) (m : List Int) : Prop where
  pl : PL p m
  eq : (Cq p F 0 ∧ m = []) ∨ (0 < m.length ∧ cf m (m.length - 1) = 1 ∧ ∃ v, ¬ Cg p v 0 ∧ Cq p (cf m) (sm v F))

theorem unit_inv {p v w : Int} (hp : IsP p) (h : Cg p (v * w) 1) : ¬ Cg p w 0 := fun hw => by
  have := ((Cg.refl p v).mul hw).symm.trans h
  rw [Int.mul_zero] at this; exact hp.one_ne this.symm

theorem sm_zero_iff {p v : Int} (hp : IsP p) (hv : ¬ Cg p v 0) {F : Sq} (h : Cq p (sm v F) 0) : Cq p F 0 := fun n => by
  have := h n
  rw [sm_at, zero_at] at this
  rcases hp.cg_mul this with h | h
  · exact absurd h hv
  · exact h

/-- Two monic multiples of one list are one. -/
theorem monic_one {p : Int} (hp : Pr p) {F : Sq} {m m' : List Int} {v v' : Int} (h : PL p m) (h' : PL p m') (hl : 0 < m.length) (hl' : 0 < m'.length) (ht : cf m (m.length - 1) = 1) (ht' : cf m' (m'.length - 1) = 1)
    (hv : ¬ Cg p v 0) (hv' : ¬ Cg p v' 0) (hc : Cq p (cf m) (sm v F)) (hc' : Cq p (cf m') (sm v' F)) : m = m' := by
  have hx : Cq p (sm v' (cf m)) (sm v (cf m')) := fun n => by
    refine ((Cg.refl p v').mul (hc n)).trans (Cg.trans (.of_eq ?_) ((Cg.refl p v).mul (hc' n)).symm)
    rw [sm_at, sm_at]; grind
  have hlen : m.length = m'.length := by
    rcases Nat.lt_trichotomy m.length m'.length with h1 | h1 | h1
    · have h2 := hx (m'.length - 1)
      rw [sm_at, sm_at, ht', cf_big (l := m) (by omega), Int.mul_zero, Int.mul_one] at h2
      exact absurd h2.symm hv
    · exact h1
    · have h2 := hx (m.length - 1)
      rw [sm_at, sm_at, ht, cf_big (l := m') (by omega), Int.mul_zero, Int.mul_one] at h2
      exact absurd h2 hv'
  have hvv : Cg p v' v := by
    have h2 := hx (m.length - 1)
    rw [sm_at, sm_at, ht, hlen, ht', Int.mul_one, Int.mul_one] at h2
    exact h2
  refine h.ext h' hp.pos fun n => hp.1.cancel hv' ?_
  have h2 := hx n
  rw [sm_at, sm_at] at h2
  rw [Int.mul_comm (cf m n), Int.mul_comm (cf m' n)]
  exact h2.trans (hvv.symm.mul (.refl _ _))

theorem Mn.one {p : Int} (hp : Pr p) {F : Sq} {m m' : List Int} (h : Mn p F m) (k : Mn p F m') : m = m' := by
  rcases h.eq with ⟨hz, h1⟩ | ⟨hl, ht, v, hv, hc⟩
  · rcases k.eq with ⟨_, k1⟩ | ⟨kl, kt, w, hw, kc⟩
    · rw [h1, k1]
    · have := (kc.trans ((Cq.sm (.refl p w) hz).trans (Cq.of_eq (show sm w 0 = 0 by ext n; simp)))) (m'.length - 1)
      rw [kt] at this; exact absurd this hp.1.one_ne
  · rcases k.eq with ⟨hz, _⟩ | ⟨kl, kt, w, hw, kc⟩
    · have := (hc.trans ((Cq.sm (.refl p v) hz).trans (Cq.of_eq (show sm v 0 = 0 by ext n; simp)))) (m.length - 1)
      rw [ht] at this; exact absurd this hp.1.one_ne
    · exact monic_one hp h.pl k.pl hl kl ht kt hv hw hc kc
theorem Mn.len {p : Int} (hp : Pr p) {F : Sq} {m : List Int} (h : Mn p F m) {n : Nat} (hF : Lt p F n) : m.length ≤ n := by
  rcases h.eq with ⟨_, h1⟩ | ⟨hl, ht, v, hv, hc⟩
  · rw [h1]; simp
  · exact h.pl.le_of hp.pos hc (Lt.sm v hF)
theorem Mn.cq {p : Int} {F G : Sq} {m : List Int} (h : Mn p F m) (hF : Cq p F G) : Mn p G m :=
  ⟨h.pl, by
    rcases h.eq with ⟨hz, h1⟩ | ⟨hl, ht, v, hv, hc⟩
    · exact .inl ⟨hF.symm.trans hz, h1⟩
    · exact .inr ⟨hl, ht, v, hv, hc.trans (Cq.sm (.refl _ _) hF)⟩⟩
/-- Of a multiple by a number the same. -/
theorem Mn.sm {p : Int} (hp : Pr p) {F : Sq} {m : List Int} {c : Int} (hc : ¬ Cg p c 0) (h : Mn p (Sq.sm c F) m) : Mn p F m :=
  ⟨h.pl, by
    rcases h.eq with ⟨hz, h1⟩ | ⟨hl, ht, v, hv, hcq⟩
    · exact .inl ⟨sm_zero_iff hp.1 hc hz, h1⟩
    · refine .inr ⟨hl, ht, v * c, fun hz => ?_, hcq.trans (.of_eq (sm_sm _ _ _))⟩
      rcases hp.1.cg_mul hz with h | h
      · exact hv h
      · exact hc h⟩

theorem mn_of {p : Int} (hp : Pr p) {F : List Int} (hF : PL p F) (h0 : 0 < F.length) {v : Int} (hv : Cg p (cf F (F.length - 1) * v) 1) {m : List Int} (hm : PL p m) (hc : Cq p (cf m) (sm v (cf F))) : Mn p (cf F) m := by
  have hvu := unit_inv hp.1 hv
  have htop : Cg p (cf m (F.length - 1)) 1 := (hc _).trans ((Cg.of_eq (by rw [sm_at, Int.mul_comm])).trans hv)
  have hle : m.length ≤ F.length := hm.le_of hp.pos hc (Lt.sm v (cf_lt_ p F))
  have hge : F.length ≤ m.length := Nat.le_of_not_lt fun hlt => by
    rw [cf_big (l := m) (by omega)] at htop; exact hp.1.one_ne htop.symm
  have hlen : m.length = F.length := by omega
  refine ⟨hm, .inr ⟨by omega, ?_, v, hvu, hc⟩⟩
  have hb := hm.at hp.pos (F.length - 1)
  rw [hlen]
  exact htop.eq_of hb.1 hb.2 (by omega) (by have := hp.two; omega)

theorem progMonic {p : Int} (hp : Pr p) (f : List Int) (hf : f.length ≤ 1073741824) : ∃ m, Ev (fun k => modular_Monic.f k f p) m ∧ Mn p (cf f) m := by
  obtain ⟨F, a1, a2, a3, a4⟩ := (progPlain_is hp f hf).len hp.pos (cf_lt_ p f)
  by_cases h0 : F.length = 0
  · refine ⟨F, ?_, a2, .inl ⟨a3.symm.trans ((a2.len_iff hp.pos).1 h0), List.length_eq_zero_iff.1 h0⟩⟩
    unfold modular_Monic.f
    exact Ev.bind a1 (ev_pos (by omega) (Ev.now _))
  · obtain ⟨v, b1, b2, b3⟩ := progInv hp (a2.last hp.pos (by omega))
    obtain ⟨m, c1, c2, c3⟩ := progscale_is hp F v (by omega)
    refine ⟨m, ?_, (mn_of hp a2 (by omega) b3 c2 c3).cq a3⟩
    unfold modular_Monic.f
    refine Ev.bind a1 (ev_neg (by omega) ?_)
    rw [wpred (by omega) (by omega)]
    refine ev_pos (by omega) (ev_pos (by omega) ?_)
    rw [rd_cf]
    exact Ev.bind b1 (Ev.bind c1 (Ev.now _))
theorem progMonic_no {p : Int} (hp : ¬ Pr p) (f : List Int) : Ev (fun k => modular_Monic.f k f p) [] := by
  unfold modular_Monic.f
  exact Ev.bind (progPlain_no hp f) (ev_pos rfl (Ev.now _))

/-! ### Euclid's way -/

/-- The last rest that is no nought, by Euclid's way. -/
inductive Eu (p : Int) : List Int → List Int → List Int → Prop
  | done (f : List Int) : Eu p f [] f
  | step {f g q r d : List Int} : g ≠ [] → QR p (cf f) (cf g) q r → Eu p g r d → Eu p f g d

theorem plz {p : Int} (hp : Pr p) {g : List Int} (hg : PL p g) (h : g ≠ []) : ¬ Cq p (cf g) 0 := fun hz => h ((hg.nil_iff hp.pos).2 hz)

theorem progGcd_l0 {p : Int} (hp : Pr p) : ∀ (n : Nat) (f g : List Int), g.length ≤ n → PL p f → PL p g → f.length ≤ 1073741824 → g.length ≤ 1073741824 →
    ∃ d m, Eu p f g d ∧ PL p d ∧ Ev (fun k => modular_Gcd.l0 k f g p) m ∧ Mn p (cf d) m := by
  intro n
  induction n with
  | zero =>
    intro f g hn hf hg hfl hgl
    have h0 : g = [] := List.length_eq_zero_iff.1 (by omega)
    subst h0
    obtain ⟨m, h1, h2⟩ := progMonic hp f hfl
    refine ⟨f, m, .done f, hf, Ev.step (f := fun k => (modular_Monic.f k f p).bind fun t => some t) (fun k => ?_) (Ev.bind h1 (Ev.now _)), h2⟩
    rw [modular_Gcd.l0, if_neg (by simp)]
  | succ n ih =>
    intro f g hn hf hg hfl hgl
    by_cases h0 : g = []
    · subst h0; exact ih f [] (by simp) hf hg hfl hgl
    · have hpos : 0 < g.length := List.length_pos_iff.2 h0
      obtain ⟨q, r, k1, k2, k3, k4, k5⟩ := divide_dv hp f g hfl hgl hg hpos
      obtain ⟨d, m, h1, h2, h3, h4⟩ := ih g r (by omega) hg k3 hgl (by omega)
      refine ⟨d, m, .step h0 ⟨k2, k3, k4, g, hg, .refl _ _, k5⟩ h1, h2, Ev.step (f := fun k => (modular_divide.f k f g p).bind fun b => modular_Gcd.l0 k g b.2 p) (fun k => ?_) (Ev.bind k1 h3), h4⟩
      rw [modular_Gcd.l0, if_pos (by omega)]

theorem Eu.one {p : Int} (hp : Pr p) {f g d d' : List Int} (h : Eu p f g d) (k : Eu p f g d') : d = d' := by
  induction h with
  | done f =>
    cases k with
    | done => rfl
    | step h0 => exact absurd rfl h0
  | step h0 hq _ ih =>
    cases k with
    | done => exact absurd rfl h0
    | step _ kq ke =>
      obtain ⟨_, hr⟩ := hq.one hp kq
      subst hr; exact ih ke

theorem progGcd {p : Int} (hp : Pr p) (f g : List Int) (hf : f.length ≤ 1073741824) (hg : g.length ≤ 1073741824) : ∃ F G d m, PL p F ∧ PL p G ∧ Cq p (cf F) (cf f) ∧ Cq p (cf G) (cf g) ∧ Eu p F G d ∧ PL p d ∧ Ev (fun k => modular_Gcd.f k f g p) m ∧ Mn p (cf d) m := by
  obtain ⟨F, a1, a2, a3, a4⟩ := (progPlain_is hp f hf).len hp.pos (cf_lt_ p f)
  obtain ⟨G, b1, b2, b3, b4⟩ := (progPlain_is hp g hg).len hp.pos (cf_lt_ p g)
  obtain ⟨d, m, h1, h2, h3, h4⟩ := progGcd_l0 hp G.length F G (Nat.le_refl _) a2 b2 (by omega) (by omega)
  exact ⟨F, G, d, m, a2, b2, a3, b3, h1, h2, by unfold modular_Gcd.f; exact Ev.bind a1 (Ev.bind b1 h3), h4⟩
theorem progGcd_no {p : Int} (hp : ¬ Pr p) (f g : List Int) : Ev (fun k => modular_Gcd.f k f g p) [] := by
  unfold modular_Gcd.f
  refine Ev.bind (progPlain_no hp f) (Ev.bind (progPlain_no hp g) (Ev.step (f := fun k => (modular_Monic.f k [] p).bind fun t => some t) (fun k => ?_) (Ev.bind (progMonic_no hp []) (Ev.now _))))
  rw [modular_Gcd.l0, if_neg (by simp)]

end Go.Proofs.Ytgfefcopaeelnaa.Alg
