/- Divisors of lists by a prime, and Euclid's way: plain facts. -/
import Derived.Test.YtgfefcopaeelnaaGcd
import Derived.Test.YtgfefcopaeelnaaPow
namespace Go.Proofs.Ytgfefcopaeelnaa.Alg
open Go.RowKit Go.Proofs.YtgfefcopaeelnaaW.PrintWords Go.Proofs.YtgfefcopaeelnaaW.PrintMore Go.Proofs.Ytgfefcopaeelnaa.M Sq
set_option linter.unusedVariables false
set_option linter.unusedSimpArgs false

/-- c divides a. -/
def Dd (p : Int) (c a : Sq) : Prop := ∃ s, Fin_ p s ∧ Cq p a (s * c)
theorem Dd.refl (p : Int) (a : Sq) : Dd p a a := ⟨1, fin_one p, by rw [one_mul]; exact .refl _ _⟩
theorem Dd.zero {p : Int} {c a : Sq} (h : Cq p a 0) : Dd p c a := ⟨0, fin_zero p, by rw [zero_mul]; exact h⟩
theorem Dd.add {p : Int} {c a b : Sq} (h : Dd p c a) (k : Dd p c b) : Dd p c (a + b) := by
  obtain ⟨s, hs, h⟩ := h; obtain ⟨t, ht, k⟩ := k
  exact ⟨s + t, hs.add ht, by rw [add_mul]; exact h.add k⟩
theorem Dd.sub {p : Int} {c a b : Sq} (h : Dd p c a) (k : Dd p c b) : Dd p c (a - b) := by
  obtain ⟨s, hs, h⟩ := h; obtain ⟨t, ht, k⟩ := k
  refine ⟨s + -t, hs.add ht.neg, ?_⟩
  rw [add_mul, neg_mul, ← sub_eq]; exact h.sub k
theorem Dd.mul {p : Int} {c a : Sq} (b : Sq) (hb : Fin_ p b) (h : Dd p c a) : Dd p c (b * a) := by
  obtain ⟨s, hs, h⟩ := h
  exact ⟨b * s, hb.mul hs, by rw [mul_assoc]; exact (Cq.refl p b).mul h⟩
theorem Dd.cq {p : Int} {c d a b : Sq} (h : Dd p c a) (hc : Cq p c d) (ha : Cq p a b) : Dd p d b := by
  obtain ⟨s, hs, h⟩ := h
  exact ⟨s, hs, ha.symm.trans (h.trans ((Cq.refl p s).mul hc))⟩
theorem Dd.trans {p : Int} {a b c : Sq} (h : Dd p a b) (k : Dd p b c) : Dd p a c := by
  obtain ⟨s, hs, h⟩ := h; obtain ⟨t, ht, k⟩ := k
  exact ⟨t * s, ht.mul hs, by rw [mul_assoc]; exact k.trans ((Cq.refl p t).mul h)⟩
theorem fin_sm {p : Int} {a : Sq} (c : Int) (h : Fin_ p a) : Fin_ p (sm c a) := by obtain ⟨n, h⟩ := h; exact ⟨n, Lt.sm c h⟩

theorem inv_ex {p v : Int} (hp : Pr p) (hv : ¬ Cg p v 0) : ∃ w, Cg p (v * w) 1 := by
  obtain ⟨w, _, _, h⟩ := progInv hp hv; exact ⟨w, h⟩
/-- A multiple by a unit divides just as well. -/
theorem Dd.unit {p v : Int} (hp : Pr p) (hv : ¬ Cg p v 0) {m c a : Sq} (hm : Cq p m (sm v c)) (h : Dd p c a) : Dd p m a := by
  obtain ⟨w, hw⟩ := inv_ex hp hv
  refine Dd.trans ⟨sm w 1, fin_sm w (fin_one p), ?_⟩ h
  rw [sm_mul, one_mul]
  refine Cq.symm ((Cq.sm (.refl p w) hm).trans ?_)
  intro n; rw [sm_at, sm_at]
  refine (Cg.of_eq (show w * (v * c n) = v * w * c n by grind)).trans ((hw.mul (.refl p (c n))).trans (.of_eq (by omega)))

theorem Eu.dvd {p : Int} {f g d : List Int} (h : Eu p f g d) : Dd p (cf d) (cf f) ∧ Dd p (cf d) (cf g) := by
  induction h with
  | done f => exact ⟨.refl _ _, .zero (by rw [cf_nil]; exact .refl _ _)⟩
  | @step f g q r d h0 hq _ ih => exact ⟨((ih.1.mul (cf q) (fin_cf p q)).add ih.2).cq (.refl _ _) hq.eq.symm, ih.1⟩
theorem Eu.great {p : Int} {f g d : List Int} {c : Sq} (h : Eu p f g d) (hf : Dd p c (cf f)) (hg : Dd p c (cf g)) : Dd p c (cf d) := by
  induction h with
  | done f => exact hf
  | @step f g q r d h0 hq _ ih =>
    refine ih hg ((hf.sub (hg.mul (cf q) (fin_cf p q))).cq (.refl _ _) fun n => ?_)
    obtain ⟨c, hc⟩ := hq.eq n
    exact ⟨c, by simp at hc ⊢; omega⟩

/-- Two finite sequences whose product is one are numbers. -/
theorem unit_const {p : Int} (hp : Pr p) {s t : Sq} (hs : Fin_ p s) (ht : Fin_ p t) (h : Cq p (s * t) 1) : ∃ c, ¬ Cg p c 0 ∧ Cq p s (sm c 1) := by
  obtain ⟨m, hs⟩ := hs; obtain ⟨n, ht⟩ := ht
  have one_ne : ¬ Cq p (1 : Sq) 0 := fun h0 => hp.1.one_ne (by have := h0 0; rwa [one_at, if_pos rfl] at this)
  have hsz : ¬ Cq p s 0 := fun h0 => one_ne (h.symm.trans (by have := h0.mul_right t; rwa [zero_mul] at this))
  have htz : ¬ Cq p t 0 := fun h0 => one_ne (h.symm.trans (by have := h0.mul_right s; rw [zero_mul, mul_comm] at this; exact this))
  obtain ⟨i, _, hi, hi'⟩ := last hs hsz
  obtain ⟨j, _, hj, hj'⟩ := last ht htz
  have htop := (top (p := p) (a := s) (b := t) (m := i) (e := j) (fun z hz => hi' z (by omega)) (fun z hz => hj' z (by omega))).1
  have h0 : i + j = 0 := by
    refine Classical.byContradiction fun hne => ?_
    have h1 := h (i + j)
    rw [one_at, if_neg hne] at h1
    rcases hp.1.cg_mul (htop.symm.trans h1) with h | h
    · exact hi h
    · exact hj h
  have hi0 : i = 0 := by omega
  subst hi0
  refine ⟨s 0, hi, fun k => ?_⟩
  rw [sm_at, one_at]
  by_cases hk : k = 0
  · rw [hk]; exact .of_eq (by simp)
  · rw [if_neg hk]; exact (hi' k (by omega)).trans (.of_eq (by omega))

/-- What divide each other are one but for a number. -/
theorem assoc {p : Int} (hp : Pr p) {a b : Sq} (ha : Fin_ p a) (h : Dd p a b) (k : Dd p b a) (hz : ¬ Cq p a 0) : ∃ c, ¬ Cg p c 0 ∧ Cq p b (sm c a) := by
  obtain ⟨s, hs, h⟩ := h; obtain ⟨t, ht, k⟩ := k
  have h1 : Cq p ((s * t - 1) * a) 0 := by
    rw [sub_mul, one_mul]
    refine Cq.zero_of (Cq.symm ?_)
    rw [mul_comm s t, mul_assoc]
    exact k.trans ((Cq.refl p t).mul h)
  obtain ⟨na, hna⟩ := ha
  have hst : Fin_ p (s * t - 1) := by rw [sub_eq]; exact (hs.mul ht).add (fin_one p).neg
  obtain ⟨nst, hnst⟩ := hst
  rcases mul_ne hp.1 hnst hna h1 with h2 | h2
  · obtain ⟨c, hc, hcs⟩ := unit_const hp hs ht h2.of_zero
    refine ⟨c, hc, h.trans ((hcs.mul_right a).trans (.of_eq ?_))⟩
    rw [sm_mul, one_mul]
  · exact absurd h2 hz

/-- The monic greatest common divisor hangs on the ideal alone. -/
theorem gcd_sym {p : Int} (hp : Pr p) {f g d d' m m' : List Int} (h : Eu p f g d) (k : Eu p g f d') (hm : Mn p (cf d) m) (hm' : Mn p (cf d') m') : m' = m := by
  have h1 : Dd p (cf d) (cf d') := k.great h.dvd.2 h.dvd.1
  have h2 : Dd p (cf d') (cf d) := h.great k.dvd.2 k.dvd.1
  by_cases hz : Cq p (cf d) 0
  · have hz' : Cq p (cf d') 0 := by
      obtain ⟨s, _, hs⟩ := h1
      have := (hz.mul_right s); rw [zero_mul, mul_comm] at this
      exact hs.trans this
    exact (hm'.cq (hz'.trans hz.symm)).one hp hm
  · obtain ⟨c, hc, hcd⟩ := assoc hp (fin_cf p d) h1 h2 hz
    exact ((hm'.cq hcd).sm hp hc).one hp hm

/-- Both times a list: the greatest common divisor is times it. -/
theorem Eu.times {p : Int} (hp : Pr p) {h : List Int} (hh : PL p h) (hh0 : h ≠ []) (hhl : h.length ≤ 1000000) {f g d : List Int} (e : Eu p f g d) : PL p f → PL p g → f.length ≤ 1000000 → g.length ≤ 1000000 →
    ∀ {f' g' d' : List Int}, PL p f' → PL p g' → Cq p (cf f') (cf f * cf h) → Cq p (cf g') (cf g * cf h) → Eu p f' g' d' → Cq p (cf d') (cf d * cf h) := by
  induction e with
  | done f =>
    intro _ _ _ _ f' g' d' hf' hg' cf' cg' e'
    have hg0 : g' = [] := (hg'.nil_iff hp.pos).2 (by rw [cf_nil, zero_mul] at cg'; exact cg')
    subst hg0
    cases e' with
    | done => exact cf'
    | step h0 => exact absurd rfl h0
  | @step f g q r d h0 hq _ ih =>
    intro hf hg hfl hgl f' g' d' hf' hg' cf' cg' e'
    have hg0 : g' ≠ [] := fun hz => by
      subst hz
      rcases mul_ne hp.1 (cf_lt_ p g) (cf_lt_ p h) (by rw [cf_nil] at cg'; exact cg'.symm) with h1 | h1
      · exact plz hp hg h0 h1
      · exact plz hp hh hh0 h1
    have hgpos := List.length_pos_iff.2 h0
    have hhpos := List.length_pos_iff.2 hh0
    have hrg : r.length < g.length := by
      obtain ⟨e, he, hec, hel⟩ := hq.lt
      rwa [he.ext hg hp.pos hec] at hel
    -- the rest times h, as a list
    obtain ⟨rh, _, r2, r3, r4⟩ := (progMul_is hp r h (by omega) (by omega)).len hp.pos ((cf_lt_ p r).mul' (cf_lt_ p h))
    have hglen : g.length + h.length ≤ g'.length + 1 := Nat.le_of_not_lt fun hlt => by
      have htop := (top (p := p) (a := cf g) (b := cf h) (m := g.length - 1) (e := h.length - 1) (fun i hi => cf_lt_ p g i (by omega)) (fun j hj => cf_lt_ p h j (by omega))).1
      have h1 := cg' (g.length - 1 + (h.length - 1))
      rw [cf_big (l := g') (by omega)] at h1
      rcases hp.1.cg_mul (htop.symm.trans h1.symm) with h2 | h2
      · exact hg.last hp.pos hgpos h2
      · exact hh.last hp.pos hhpos h2
    have hrlen : rh.length < g'.length := by
      by_cases hr0 : r.length = 0
      · have : rh = [] := (r2.nil_iff hp.pos).2 (by rw [List.length_eq_zero_iff.1 hr0, cf_nil, zero_mul] at r3; exact r3)
        rw [this]; exact List.length_pos_iff.2 hg0
      · have hlt : Lt p (cf r * cf h) (r.length - 1 + (h.length - 1) + 1) := Lt.mul ((cf_lt_ p r).mono (by omega)) ((cf_lt_ p h).mono (by omega))
        have := r2.le_of hp.pos r3 hlt
        omega
    have hQ : QR p (cf f') (cf g') q rh := ⟨hq.pq, r2, by
      refine cf'.trans ((hq.eq.mul_right (cf h)).trans ?_)
      rw [add_mul, mul_assoc]
      exact ((Cq.refl p (cf q)).mul cg'.symm).add r3.symm, g', hg', .refl _ _, hrlen⟩
    cases e' with
    | done => exact absurd rfl hg0
    | step _ kq ke =>
      obtain ⟨_, hr⟩ := hQ.one hp kq
      subst hr
      exact ih hg hq.pr hgl (by omega) hg' r2 cg' r3 ke

/-- A product of monic lists is monic. -/
theorem Mn.times {p : Int} (hp : Pr p) {A B : Sq} {m n t : List Int} (hm : Mn p A m) (hn : Mn p B n) (ht : PL p t) (hc : Cq p (cf t) (cf m * cf n)) : Mn p (A * B) t := by
  rcases hm.eq with ⟨hz, h1⟩ | ⟨hl, htop, v, hv, hcq⟩
  · have h0 : Cq p (A * B) 0 := by have := hz.mul_right B; rwa [zero_mul] at this
    refine ⟨ht, .inl ⟨h0, (ht.nil_iff hp.pos).2 ?_⟩⟩
    rw [h1, cf_nil, zero_mul] at hc; exact hc
  · rcases hn.eq with ⟨hz, h1⟩ | ⟨hl', htop', w, hw, hcq'⟩
    · have h0 : Cq p (A * B) 0 := by have := hz.mul_right A; rw [zero_mul, mul_comm] at this; exact this
      refine ⟨ht, .inl ⟨h0, (ht.nil_iff hp.pos).2 ?_⟩⟩
      rw [h1, cf_nil, mul_zero] at hc; exact hc
    · have ht1 := top (p := p) (a := cf m) (b := cf n) (m := m.length - 1) (e := n.length - 1) (fun i hi => cf_lt_ p m i (by omega)) (fun j hj => cf_lt_ p n j (by omega))
      rw [htop, htop'] at ht1
      have h1 : Cg p (cf t (m.length - 1 + (n.length - 1))) 1 := (hc _).trans (ht1.1.trans (.of_eq (by omega)))
      have hge : m.length - 1 + (n.length - 1) < t.length := Nat.lt_of_not_le fun hle => by
        rw [cf_big (l := t) hle] at h1; exact hp.1.one_ne h1.symm
      have hle : t.length ≤ m.length - 1 + (n.length - 1) + 1 := ht.le_of hp.pos hc (fun i hi => ht1.2 i (by omega))
      refine ⟨ht, .inr ⟨by omega, ?_, v * w, fun hz => ?_, hc.trans ((hcq.mul hcq').trans (.of_eq ?_))⟩⟩
      · have hb := ht.at hp.pos (m.length - 1 + (n.length - 1))
        rw [show t.length - 1 = m.length - 1 + (n.length - 1) by omega]
        exact h1.eq_of hb.1 hb.2 (by omega) (by have := hp.two; omega)
      · rcases hp.1.cg_mul hz with h | h
        · exact hv h
        · exact hw h
      · rw [sm_mul, mul_sm, sm_sm]

theorem Mn.dvd {p : Int} (hp : Pr p) {F A : Sq} {m : List Int} (hm : Mn p F m) (h : Dd p F A) : Dd p (cf m) A := by
  rcases hm.eq with ⟨hz, h1⟩ | ⟨hl, htop, v, hv, hcq⟩
  · exact h.cq (hz.trans (by rw [h1, cf_nil]; exact .refl _ _)) (.refl _ _)
  · exact h.unit hp hv hcq

/-- What is a multiple leaves no rest. -/
theorem rest_nil {p : Int} (hp : Pr p) {F : Sq} {m : List Int} (hm : PL p m) (hm0 : 0 < m.length) {q r : List Int} (h : QR p F (cf m) q r) (hd : Dd p (cf m) F) : r = [] := by
  obtain ⟨s, hs, hc⟩ := hd
  exact h.rm.one hp (⟨.nil p, .refl _ _ _, m, hm, .refl _ _, hm0⟩ : Rm p (cf m) (cf []) []) ⟨s, hs, by rw [cf_nil, add_zero]; exact hc⟩

end Go.Proofs.Ytgfefcopaeelnaa.Alg
