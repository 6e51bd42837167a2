/- What the program's printed division and product of lists by a prime come to. -/
import Derived.Test.YtgfefcopaeelnaaMulDiv
import Derived.Test.YtgfefcopaeelnaaMx11
import Derived.Test.YtgfefcopaeelnaaMx22
namespace Go.Proofs.Ytgfefcopaeelnaa.Alg
open Go.RowKit Go.Proofs.YtgfefcopaeelnaaW.PrintWords Go.Proofs.YtgfefcopaeelnaaW.PrintMore Go.Proofs.Ytgfefcopaeelnaa.M Sq
set_option linter.unusedVariables false
set_option linter.unusedSimpArgs false

theorem Is.len {g : Nat → Option (List Int)} {p : Int} {s : Sq} (hp : 0 < p) {n : Nat} (h : Is g p s) (hl : Lt p s n) : ∃ r, Ev g r ∧ PL p r ∧ Cq p (cf r) s ∧ r.length ≤ n := by
  obtain ⟨r, h1, h2, h3⟩ := h; exact ⟨r, h1, h2, h3, h2.le_of hp h3 hl⟩
theorem Is.bind_len {g : Nat → Option (List Int)} {f : Nat → List Int → Option (List Int)} {p : Int} {s t : Sq} (hp : 0 < p) {n : Nat} (hl : Lt p s n) (h : Is g p s) (k : ∀ r, PL p r → Cq p (cf r) s → r.length ≤ n → Is (fun n => f n r) p t) : Is (fun n => (g n).bind (f n)) p t := by
  obtain ⟨r, h1, h2, h3, h4⟩ := h.len hp hl
  obtain ⟨r', k1, k2, k3⟩ := k r h2 h3 h4
  exact ⟨r', Ev.bind h1 k1, k2, k3⟩

theorem wrs {p a : Int} (hp : Pr p) (ha : 0 ≤ a ∧ a < p) : wrap64 a = a := by have := hp.2; exact w64 (by omega) (by omega)
theorem wrs2 {p a b : Int} (hp : Pr p) (ha : 0 ≤ a ∧ a < p) (hb : 0 ≤ b ∧ b < p) : wrap64 (a + b) = a + b := by have := hp.2; exact w64 (by omega) (by omega)

theorem Sq.Lt.mul' {p : Int} {a b : Sq} {m n : Nat} (h : Lt p a m) (k : Lt p b n) : Lt p (a * b) (m + n + 1) := Lt.mul (h.mono (by omega)) (k.mono (by omega))

/-! ### division -/

/-- The quotient and the rest of F by G. -/
structure QR (p : Int) (F G : Sq) (q r : List Int) : Prop where
  pq : PL p q
  pr : PL p r
  eq : Cq p F (cf q * G + cf r)
  lt : ∃ d : List Int, PL p d ∧ Cq p (cf d) G ∧ r.length < d.length

theorem QR.one {p : Int} (hp : Pr p) {F G : Sq} {q r q' r' : List Int} (h : QR p F G q r) (k : QR p F G q' r') : q = q' ∧ r = r' := by
  obtain ⟨d, hd, hdc, hdl⟩ := h.lt
  obtain ⟨d', hd', hdc', hdl'⟩ := k.lt
  have hdd : d' = d := hd'.ext hd hp.pos (hdc'.trans hdc.symm)
  subst hdd
  obtain ⟨h1, h2⟩ := divide_one (m := max q.length q'.length) (n := d'.length - 1) hp.1 (q := cf q) (q' := cf q') (r := cf r) (r' := cf r') (g := G)
    ((cf_lt_ p q).mono (by omega)) ((cf_lt_ p q').mono (by omega)) ((cf_lt_ p r).mono (by omega)) ((cf_lt_ p r').mono (by omega))
    (fun hc => hd.last hp.pos (by omega) ((hdc _).trans hc)) (((cf_lt_ p d').cq hdc.symm).mono (by omega)) (h.eq.symm.trans k.eq)
  exact ⟨h.pq.ext k.pq hp.pos h1, h.pr.ext k.pr hp.pos h2⟩
theorem QR.cq {p : Int} {F G F' G' : Sq} {q r : List Int} (h : QR p F G q r) (hF : Cq p F F') (hG : Cq p G G') : QR p F' G' q r :=
  ⟨h.pq, h.pr, hF.symm.trans (h.eq.trans (((Cq.refl p _).mul hG).add (.refl _ _))), by obtain ⟨d, h1, h2, h3⟩ := h.lt; exact ⟨d, h1, h2.trans hG, h3⟩⟩

/-- How long they are at most. -/
theorem QR.len {p : Int} (hp : Pr p) {F G : Sq} {q r : List Int} (h : QR p F G q r) {n m : Nat} (hF : Lt p F n) (hG : Lt p G m) : q.length ≤ max n m ∧ r.length ≤ m := by
  obtain ⟨d, hd, hdc, hdl⟩ := h.lt
  have hdm : d.length ≤ m := hd.le_of hp.pos hdc hG
  refine ⟨Nat.le_of_not_lt fun hlt => ?_, by omega⟩
  have ht := (top (p := p) (a := cf q) (b := G) (m := q.length - 1) (e := d.length - 1) (fun i hi => cf_lt_ p q i (by omega)) (fun j hj => (hdc j).symm.trans (cf_lt_ p d j (by omega)))).1
  have h0 := h.eq (q.length - 1 + (d.length - 1))
  rw [Sq.add_at, cf_big (l := r) (by omega), Int.add_zero] at h0
  rcases hp.1.cg_mul (ht.symm.trans (h0.symm.trans (hF _ (by omega)))) with hc | hc
  · exact h.pq.last hp.pos (by omega) hc
  · exact hd.last hp.pos (by omega) ((hdc _).trans hc)

theorem prog_dz {p : Int} (hp : Pr p) (f g : List Int) (hg : g.length ≤ 1073741824) (hz : Cq p (cf g) 0) : Ev (fun k => modular_DivMod.f k f g p) ([], [], 30) := by
  unfold modular_DivMod.f
  obtain ⟨G, h1, h2, h3⟩ := plain_is hp g hg
  refine Ev.bind (progIs p) (ev_pos (isB_true hp) (Ev.bind h1 (ev_pos ?_ (Ev.now _))))
  have := (h2.len_iff hp.pos).2 (h3.trans hz); omega
theorem prog_dm {p : Int} (hp : Pr p) (f g : List Int) (hf : f.length ≤ 1073741824) (hg : g.length ≤ 1073741824) (hz : ¬ Cq p (cf g) 0) : ∃ q r, Ev (fun k => modular_DivMod.f k f g p) (q, r, 0) ∧ QR p (cf f) (cf g) q r := by
  obtain ⟨G, h1, h2, h3, h4⟩ := (plain_is hp g hg).len hp.pos (cf_lt_ p g)
  have h0 : G.length ≠ 0 := fun h => hz (h3.symm.trans ((h2.len_iff hp.pos).1 h))
  obtain ⟨q, r, k1, k2, k3, k4, k5⟩ := divide_dv hp f G hf (by omega) h2 (by omega)
  refine ⟨q, r, ?_, k2, k3, k4.trans (((Cq.refl p _).mul h3).add (.refl _ _)), G, h2, h3, k5⟩
  unfold modular_DivMod.f
  exact Ev.bind (progIs p) (ev_pos (isB_true hp) (Ev.bind h1 (ev_neg (by omega) (Ev.bind k1 (Ev.now _)))))
theorem prog_dn {p : Int} (hp : ¬ Pr p) (f g : List Int) : Ev (fun k => modular_DivMod.f k f g p) ([], [], 50) := by
  unfold modular_DivMod.f
  exact Ev.bind (progIs p) (ev_neg (by rw [isB_false hp]; decide) (Ev.now _))

theorem progMul_is {p : Int} (hp : Pr p) (f g : List Int) (hf : f.length ≤ 536870912) (hg : g.length ≤ 536870912) : Is (fun k => modular_Mul.f k f g p) p (cf f * cf g) := by
  unfold modular_Mul.f
  refine Is.evb (progIs p) (Is.pos (isB_true hp) ?_)
  refine Is.bind_len hp.pos (cf_lt_ p f) (plain_is hp f (by omega)) fun F hF hFc hFl => Is.bind_len hp.pos (cf_lt_ p g) (plain_is hp g (by omega)) fun G hG hGc hGl => ?_
  exact Is.bind (mul_is hp F G (by omega) (by omega) hF.1 hG.1) fun r h1 h2 => Is.now h1 (h2.trans (hFc.mul hGc))

end Go.Proofs.Ytgfefcopaeelnaa.Alg
