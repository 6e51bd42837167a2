/- What the document's printed functions on lists by a prime come to; and the program's division. -/
import Derived.Test.YtgfefcopaeelnaaMul
import Derived.Test.YtgfefcopaeelnaaDiv
import Derived.Test.YtgfefcopaeelnaaMx14
import Derived.Test.YtgfefcopaeelnaaMx15
import Derived.Test.YtgfefcopaeelnaaMx16
import Derived.Test.YtgfefcopaeelnaaMx17
import Derived.Test.YtgfefcopaeelnaaMx19
import Derived.Test.YtgfefcopaeelnaaMx11
import Derived.Test.YtgfefcopaeelnaaMx22
namespace Go.Proofs.Ytgfefcopaeelnaa.Alg
open Go.RowKit Go.Proofs.YtgfefcopaeelnaaW.PrintWords Go.Proofs.YtgfefcopaeelnaaW.PrintMore Go.Proofs.Ytgfefcopaeelnaa.M Sq
set_option linter.unusedVariables false
set_option linter.unusedSimpArgs false

theorem refPlain_l1 : ∀ (k : Nat) (l : List Int) (n : Int), primroseref10_Plain.l1 k l n = modular_trim.l0 k l n := by
  intro k
  induction k with
  | zero => intro l n; rfl
  | succ k ih => intro l n; rw [primroseref10_Plain.l1, modular_trim.l0, ih]

theorem refPlain_l0 {p : Int} (hp : Pr p) (l : List Int) (hl : l.length ≤ 1073741824) : ∀ (d : Nat) (out : List Int) (i : Nat), l.length - i = d → i ≤ l.length → out.length = i → Rs p out →
    (∀ j, j < i → Cg p (cf out j) (cf l j)) → Is (fun k => primroseref10_Plain.l0 k l p out (i : Int)) p (cf l) := by
  intro d
  induction d with
  | zero =>
    intro out i hd hi ho hr hc
    refine Is.step (f := fun k => modular_trim.f k out) (fun k => ?_) (trim_is (by omega) hr fun j => ?_)
    · rw [primroseref10_Plain.l0, if_neg (by omega), refPlain_l1]; rfl
    · by_cases hj : j < i
      · exact hc j hj
      · rw [cf_big (l := out) (by omega), cf_big (l := l) (by omega)]; exact .refl _ _
  | succ d ih =>
    intro out i hd hi ho hr hc
    refine Is.step (f := fun k => primroseref10_Plain.l0 k l p (out ++ [cf l i % p]) ((i + 1 : Nat) : Int)) (fun k => ?_) (ih _ (i + 1) (by omega) (by omega) (by simp; omega) ?_ fun j hj => ?_)
    · rw [primroseref10_Plain.l0, if_pos (by omega), if_pos (by omega), rd_cf, rrest_f hp.pos hp.2, Option.bind_some, if_pos (by omega), wsucc (by omega)]
    · intro a ha
      rcases List.mem_append.1 ha with h | h
      · exact hr a h
      · rw [List.mem_singleton.1 h]; exact md hp _
    · rw [cf_snoc]
      by_cases h1 : j = out.length
      · rw [if_pos h1, h1, ho]; exact Cg.mod p _
      · rw [if_neg h1]; exact hc j (by omega)

theorem refPlain_is {p : Int} (hp : Pr p) (l : List Int) (hl : l.length ≤ 1073741824) : Is (fun k => primroseref10_Plain.f k l p) p (cf l) := by
  unfold primroseref10_Plain.f
  exact Is.evb (refIs p) (Is.pos (isB_true hp) (refPlain_l0 hp l hl _ [] 0 rfl (by omega) rfl (rs_nil p) (fun j hj => by omega)))
theorem refPlain_no {p : Int} (hp : ¬ Pr p) (l : List Int) : Ev (fun k => primroseref10_Plain.f k l p) [] := by
  unfold primroseref10_Plain.f
  exact Ev.bind (refIs p) (ev_neg (by rw [isB_false hp]; decide) (Ev.now _))

theorem Is.len {g : Nat → Option (List Int)} {p : Int} {s : Sq} (hp : 0 < p) {n : Nat} (h : Is g p s) (hl : Lt p s n) : ∃ r, Ev g r ∧ PL p r ∧ Cq p (cf r) s ∧ r.length ≤ n := by
  obtain ⟨r, h1, h2, h3⟩ := h; exact ⟨r, h1, h2, h3, h2.le_of hp h3 hl⟩
theorem Is.bind_len {g : Nat → Option (List Int)} {f : Nat → List Int → Option (List Int)} {p : Int} {s t : Sq} (hp : 0 < p) {n : Nat} (hl : Lt p s n) (h : Is g p s) (k : ∀ r, PL p r → Cq p (cf r) s → r.length ≤ n → Is (fun n => f n r) p t) : Is (fun n => (g n).bind (f n)) p t := by
  obtain ⟨r, h1, h2, h3, h4⟩ := h.len hp hl
  obtain ⟨r', k1, k2, k3⟩ := k r h2 h3 h4
  exact ⟨r', Ev.bind h1 k1, k2, k3⟩

theorem wrs {p a : Int} (hp : Pr p) (ha : 0 ≤ a ∧ a < p) : wrap64 a = a := by have := hp.2; exact w64 (by omega) (by omega)
theorem wrs2 {p a b : Int} (hp : Pr p) (ha : 0 ≤ a ∧ a < p) (hb : 0 ≤ b ∧ b < p) : wrap64 (a + b) = a + b := by have := hp.2; exact w64 (by omega) (by omega)

theorem refAdd_l0 {p : Int} (hp : Pr p) (F G : List Int) (hf : F.length ≤ 536870912) (hg : G.length ≤ 536870912) (hF : Rs p F) (hG : Rs p G) : ∀ (d : Nat) (out : List Int) (i : Nat), max F.length G.length - i = d → i ≤ max F.length G.length → out.length = i →
    (∀ j, j < i → cf out j = cf F j + cf G j) → Is (fun k => primroseref10_Add.l0 k F G p out (i : Int)) p (cf F + cf G) := by
  intro d
  induction d with
  | zero =>
    intro out i hd hi ho hc
    have he : cf out = cf F + cf G := by
      ext j
      rw [Sq.add_at]
      by_cases hj : j < i
      · exact hc j hj
      · rw [cf_big (l := out) (by omega), cf_big (l := F) (by omega), cf_big (l := G) (by omega)]; rfl
    refine Is.step (f := fun k => primroseref10_Add.j1 k F G p out (i : Int) false) (fun k => ?_) (Is.step (f := fun k => (primroseref10_Plain.f k out p).bind fun t => some t) (fun k => ?_) (Is.bind ((refPlain_is hp out (by omega)).cq (.of_eq he)) (fun r h1 h2 => Is.now h1 h2)))
    · rw [primroseref10_Add.l0, if_neg (by omega), decide_eq_false (by omega)]
    · rw [primroseref10_Add.j1, if_neg (by decide)]
  | succ d ih =>
    intro out i hd hi ho hc
    have hfi := hF.at hp.pos i; have hgi := hG.at hp.pos i
    have key := ih (out ++ [cf F i + cf G i]) (i + 1) (by omega) (by omega) (by simp; omega) fun j hj => by
      rw [cf_snoc]
      by_cases h1 : j = out.length
      · rw [if_pos h1, h1, ho]
      · rw [if_neg h1]; exact hc j (by omega)
    refine Is.step (f := fun k => primroseref10_Add.j1 k F G p out (i : Int) true) (fun k => ?_) (Is.step (f := fun k => primroseref10_Add.l0 k F G p (out ++ [cf F i + cf G i]) ((i + 1 : Nat) : Int)) (fun k => ?_) key)
    · rw [primroseref10_Add.l0]
      by_cases h : i < F.length
      · rw [if_pos (by omega)]
      · rw [if_neg (by omega), decide_eq_true (by omega)]
    · rw [primroseref10_Add.j1, if_pos rfl]
      by_cases h : i < F.length
      · rw [if_pos (by omega), if_pos (by omega)]
        by_cases h2 : i < G.length
        · rw [if_pos (by omega), if_pos (by omega), rd_cf, rd_cf, wrs hp hfi, wrs2 hp hfi hgi, wsucc (by omega)]
        · rw [if_neg (by omega), if_pos (by omega), rd_cf, wrs hp hfi, cf_big (l := G) (by omega), Int.add_zero, wsucc (by omega)]
      · rw [if_neg (by omega), if_pos (by omega), if_pos (by omega), if_pos (by omega), rd_cf, wrs hp hgi, cf_big (l := F) (by omega), Int.zero_add, wsucc (by omega)]

theorem refAdd_is {p : Int} (hp : Pr p) (f g : List Int) (hf : f.length ≤ 536870912) (hg : g.length ≤ 536870912) : Is (fun k => primroseref10_Add.f k f g p) p (cf f + cf g) := by
  unfold primroseref10_Add.f
  refine Is.bind_len hp.pos (cf_lt_ p f) (refPlain_is hp f (by omega)) fun F hF hFc hFl => Is.bind_len hp.pos (cf_lt_ p g) (refPlain_is hp g (by omega)) fun G hG hGc hGl => ?_
  exact (refAdd_l0 hp F G (by omega) (by omega) hF.1 hG.1 _ [] 0 rfl (by omega) rfl (fun j hj => by omega)).cq (hFc.add hGc)

theorem refScale_l0 {p : Int} (hp : Pr p) (F : List Int) (c : Int) (hf : F.length ≤ 1073741824) (hF : Rs p F) : ∀ (d : Nat) (out : List Int) (i : Nat), F.length - i = d → i ≤ F.length → out.length = i →
    (∀ j, j < i → cf out j = cf F j * (c % p)) → Is (fun k => primroseref10_Scale.l0 k F c p out (i : Int)) p (sm c (cf F)) := by
  intro d
  induction d with
  | zero =>
    intro out i hd hi ho hc
    have he : Cq p (cf out) (sm c (cf F)) := fun j => by
      rw [sm_at]
      by_cases hj : j < i
      · rw [hc j hj, Int.mul_comm]; exact (Cg.mod p c).mul (.refl _ _)
      · rw [cf_big (l := out) (by omega), cf_big (l := F) (by omega)]; exact .of_eq (by omega)
    refine Is.step (f := fun k => (primroseref10_Plain.f k out p).bind fun t => some t) (fun k => ?_) (Is.bind ((refPlain_is hp out (by omega)).cq he) (fun r h1 h2 => Is.now h1 h2))
    rw [primroseref10_Scale.l0, if_neg (by omega)]
  | succ d ih =>
    intro out i hd hi ho hc
    refine Is.step (f := fun k => primroseref10_Scale.l0 k F c p (out ++ [cf F i * (c % p)]) ((i + 1 : Nat) : Int)) (fun k => ?_) (ih _ (i + 1) (by omega) (by omega) (by simp; omega) fun j hj => ?_)
    · rw [primroseref10_Scale.l0, if_pos (by omega), if_pos (by omega), rrest_f hp.pos hp.2, Option.bind_some, if_pos (by omega), rd_cf, wmul hp (hF.at hp.pos i) (md hp c), wsucc (by omega)]
    · rw [cf_snoc]
      by_cases h1 : j = out.length
      · rw [if_pos h1, h1, ho]
      · rw [if_neg h1]; exact hc j (by omega)

theorem refScale_is {p : Int} (hp : Pr p) (f : List Int) (c : Int) (hf : f.length ≤ 1073741824) : Is (fun k => primroseref10_Scale.f k f c p) p (sm c (cf f)) := by
  unfold primroseref10_Scale.f
  refine Is.bind_len hp.pos (cf_lt_ p f) (refPlain_is hp f hf) fun F hF hFc hFl => ?_
  exact (refScale_l0 hp F c (by omega) hF.1 _ [] 0 rfl (by omega) rfl (fun j hj => by omega)).cq (Cq.sm (.refl _ _) hFc)

theorem up_l0 (l : List Int) (hl : l.length ≤ 1073741824) : ∀ (n : Nat) (out : List Int), out.length + n ≤ 1073741824 → Ev (fun k => primroseref10_up.l0 k l (n : Int) out) (out ++ (List.replicate n 0 ++ l)) := by
  intro n
  induction n with
  | zero =>
    intro out hb
    refine Ev.step (f := fun _ => some (out ++ l)) (fun k => ?_) (Ev.now _)
    rw [primroseref10_up.l0, if_neg (by omega), if_pos (by omega)]
  | succ n ih =>
    intro out hb
    have h := ih (out ++ [0]) (by simp; omega)
    refine Ev.step (f := fun k => primroseref10_up.l0 k l (n : Int) (out ++ [0])) (fun k => ?_) (ev_eq h ?_)
    · rw [primroseref10_up.l0, if_pos (by omega), if_pos (by omega), wpred (n := n + 1) (by omega) (by omega)]; rfl
    · rw [List.append_assoc, List.replicate_succ]; rfl
theorem up_f (l : List Int) (n : Nat) (hl : l.length ≤ 1073741824) (hn : n ≤ 1073741824) : Ev (fun k => primroseref10_up.f k l (n : Int)) (List.replicate n 0 ++ l) := by
  have := up_l0 l hl n [] (by simpa using hn)
  unfold primroseref10_up.f; exact this
theorem cf_up (l : List Int) (n : Nat) : cf (List.replicate n 0 ++ l) = xn n (cf l) := by
  ext j
  rw [cf_append, xn_at, List.length_replicate]
  split
  · exact congrFun (cf_replicate n) j
  · rfl

theorem Sq.Lt.mul' {p : Int} {a b : Sq} {m n : Nat} (h : Lt p a m) (k : Lt p b n) : Lt p (a * b) (m + n + 1) := Lt.mul (h.mono (by omega)) (k.mono (by omega))

theorem refMul_l0 {p : Int} (hp : Pr p) (f G : List Int) (hf : f.length ≤ 134217728) (hg : G.length ≤ 134217728) : ∀ (d : Nat) (out : List Int) (i : Nat), G.length - i = d → i ≤ G.length → PL p out → Cq p (cf out) (cf f * cf (G.take i)) →
    Is (fun k => primroseref10_Mul.l0 k f G p out (i : Int)) p (cf f * cf G) := by
  intro d
  induction d with
  | zero =>
    intro out i hd hi ho hc
    rw [show i = G.length by omega, cf_take_all] at hc
    refine Is.step (f := fun _ => some out) (fun k => ?_) (Is.now ho hc)
    rw [primroseref10_Mul.l0, if_neg (by omega)]
  | succ d ih =>
    intro out i hd hi ho hc
    have hol : out.length ≤ f.length + G.length + 1 := ho.le_of hp.pos hc ((cf_lt_ p f).mul' ((cf_lt_ p (G.take i)).mono (by rw [List.length_take]; omega)))
    refine Is.step (f := fun k => (primroseref10_Scale.f k f (cf G i) p).bind fun t365 => ((primroseref10_up.f k t365 (i : Int)).bind fun t368 => ((primroseref10_Add.f k out t368 p).bind fun t371 => (primroseref10_Mul.l0 k f G p t371 ((i + 1 : Nat) : Int))))) (fun k => ?_) ?_
    · rw [primroseref10_Mul.l0, if_pos (by omega), if_pos (by omega), rd_cf, wsucc (by omega)]
    · refine Is.bind_len (n := f.length) hp.pos ?_ (refScale_is hp f (cf G i) (by omega)) fun t ht htc htl => Is.evb (up_f t i (by omega) (by omega)) (Is.bind (refAdd_is hp out (List.replicate i 0 ++ t) (by omega) (by simp; omega)) fun u hu huc => ?_)
      · intro j hj; rw [sm_at, cf_big (l := f) hj]; exact .of_eq (by omega)
      · refine ih u (i + 1) (by omega) (by omega) hu (huc.trans ?_)
        rw [cf_up, cf_take_succ, mul_add]
        refine hc.add ((xn_cq i htc).trans (.of_eq ?_))
        rw [mul_comm (cf f), xn_mul, sm_mul, one_mul]

theorem refMul_is {p : Int} (hp : Pr p) (f g : List Int) (hf : f.length ≤ 134217728) (hg : g.length ≤ 134217728) : Is (fun k => primroseref10_Mul.f k f g p) p (cf f * cf g) := by
  unfold primroseref10_Mul.f
  refine Is.bind_len hp.pos (cf_lt_ p g) (refPlain_is hp g (by omega)) fun G hG hGc hGl => ?_
  exact (refMul_l0 hp f G (by omega) (by omega) _ [] 0 rfl (by omega) (.nil p) (by rw [List.take_zero, cf_nil, mul_zero]; exact .refl _ _)).cq ((Cq.refl p _).mul hGc)

theorem refSub_is {p : Int} (hp : Pr p) (f g : List Int) (hf : f.length ≤ 536870912) (hg : g.length ≤ 536870912) : Is (fun k => primroseref10_Sub.f k f g p) p (cf f - cf g) := by
  unfold primroseref10_Sub.f
  refine Is.bind_len (n := g.length) hp.pos ?_ (refScale_is hp g (-1) (by omega)) fun t ht htc htl => Is.bind (refAdd_is hp f t (by omega) (by omega)) fun u hu huc => Is.now hu (huc.trans ?_)
  · intro j hj; rw [sm_at, cf_big (l := g) hj]; exact .of_eq (by omega)
  · refine ((Cq.refl p _).add htc).trans (.of_eq ?_)
    ext j; rw [Sq.add_at, Sq.sub_at, sm_at]; omega

/-! ### division -/

/-- The quotient and the rest of F by G. -/
structure QR (p : Int) (F G : Sq) (q r : List Int) : Prop where
  pq : PL p q
  pr : PL p r
  eq : Cq p F (cf q * G + cf r)
  lt : ∃ d : List Int, PL p d ∧ Cq p (cf d) G ∧ r.length < d.length

theorem QR.one {p : Int} (hp : Pr p) {F G : Sq} {q r q' r' : List Int} (h : QR p F G q r) (k : QR p F G q' r') : q = q' ∧ r = r' := by
  obtain ⟨d, hd, hdc, hdl⟩ := h.lt
  obtain ⟨d', hd', hdc', hdl'⟩ := k.lt
  have hdd : d' = d := hd'.ext hd hp.pos (hdc'.trans hdc.symm)
  subst hdd
  obtain ⟨h1, h2⟩ := divide_one (m := max q.length q'.length) (n := d'.length - 1) hp.1 (q := cf q) (q' := cf q') (r := cf r) (r' := cf r') (g := G)
    ((cf_lt_ p q).mono (by omega)) ((cf_lt_ p q').mono (by omega)) ((cf_lt_ p r).mono (by omega)) ((cf_lt_ p r').mono (by omega))
    (fun hc => hd.last hp.pos (by omega) ((hdc _).trans hc)) (((cf_lt_ p d').cq hdc.symm).mono (by omega)) (h.eq.symm.trans k.eq)
  exact ⟨h.pq.ext k.pq hp.pos h1, h.pr.ext k.pr hp.pos h2⟩
theorem QR.cq {p : Int} {F G F' G' : Sq} {q r : List Int} (h : QR p F G q r) (hF : Cq p F F') (hG : Cq p G G') : QR p F' G' q r :=
  ⟨h.pq, h.pr, hF.symm.trans (h.eq.trans (((Cq.refl p _).mul hG).add (.refl _ _))), by obtain ⟨d, h1, h2, h3⟩ := h.lt; exact ⟨d, h1, h2.trans hG, h3⟩⟩

/-- How long they are at most. -/
theorem QR.len {p : Int} (hp : Pr p) {F G : Sq} {q r : List Int} (h : QR p F G q r) {n m : Nat} (hF : Lt p F n) (hG : Lt p G m) : q.length ≤ max n m ∧ r.length ≤ m := by
  obtain ⟨d, hd, hdc, hdl⟩ := h.lt
  have hdm : d.length ≤ m := hd.le_of hp.pos hdc hG
  refine ⟨Nat.le_of_not_lt fun hlt => ?_, by omega⟩
  have ht := (top (p := p) (a := cf q) (b := G) (m := q.length - 1) (e := d.length - 1) (fun i hi => cf_lt_ p q i (by omega)) (fun j hj => (hdc j).symm.trans (cf_lt_ p d j (by omega)))).1
  have h0 := h.eq (q.length - 1 + (d.length - 1))
  rw [Sq.add_at, cf_big (l := r) (by omega), Int.add_zero] at h0
  rcases hp.1.cg_mul (ht.symm.trans (h0.symm.trans (hF _ (by omega)))) with hc | hc
  · exact h.pq.last hp.pos (by omega) hc
  · exact hd.last hp.pos (by omega) ((hdc _).trans hc)

theorem prog_dz {p : Int} (hp : Pr p) (f g : List Int) (hg : g.length ≤ 1073741824) (hz : Cq p (cf g) 0) : Ev (fun k => modular_DivMod.f k f g p) ([], [], 30) := by
  unfold modular_DivMod.f
  obtain ⟨G, h1, h2, h3⟩ := plain_is hp g hg
  refine Ev.bind (progIs p) (ev_pos (isB_true hp) (Ev.bind h1 (ev_pos ?_ (Ev.now _))))
  have := (h2.len_iff hp.pos).2 (h3.trans hz); omega
theorem prog_dm {p : Int} (hp : Pr p) (f g : List Int) (hf : f.length ≤ 1073741824) (hg : g.length ≤ 1073741824) (hz : ¬ Cq p (cf g) 0) : ∃ q r, Ev (fun k => modular_DivMod.f k f g p) (q, r, 0) ∧ QR p (cf f) (cf g) q r := by
  obtain ⟨G, h1, h2, h3, h4⟩ := (plain_is hp g hg).len hp.pos (cf_lt_ p g)
  have h0 : G.length ≠ 0 := fun h => hz (h3.symm.trans ((h2.len_iff hp.pos).1 h))
  obtain ⟨q, r, k1, k2, k3, k4, k5⟩ := divide_dv hp f G hf (by omega) h2 (by omega)
  refine ⟨q, r, ?_, k2, k3, k4.trans (((Cq.refl p _).mul h3).add (.refl _ _)), G, h2, h3, k5⟩
  unfold modular_DivMod.f
  exact Ev.bind (progIs p) (ev_pos (isB_true hp) (Ev.bind h1 (ev_neg (by omega) (Ev.bind k1 (Ev.now _)))))
theorem prog_dn {p : Int} (hp : ¬ Pr p) (f g : List Int) : Ev (fun k => modular_DivMod.f k f g p) ([], [], 50) := by
  unfold modular_DivMod.f
  exact Ev.bind (progIs p) (ev_neg (by rw [isB_false hp]; decide) (Ev.now _))

theorem refDivMod_l0 {p : Int} (hp : Pr p) (F : Sq) (G : List Int) (hG : PL p G) (hG0 : 0 < G.length) (inv : Int) (hi0 : 0 ≤ inv ∧ inv < p) (hinv : Cg p (cf G (G.length - 1) * inv) 1) (L : Nat) (hL : L ≤ 134217728) (hGl : G.length ≤ 134217728) :
    ∀ (m : Nat) (f q : List Int), f.length ≤ m → f.length ≤ L → PL p f → PL p q → q.length ≤ L + 1 → Cq p F (cf q * cf G + cf f) →
    ∃ q' r', Ev (fun k => primroseref10_DivMod.l0 k f G p inv q) (q', r', 0) ∧ QR p F (cf G) q' r' := by
  intro m
  induction m with
  | zero =>
    intro f q hm hfL hf hq hqL hc
    refine ⟨q, f, Ev.step (f := fun _ => some (q, f, 0)) (fun k => ?_) (Ev.now _), hq, hf, hc, G, hG, .refl _ _, by omega⟩
    rw [primroseref10_DivMod.l0, if_neg (by omega)]
  | succ m ih =>
    intro f q hm hfL hf hq hqL hc
    by_cases hge : G.length ≤ f.length
    · have hft := hf.at hp.pos (f.length - 1)
      have hpp := hp.pos
      have hcf1 : cf ([] ++ [cf f (f.length - 1) * inv]) = sm (cf f (f.length - 1) * inv) 1 := by
        ext j; rw [cf_snoc, sm_at, one_at]; simp only [List.length_nil]; split
        · omega
        · rw [congrFun cf_nil j]; simp
      obtain ⟨t, t1, t2, t3, t4⟩ := ((refPlain_is hp (List.replicate (f.length - G.length) 0 ++ ([] ++ [cf f (f.length - 1) * inv])) (by simp; omega)).cq (.of_eq (cf_up _ _))).len (n := f.length - G.length + 1) hp.pos (fun j hj => by
        rw [xn_at, if_neg (by omega), hcf1, sm_at, one_at, if_neg (by omega)]; exact .of_eq (by omega))
      rw [hcf1] at t3
      obtain ⟨q1, a1, a2, a3, a4⟩ := (refAdd_is hp q t (by omega) (by omega)).len (n := L + 1) hp.pos (((cf_lt_ p q).mono (by omega)).add ((cf_lt_ p t).mono (by omega)))
      obtain ⟨u, b1, b2, b3, b4⟩ := (refMul_is hp G t (by omega) (by omega)).len (n := G.length + t.length + 1) hp.pos ((cf_lt_ p G).mul' (cf_lt_ p t))
      have hsub : Cq p (cf f - cf u) (cf f - xn (f.length - G.length) (sm (cf f (f.length - 1) * inv) (cf G))) := (Cq.refl p _).sub (b3.trans (((Cq.refl p (cf G)).mul t3).trans (.of_eq (by rw [mul_comm, xn_mul, sm_mul, one_mul]))))
      obtain ⟨f1, c1, c2, c3, c4⟩ := (refSub_is hp f u (by omega) (by omega)).len (n := f.length - 1) hp.pos (by
        refine Lt.cq (fun j hj => ?_) hsub
        rw [Sq.sub_at, xn_at, if_neg (by omega), sm_at]
        by_cases hj1 : j = f.length - 1
        · subst hj1
          rw [show f.length - 1 - (f.length - G.length) = G.length - 1 by omega]
          refine ((Cg.refl p _).sub ((Cg.of_eq ?_).trans ((Cg.refl p (cf f (f.length - 1))).mul hinv))).trans (.of_eq (by omega))
          grind
        · rw [cf_big (l := f) (by omega), cf_big (l := G) (by omega)]; exact .of_eq (by omega))
      obtain ⟨q', r', d1, d2⟩ := ih f1 q1 (by omega) (by omega) c2 a2 (by omega) (by
        refine hc.trans (Cq.trans ?_ ((a3.symm.mul_right (cf G)).add c3.symm))
        rw [add_mul]
        refine (Cq.of_eq ?_).trans (((Cq.refl p _).add ((Cq.of_eq (mul_comm _ _)).trans b3.symm |>.symm |>.symm)).add (.refl p (cf f - cf u)) |>.symm)
        · ext j; simp only [Sq.add_at, Sq.sub_at]; omega)
      refine ⟨q', r', Ev.step (f := fun k => (primroseref10_up.f k ([] ++ [cf f (f.length - 1) * inv]) ((f.length - G.length : Nat) : Int)).bind fun t402 => ((primroseref10_Plain.f k t402 p).bind fun t405 => ((primroseref10_Add.f k q t405 p).bind fun t408 => ((primroseref10_Mul.f k G t405 p).bind fun t411 => ((primroseref10_Sub.f k f t411 p).bind fun t414 => (primroseref10_DivMod.l0 k t414 G p inv t408)))))) (fun k => ?_)
        (Ev.bind (up_f _ _ (by simp) (by omega)) (Ev.bind t1 (Ev.bind a1 (Ev.bind b1 (Ev.bind c1 d1))))), d2⟩
      rw [primroseref10_DivMod.l0, if_pos (by omega), wpred (by omega) (by omega), if_pos (by omega), if_pos (by omega), if_pos (by simp), rd_cf, wmul hp hft hi0, wn (n := f.length - G.length) (by omega) (by omega)]
    · refine ⟨q, f, Ev.step (f := fun _ => some (q, f, 0)) (fun k => ?_) (Ev.now _), hq, hf, hc, G, hG, .refl _ _, by omega⟩
      rw [primroseref10_DivMod.l0, if_neg (by omega)]

theorem ref_dz {p : Int} (hp : Pr p) (f g : List Int) (hf : f.length ≤ 1073741824) (hg : g.length ≤ 1073741824) (hz : Cq p (cf g) 0) : Ev (fun k => primroseref10_DivMod.f k f g p) ([], [], 30) := by
  unfold primroseref10_DivMod.f
  obtain ⟨F, a1, a2, a3⟩ := refPlain_is hp f hf
  obtain ⟨G, h1, h2, h3⟩ := refPlain_is hp g hg
  refine Ev.bind (refIs p) (ev_pos (isB_true hp) (Ev.bind a1 (Ev.bind h1 (ev_pos ?_ (Ev.now _)))))
  have := (h2.len_iff hp.pos).2 (h3.trans hz); omega
theorem ref_dm {p : Int} (hp : Pr p) (f g : List Int) (hf : f.length ≤ 134217728) (hg : g.length ≤ 134217728) (hz : ¬ Cq p (cf g) 0) : ∃ q r, Ev (fun k => primroseref10_DivMod.f k f g p) (q, r, 0) ∧ QR p (cf f) (cf g) q r := by
  obtain ⟨F, a1, a2, a3, a4⟩ := (refPlain_is hp f (by omega)).len hp.pos (cf_lt_ p f)
  obtain ⟨G, h1, h2, h3, h4⟩ := (refPlain_is hp g (by omega)).len hp.pos (cf_lt_ p g)
  have h0 : G.length ≠ 0 := fun h => hz (h3.symm.trans ((h2.len_iff hp.pos).1 h))
  obtain ⟨inv, b1, b2, b3⟩ := refInv hp (h2.last hp.pos (by omega))
  obtain ⟨q, r, k1, k2⟩ := refDivMod_l0 hp (cf f) G h2 (by omega) inv b2 b3 F.length (by omega) (by omega) F.length F [] (by omega) (by omega) a2 (.nil p) (by simp) (by rw [cf_nil, zero_mul, zero_add]; exact a3.symm)
  refine ⟨q, r, ?_, k2.cq (.refl _ _) h3⟩
  unfold primroseref10_DivMod.f
  refine Ev.bind (refIs p) (ev_pos (isB_true hp) (Ev.bind a1 (Ev.bind h1 (ev_neg (by omega) ?_))))
  rw [wpred (by omega) (by omega)]
  refine ev_pos (by omega) (ev_pos (by omega) ?_)
  rw [rd_cf]
  exact Ev.bind b1 k1
theorem ref_dn {p : Int} (hp : ¬ Pr p) (f g : List Int) : Ev (fun k => primroseref10_DivMod.f k f g p) ([], [], 50) := by
  unfold primroseref10_DivMod.f
  exact Ev.bind (refIs p) (ev_neg (by rw [isB_false hp]; decide) (Ev.now _))

theorem refRest {p : Int} (hp : Pr p) (f g : List Int) (hf : f.length ≤ 134217728) (hg : g.length ≤ 134217728) (hz : ¬ Cq p (cf g) 0) : ∃ q r, Ev (fun k => primroseref10_Rest.f k f g p) r ∧ QR p (cf f) (cf g) q r := by
  obtain ⟨q, r, h1, h2⟩ := ref_dm hp f g hf hg hz
  exact ⟨q, r, Ev.bind h1 (Ev.now _), h2⟩

theorem progMul_is {p : Int} (hp : Pr p) (f g : List Int) (hf : f.length ≤ 536870912) (hg : g.length ≤ 536870912) : Is (fun k => modular_Mul.f k f g p) p (cf f * cf g) := by
  unfold modular_Mul.f
  refine Is.evb (progIs p) (Is.pos (isB_true hp) ?_)
  refine Is.bind_len hp.pos (cf_lt_ p f) (plain_is hp f (by omega)) fun F hF hFc hFl => Is.bind_len hp.pos (cf_lt_ p g) (plain_is hp g (by omega)) fun G hG hGc hGl => ?_
  exact Is.bind (mul_is hp F G (by omega) (by omega) hF.1 hG.1) fun r h1 h2 => Is.now h1 (h2.trans (hFc.mul hGc))

end Go.Proofs.Ytgfefcopaeelnaa.Alg
