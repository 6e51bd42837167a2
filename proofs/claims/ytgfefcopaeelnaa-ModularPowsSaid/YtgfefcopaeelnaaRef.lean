/- What the document's printed functions on lists by a prime come to; and the program's division. -/
import Derived.Test.YtgfefcopaeelnaaOver
import Derived.Test.YtgfefcopaeelnaaFrob
import Derived.Test.YtgfefcopaeelnaaMx18
import Derived.Test.YtgfefcopaeelnaaMx14
import Derived.Test.YtgfefcopaeelnaaMx15
import Derived.Test.YtgfefcopaeelnaaMx16
import Derived.Test.YtgfefcopaeelnaaMx17
import Derived.Test.YtgfefcopaeelnaaMx19
namespace Go.Proofs.Ytgfefcopaeelnaa.Alg
open Go.RowKit Go.Proofs.YtgfefcopaeelnaaW.PrintWords Go.Proofs.YtgfefcopaeelnaaW.PrintMore Go.Proofs.Ytgfefcopaeelnaa.M Sq
set_option linter.unusedVariables false
set_option linter.unusedSimpArgs false

theorem refPow_l0 {p : Int} (hp : Pr p) : ∀ (m : Nat) (n out x : Int), 0 ≤ n → n ≤ m → n ≤ 9223372036854775807 → (0 ≤ out ∧ out < p) → (0 ≤ x ∧ x < p) →
    ∃ v, Ev (fun k => primroseref05_Pow.l0 k n p out x) v ∧ (0 ≤ v ∧ v < p) ∧ Cg p v (out * x ^ n.toNat) := by
  intro m
  induction m with
  | zero =>
    intro n out x hn hm hb ho hx
    have : n = 0 := by omega
    subst this
    refine ⟨out, Ev.step (f := fun _ => some out) (fun k => ?_) (Ev.now _), ho, .of_eq (by simp)⟩
    rw [primroseref05_Pow.l0, if_neg (by omega)]
  | succ m ih =>
    intro n out x hn hm hb ho hx
    by_cases h0 : n = 0
    · exact ih n out x hn (by omega) hb ho hx
    · have ed : wrap64 (n.tdiv 2) = n / 2 := by rw [Int.tdiv_eq_ediv_of_nonneg hn]; exact w64 (by omega) (by omega)
      have em : n.tmod 2 = n % 2 := Int.tmod_eq_emod_of_nonneg hn
      have ex : (x * x) ^ (n / 2).toNat = x ^ (2 * (n / 2).toNat) := by
        generalize (n / 2).toNat = j
        induction j with
        | zero => simp
        | succ j ihj => rw [Int.pow_succ, ihj, show 2 * (j + 1) = 2 * j + 1 + 1 by omega, Int.pow_succ, Int.pow_succ]; grind
      by_cases h1 : n % 2 = 1
      · obtain ⟨v, hv, hv0, hvc⟩ := ih (n / 2) ((out * x) % p) ((x * x) % p) (by omega) (by omega) (by omega) (md hp _) (md hp _)
        refine ⟨v, Ev.step (f := fun k => primroseref05_Pow.l0 k (n / 2) p ((out * x) % p) ((x * x) % p)) (fun k => ?_) hv, hv0, hvc.trans ?_⟩
        · rw [primroseref05_Pow.l0, if_pos (by omega), em, if_pos h1, wmul hp ho hx, rrest_f hp.pos hp.2, wmul hp hx hx, rrest_f hp.pos hp.2, ed]; rfl
        · refine ((Cg.mod p _).mul ((Cg.mod p _).pow _)).trans (.of_eq ?_)
          rw [ex, show n.toNat = 2 * (n / 2).toNat + 1 by omega, Int.pow_succ]; grind
      · obtain ⟨v, hv, hv0, hvc⟩ := ih (n / 2) out ((x * x) % p) (by omega) (by omega) (by omega) ho (md hp _)
        refine ⟨v, Ev.step (f := fun k => primroseref05_Pow.l0 k (n / 2) p out ((x * x) % p)) (fun k => ?_) hv, hv0, hvc.trans ?_⟩
        · rw [primroseref05_Pow.l0, if_pos (by omega), em, if_neg h1, wmul hp hx hx, rrest_f hp.pos hp.2, ed]; rfl
        · refine ((Cg.refl p _).mul ((Cg.mod p _).pow _)).trans (.of_eq ?_)
          rw [ex, show n.toNat = 2 * (n / 2).toNat by omega]

theorem refPow {p a n : Int} (hp : Pr p) (hn : 0 ≤ n) (hb : n ≤ 9223372036854775807) : ∃ v, Ev (fun k => primroseref05_Pow.f k a n p) v ∧ (0 ≤ v ∧ v < p) ∧ Cg p v (a ^ n.toNat) := by
  obtain ⟨v, hv, hv0, hvc⟩ := refPow_l0 hp n.toNat n (1 % p) (a % p) hn (by omega) hb (md hp _) (md hp _)
  refine ⟨v, ?_, hv0, hvc.trans (((Cg.mod p 1).mul ((Cg.mod p a).pow _)).trans (.of_eq (by omega)))⟩
  unfold primroseref05_Pow.f
  refine Ev.bind (refIs p) (ev_pos (isB_true hp) ?_)
  refine Ev.step (f := fun k => primroseref05_Pow.l0 k n p (1 % p) (a % p)) (fun k => ?_) hv
  rw [primroseref05_Pow.j0, if_neg (by simpa using hn), rrest_f hp.pos hp.2, rrest_f hp.pos hp.2]; rfl

/-- The document's inverse. -/
theorem refInv {p a : Int} (hp : Pr p) (ha : ¬ Cg p a 0) : ∃ v, Ev (fun k => primroseref05_Inv.f k a p) v ∧ (0 ≤ v ∧ v < p) ∧ Cg p (a * v) 1 := by
  have hne : a % p ≠ 0 := fun h => ha ((Cg.mod p a).symm.trans (.of_eq h))
  have hp2 := hp.two
  have hpb := hp.2
  obtain ⟨v, hv, hv0, hvc⟩ := refPow (a := a) (n := p - 2) hp (by omega) (by omega)
  refine ⟨v, ?_, hv0, ((Cg.refl p a).mul hvc).trans (fermat_inv hp.1 ha)⟩
  unfold primroseref05_Inv.f
  refine Ev.bind (refIs p) (ev_pos (isB_true hp) ?_)
  refine ev_some (rrest_f hp.pos hp.2) (ev_neg hne ?_)
  rw [w64 (x := p - 2) (by omega) (by omega)]
  exact Ev.bind hv (Ev.now _)

theorem refPlain_l1 : ∀ (k : Nat) (l : List Int) (n : Int), primroseref10_Plain.l1 k l n = modular_trim.l0 k l n := by
  intro k
  induction k with
  | zero => intro l n; rfl
  | succ k ih => intro l n; rw [primroseref10_Plain.l1, modular_trim.l0, ih]

theorem refPlain_l0 {p : Int} (hp : Pr p) (l : List Int) (hl : l.length ≤ 1073741824) : ∀ (d : Nat) (out : List Int) (i : Nat), l.length - i = d → i ≤ l.length → out.length = i → Rs p out →
    (∀ j, j < i → Cg p (cf out j) (cf l j)) → Is (fun k => primroseref10_Plain.l0 k l p out (i : Int)) p (cf l) := by
  intro d
  induction d with
  | zero =>
    intro out i hd hi ho hr hc
    refine Is.step (f := fun k => modular_trim.f k out) (fun k => ?_) (trim_is (by omega) hr fun j => ?_)
    · rw [primroseref10_Plain.l0, if_neg (by omega), refPlain_l1]; rfl
    · by_cases hj : j < i
      · exact hc j hj
      · rw [cf_big (l := out) (by omega), cf_big (l := l) (by omega)]; exact .refl _ _
  | succ d ih =>
    intro out i hd hi ho hr hc
    refine Is.step (f := fun k => primroseref10_Plain.l0 k l p (out ++ [cf l i % p]) ((i + 1 : Nat) : Int)) (fun k => ?_) (ih _ (i + 1) (by omega) (by omega) (by simp; omega) ?_ fun j hj => ?_)
    · rw [primroseref10_Plain.l0, if_pos (by omega), if_pos (by omega), rd_cf, rrest_f hp.pos hp.2, Option.bind_some, if_pos (by omega), wsucc (by omega)]
    · intro a ha
      rcases List.mem_append.1 ha with h | h
      · exact hr a h
      · rw [List.mem_singleton.1 h]; exact md hp _
    · rw [cf_snoc]
      by_cases h1 : j = out.length
      · rw [if_pos h1, h1, ho]; exact Cg.mod p _
      · rw [if_neg h1]; exact hc j (by omega)

theorem refPlain_is {p : Int} (hp : Pr p) (l : List Int) (hl : l.length ≤ 1073741824) : Is (fun k => primroseref10_Plain.f k l p) p (cf l) := by
  unfold primroseref10_Plain.f
  exact Is.evb (refIs p) (Is.pos (isB_true hp) (refPlain_l0 hp l hl _ [] 0 rfl (by omega) rfl (rs_nil p) (fun j hj => by omega)))
theorem refPlain_no {p : Int} (hp : ¬ Pr p) (l : List Int) : Ev (fun k => primroseref10_Plain.f k l p) [] := by
  unfold primroseref10_Plain.f
  exact Ev.bind (refIs p) (ev_neg (by rw [isB_false hp]; decide) (Ev.now _))

theorem refAdd_l0 {p : Int} (hp : Pr p) (F G : List Int) (hf : F.length ≤ 536870912) (hg : G.length ≤ 536870912) (hF : Rs p F) (hG : Rs p G) : ∀ (d : Nat) (out : List Int) (i : Nat), max F.length G.length - i = d → i ≤ max F.length G.length → out.length = i →
    (∀ j, j < i → cf out j = cf F j + cf G j) → Is (fun k => primroseref10_Add.l0 k F G p out (i : Int)) p (cf F + cf G) := by
  intro d
  induction d with
  | zero =>
    intro out i hd hi ho hc
    have he : cf out = cf F + cf G := by
      ext j
      rw [Sq.add_at]
      by_cases hj : j < i
      · exact hc j hj
      · rw [cf_big (l := out) (by omega), cf_big (l := F) (by omega), cf_big (l := G) (by omega)]; rfl
    refine Is.step (f := fun k => primroseref10_Add.j1 k F G p out (i : Int) false) (fun k => ?_) (Is.step (f := fun k => (primroseref10_Plain.f k out p).bind fun t => some t) (fun k => ?_) (Is.bind ((refPlain_is hp out (by omega)).cq (.of_eq he)) (fun r h1 h2 => Is.now h1 h2)))
    · rw [primroseref10_Add.l0, if_neg (by omega), decide_eq_false (by omega)]
    · rw [primroseref10_Add.j1, if_neg (by decide)]
  | succ d ih =>
    intro out i hd hi ho hc
    have hfi := hF.at hp.pos i; have hgi := hG.at hp.pos i
    have key := ih (out ++ [cf F i + cf G i]) (i + 1) (by omega) (by omega) (by simp; omega) fun j hj => by
      rw [cf_snoc]
      by_cases h1 : j = out.length
      · rw [if_pos h1, h1, ho]
      · rw [if_neg h1]; exact hc j (by omega)
    refine Is.step (f := fun k => primroseref10_Add.j1 k F G p out (i : Int) true) (fun k => ?_) (Is.step (f := fun k => primroseref10_Add.l0 k F G p (out ++ [cf F i + cf G i]) ((i + 1 : Nat) : Int)) (fun k => ?_) key)
    · rw [primroseref10_Add.l0]
      by_cases h : i < F.length
      · rw [if_pos (by omega)]
      · rw [if_neg (by omega), decide_eq_true (by omega)]
    · rw [primroseref10_Add.j1, if_pos rfl]
      by_cases h : i < F.length
      · rw [if_pos (by omega), if_pos (by omega)]
        by_cases h2 : i < G.length
        · rw [if_pos (by omega), if_pos (by omega), rd_cf, rd_cf, wrs hp hfi, wrs2 hp hfi hgi, wsucc (by omega)]
        · rw [if_neg (by omega), if_pos (by omega), rd_cf, wrs hp hfi, cf_big (l := G) (by omega), Int.add_zero, wsucc (by omega)]
      · rw [if_neg (by omega), if_pos (by omega), if_pos (by omega), if_pos (by omega), rd_cf, wrs hp hgi, cf_big (l := F) (by omega), Int.zero_add, wsucc (by omega)]

theorem refAdd_is {p : Int} (hp : Pr p) (f g : List Int) (hf : f.length ≤ 536870912) (hg : g.length ≤ 536870912) : Is (fun k => primroseref10_Add.f k f g p) p (cf f + cf g) := by
  unfold primroseref10_Add.f
  refine Is.bind_len hp.pos (cf_lt_ p f) (refPlain_is hp f (by omega)) fun F hF hFc hFl => Is.bind_len hp.pos (cf_lt_ p g) (refPlain_is hp g (by omega)) fun G hG hGc hGl => ?_
  exact (refAdd_l0 hp F G (by omega) (by omega) hF.1 hG.1 _ [] 0 rfl (by omega) rfl (fun j hj => by omega)).cq (hFc.add hGc)

theorem refScale_l0 {p : Int} (hp : Pr p) (F : List Int) (c : Int) (hf : F.length ≤ 1073741824) (hF : Rs p F) : ∀ (d : Nat) (out : List Int) (i : Nat), F.length - i = d → i ≤ F.length → out.length = i →
    (∀ j, j < i → cf out j = cf F j * (c % p)) → Is (fun k => primroseref10_Scale.l0 k F c p out (i : Int)) p (sm c (cf F)) := by
  intro d
  induction d with
  | zero =>
    intro out i hd hi ho hc
    have he : Cq p (cf out) (sm c (cf F)) := fun j => by
      rw [sm_at]
      by_cases hj : j < i
      · rw [hc j hj, Int.mul_comm]; exact (Cg.mod p c).mul (.refl _ _)
      · rw [cf_big (l := out) (by omega), cf_big (l := F) (by omega)]; exact .of_eq (by omega)
    refine Is.step (f := fun k => (primroseref10_Plain.f k out p).bind fun t => some t) (fun k => ?_) (Is.bind ((refPlain_is hp out (by omega)).cq he) (fun r h1 h2 => Is.now h1 h2))
    rw [primroseref10_Scale.l0, if_neg (by omega)]
  | succ d ih =>
    intro out i hd hi ho hc
    refine Is.step (f := fun k => primroseref10_Scale.l0 k F c p (out ++ [cf F i * (c % p)]) ((i + 1 : Nat) : Int)) (fun k => ?_) (ih _ (i + 1) (by omega) (by omega) (by simp; omega) fun j hj => ?_)
    · rw [primroseref10_Scale.l0, if_pos (by omega), if_pos (by omega), rrest_f hp.pos hp.2, Option.bind_some, if_pos (by omega), rd_cf, wmul hp (hF.at hp.pos i) (md hp c), wsucc (by omega)]
    · rw [cf_snoc]
      by_cases h1 : j = out.length
      · rw [if_pos h1, h1, ho]
      · rw [if_neg h1]; exact hc j (by omega)

theorem refScale_is {p : Int} (hp : Pr p) (f : List Int) (c : Int) (hf : f.length ≤ 1073741824) : Is (fun k => primroseref10_Scale.f k f c p) p (sm c (cf f)) := by
  unfold primroseref10_Scale.f
  refine Is.bind_len hp.pos (cf_lt_ p f) (refPlain_is hp f hf) fun F hF hFc hFl => ?_
  exact (refScale_l0 hp F c (by omega) hF.1 _ [] 0 rfl (by omega) rfl (fun j hj => by omega)).cq (Cq.sm (.refl _ _) hFc)

theorem up_l0 (l : List Int) (hl : l.length ≤ 1073741824) : ∀ (n : Nat) (out : List Int), out.length + n ≤ 1073741824 → Ev (fun k => primroseref10_up.l0 k l (n : Int) out) (out ++ (List.replicate n 0 ++ l)) := by
  intro n
  induction n with
  | zero =>
    intro out hb
    refine Ev.step (f := fun _ => some (out ++ l)) (fun k => ?_) (Ev.now _)
    rw [primroseref10_up.l0, if_neg (by omega), if_pos (by omega)]
  | succ n ih =>
    intro out hb
    have h := ih (out ++ [0]) (by simp; omega)
    refine Ev.step (f := fun k => primroseref10_up.l0 k l (n : Int) (out ++ [0])) (fun k => ?_) (ev_eq h ?_)
    · rw [primroseref10_up.l0, if_pos (by omega), if_pos (by omega), wpred (n := n + 1) (by omega) (by omega)]; rfl
    · rw [List.append_assoc, List.replicate_succ]; rfl
theorem up_f (l : List Int) (n : Nat) (hl : l.length ≤ 1073741824) (hn : n ≤ 1073741824) : Ev (fun k => primroseref10_up.f k l (n : Int)) (List.replicate n 0 ++ l) := by
  have := up_l0 l hl n [] (by simpa using hn)
  unfold primroseref10_up.f; exact this
theorem cf_up (l : List Int) (n : Nat) : cf (List.replicate n 0 ++ l) = xn n (cf l) := by
  ext j
  rw [cf_append, xn_at, List.length_replicate]
  split
  · exact congrFun (cf_replicate n) j
  · rfl

theorem refMul_l0 {p : Int} (hp : Pr p) (f G : List Int) (hf : f.length ≤ 134217728) (hg : G.length ≤ 134217728) : ∀ (d : Nat) (out : List Int) (i : Nat), G.length - i = d → i ≤ G.length → PL p out → Cq p (cf out) (cf f * cf (G.take i)) →
    Is (fun k => primroseref10_Mul.l0 k f G p out (i : Int)) p (cf f * cf G) := by
  intro d
  induction d with
  | zero =>
    intro out i hd hi ho hc
    rw [show i = G.length by omega, cf_take_all] at hc
    refine Is.step (f := fun _ => some out) (fun k => ?_) (Is.now ho hc)
    rw [primroseref10_Mul.l0, if_neg (by omega)]
  | succ d ih =>
    intro out i hd hi ho hc
    have hol : out.length ≤ f.length + G.length + 1 := ho.le_of hp.pos hc ((cf_lt_ p f).mul' ((cf_lt_ p (G.take i)).mono (by rw [List.length_take]; omega)))
    refine Is.step (f := fun k => (primroseref10_Scale.f k f (cf G i) p).bind fun t365 => ((primroseref10_up.f k t365 (i : Int)).bind fun t368 => ((primroseref10_Add.f k out t368 p).bind fun t371 => (primroseref10_Mul.l0 k f G p t371 ((i + 1 : Nat) : Int))))) (fun k => ?_) ?_
    · rw [primroseref10_Mul.l0, if_pos (by omega), if_pos (by omega), rd_cf, wsucc (by omega)]
    · refine Is.bind_len (n := f.length) hp.pos ?_ (refScale_is hp f (cf G i) (by omega)) fun t ht htc htl => Is.evb (up_f t i (by omega) (by omega)) (Is.bind (refAdd_is hp out (List.replicate i 0 ++ t) (by omega) (by simp; omega)) fun u hu huc => ?_)
      · intro j hj; rw [sm_at, cf_big (l := f) hj]; exact .of_eq (by omega)
      · refine ih u (i + 1) (by omega) (by omega) hu (huc.trans ?_)
        rw [cf_up, cf_take_succ, mul_add]
        refine hc.add ((xn_cq i htc).trans (.of_eq ?_))
        rw [mul_comm (cf f), xn_mul, sm_mul, one_mul]

theorem refMul_is {p : Int} (hp : Pr p) (f g : List Int) (hf : f.length ≤ 134217728) (hg : g.length ≤ 134217728) : Is (fun k => primroseref10_Mul.f k f g p) p (cf f * cf g) := by
  unfold primroseref10_Mul.f
  refine Is.bind_len hp.pos (cf_lt_ p g) (refPlain_is hp g (by omega)) fun G hG hGc hGl => ?_
  exact (refMul_l0 hp f G (by omega) (by omega) _ [] 0 rfl (by omega) (.nil p) (by rw [List.take_zero, cf_nil, mul_zero]; exact .refl _ _)).cq ((Cq.refl p _).mul hGc)

theorem refSub_is {p : Int} (hp : Pr p) (f g : List Int) (hf : f.length ≤ 536870912) (hg : g.length ≤ 536870912) : Is (fun k => primroseref10_Sub.f k f g p) p (cf f - cf g) := by
  unfold primroseref10_Sub.f
  refine Is.bind_len (n := g.length) hp.pos ?_ (refScale_is hp g (-1) (by omega)) fun t ht htc htl => Is.bind (refAdd_is hp f t (by omega) (by omega)) fun u hu huc => Is.now hu (huc.trans ?_)
  · intro j hj; rw [sm_at, cf_big (l := g) hj]; exact .of_eq (by omega)
  · refine ((Cq.refl p _).add htc).trans (.of_eq ?_)
    ext j; rw [Sq.add_at, Sq.sub_at, sm_at]; omega

theorem refDivMod_l0 {p : Int} (hp : Pr p) (F : Sq) (G : List Int) (hG : PL p G) (hG0 : 0 < G.length) (inv : Int) (hi0 : 0 ≤ inv ∧ inv < p) (hinv : Cg p (cf G (G.length - 1) * inv) 1) (L : Nat) (hL : L ≤ 134217728) (hGl : G.length ≤ 134217728) :
    ∀ (m : Nat) (f q : List Int), f.length ≤ m → f.length ≤ L → PL p f → PL p q → q.length ≤ L + 1 → Cq p F (cf q * cf G + cf f) →
    ∃ q' r', Ev (fun k => primroseref10_DivMod.l0 k f G p inv q) (q', r', 0) ∧ QR p F (cf G) q' r' := by
  intro m
  induction m with
  | zero =>
    intro f q hm hfL hf hq hqL hc
    refine ⟨q, f, Ev.step (f := fun _ => some (q, f, 0)) (fun k => ?_) (Ev.now _), hq, hf, hc, G, hG, .refl _ _, by omega⟩
    rw [primroseref10_DivMod.l0, if_neg (by omega)]
  | succ m ih =>
    intro f q hm hfL hf hq hqL hc
    by_cases hge : G.length ≤ f.length
    · have hft := hf.at hp.pos (f.length - 1)
      have hpp := hp.pos
      have hcf1 : cf ([] ++ [cf f (f.length - 1) * inv]) = sm (cf f (f.length - 1) * inv) 1 := by
        ext j; rw [cf_snoc, sm_at, one_at]; simp only [List.length_nil]; split
        · omega
        · rw [congrFun cf_nil j]; simp
      obtain ⟨t, t1, t2, t3, t4⟩ := ((refPlain_is hp (List.replicate (f.length - G.length) 0 ++ ([] ++ [cf f (f.length - 1) * inv])) (by simp; omega)).cq (.of_eq (cf_up _ _))).len (n := f.length - G.length + 1) hp.pos (fun j hj => by
        rw [xn_at, if_neg (by omega), hcf1, sm_at, one_at, if_neg (by omega)]; exact .of_eq (by omega))
      rw [hcf1] at t3
      obtain ⟨q1, a1, a2, a3, a4⟩ := (refAdd_is hp q t (by omega) (by omega)).len (n := L + 1) hp.pos (((cf_lt_ p q).mono (by omega)).add ((cf_lt_ p t).mono (by omega)))
      obtain ⟨u, b1, b2, b3, b4⟩ := (refMul_is hp G t (by omega) (by omega)).len (n := G.length + t.length + 1) hp.pos ((cf_lt_ p G).mul' (cf_lt_ p t))
      have hsub : Cq p (cf f - cf u) (cf f - xn (f.length - G.length) (sm (cf f (f.length - 1) * inv) (cf G))) := (Cq.refl p _).sub (b3.trans (((Cq.refl p (cf G)).mul t3).trans (.of_eq (by rw [mul_comm, xn_mul, sm_mul, one_mul]))))
      obtain ⟨f1, c1, c2, c3, c4⟩ := (refSub_is hp f u (by omega) (by omega)).len (n := f.length - 1) hp.pos (by
        refine Lt.cq (fun j hj => ?_) hsub
        rw [Sq.sub_at, xn_at, if_neg (by omega), sm_at]
        by_cases hj1 : j = f.length - 1
        · subst hj1
          rw [show f.length - 1 - (f.length - G.length) = G.length - 1 by omega]
          refine ((Cg.refl p _).sub ((Cg.of_eq ?_).trans ((Cg.refl p (cf f (f.length - 1))).mul hinv))).trans (.of_eq (by omega))
          grind
        · rw [cf_big (l := f) (by omega), cf_big (l := G) (by omega)]; exact .of_eq (by omega))
      obtain ⟨q', r', d1, d2⟩ := ih f1 q1 (by omega) (by omega) c2 a2 (by omega) (by
        refine hc.trans (Cq.trans ?_ ((a3.symm.mul_right (cf G)).add c3.symm))
        rw [add_mul]
        refine (Cq.of_eq ?_).trans (((Cq.refl p _).add ((Cq.of_eq (mul_comm _ _)).trans b3.symm |>.symm |>.symm)).add (.refl p (cf f - cf u)) |>.symm)
        · ext j; simp only [Sq.add_at, Sq.sub_at]; omega)
      refine ⟨q', r', Ev.step (f := fun k => (primroseref10_up.f k ([] ++ [cf f (f.length - 1) * inv]) ((f.length - G.length : Nat) : Int)).bind fun t402 => ((primroseref10_Plain.f k t402 p).bind fun t405 => ((primroseref10_Add.f k q t405 p).bind fun t408 => ((primroseref10_Mul.f k G t405 p).bind fun t411 => ((primroseref10_Sub.f k f t411 p).bind fun t414 => (primroseref10_DivMod.l0 k t414 G p inv t408)))))) (fun k => ?_)
        (Ev.bind (up_f _ _ (by simp) (by omega)) (Ev.bind t1 (Ev.bind a1 (Ev.bind b1 (Ev.bind c1 d1))))), d2⟩
      rw [primroseref10_DivMod.l0, if_pos (by omega), wpred (by omega) (by omega), if_pos (by omega), if_pos (by omega), if_pos (by simp), rd_cf, wmul hp hft hi0, wn (n := f.length - G.length) (by omega) (by omega)]
    · refine ⟨q, f, Ev.step (f := fun _ => some (q, f, 0)) (fun k => ?_) (Ev.now _), hq, hf, hc, G, hG, .refl _ _, by omega⟩
      rw [primroseref10_DivMod.l0, if_neg (by omega)]

theorem ref_dz {p : Int} (hp : Pr p) (f g : List Int) (hf : f.length ≤ 1073741824) (hg : g.length ≤ 1073741824) (hz : Cq p (cf g) 0) : Ev (fun k => primroseref10_DivMod.f k f g p) ([], [], 30) := by
  unfold primroseref10_DivMod.f
  obtain ⟨F, a1, a2, a3⟩ := refPlain_is hp f hf
  obtain ⟨G, h1, h2, h3⟩ := refPlain_is hp g hg
  refine Ev.bind (refIs p) (ev_pos (isB_true hp) (Ev.bind a1 (Ev.bind h1 (ev_pos ?_ (Ev.now _)))))
  have := (h2.len_iff hp.pos).2 (h3.trans hz); omega
theorem ref_dm {p : Int} (hp : Pr p) (f g : List Int) (hf : f.length ≤ 134217728) (hg : g.length ≤ 134217728) (hz : ¬ Cq p (cf g) 0) : ∃ q r, Ev (fun k => primroseref10_DivMod.f k f g p) (q, r, 0) ∧ QR p (cf f) (cf g) q r := by
  obtain ⟨F, a1, a2, a3, a4⟩ := (refPlain_is hp f (by omega)).len hp.pos (cf_lt_ p f)
  obtain ⟨G, h1, h2, h3, h4⟩ := (refPlain_is hp g (by omega)).len hp.pos (cf_lt_ p g)
  have h0 : G.length ≠ 0 := fun h => hz (h3.symm.trans ((h2.len_iff hp.pos).1 h))
  obtain ⟨inv, b1, b2, b3⟩ := refInv hp (h2.last hp.pos (by omega))
  obtain ⟨q, r, k1, k2⟩ := refDivMod_l0 hp (cf f) G h2 (by omega) inv b2 b3 F.length (by omega) (by omega) F.length F [] (by omega) (by omega) a2 (.nil p) (by simp) (by rw [cf_nil, zero_mul, zero_add]; exact a3.symm)
  refine ⟨q, r, ?_, k2.cq (.refl _ _) h3⟩
  unfold primroseref10_DivMod.f
  refine Ev.bind (refIs p) (ev_pos (isB_true hp) (Ev.bind a1 (Ev.bind h1 (ev_neg (by omega) ?_))))
  rw [wpred (by omega) (by omega)]
  refine ev_pos (by omega) (ev_pos (by omega) ?_)
  rw [rd_cf]
  exact Ev.bind b1 k1
theorem ref_dn {p : Int} (hp : ¬ Pr p) (f g : List Int) : Ev (fun k => primroseref10_DivMod.f k f g p) ([], [], 50) := by
  unfold primroseref10_DivMod.f
  exact Ev.bind (refIs p) (ev_neg (by rw [isB_false hp]; decide) (Ev.now _))

theorem refRest {p : Int} (hp : Pr p) (f g : List Int) (hf : f.length ≤ 134217728) (hg : g.length ≤ 134217728) (hz : ¬ Cq p (cf g) 0) : ∃ q r, Ev (fun k => primroseref10_Rest.f k f g p) r ∧ QR p (cf f) (cf g) q r := by
  obtain ⟨q, r, h1, h2⟩ := ref_dm hp f g hf hg hz
  exact ⟨q, r, Ev.bind h1 (Ev.now _), h2⟩

end Go.Proofs.Ytgfefcopaeelnaa.Alg
