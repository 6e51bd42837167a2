/- What the printed product and division of lists by a prime come to. -/
import Derived.Test.YtgfefcopaeelnaaMod2
import Derived.Test.YtgfefcopaeelnaaMx9
import Derived.Test.YtgfefcopaeelnaaMx8
namespace Go.Proofs.Ytgfefcopaeelnaa.Alg
open Go.RowKit Go.Proofs.YtgfefcopaeelnaaW.PrintWords Go.Proofs.YtgfefcopaeelnaaW.PrintMore Go.Proofs.Ytgfefcopaeelnaa.M Sq
set_option linter.unusedVariables false
set_option linter.unusedSimpArgs false
/-! ### products -/

theorem mul_l1 {p : Int} (hp : Pr p) (f g : List Int) (hf : f.length ≤ 1073741824) (hg : g.length ≤ 1073741824) (hF : Rs p f) (hG : Rs p g) (i : Nat) (hi : i < f.length) (L : Nat) (hL : L + 1 = f.length + g.length) (hg0 : 0 < g.length)
    (h : ∀ out', out'.length = L → Rs p out' → Cq p (cf out') (cf (f.take (i + 1)) * cf g) → Is (fun k => modular_mul.l0 k g p out' f (f.length : Int) ((i + 1 : Nat) : Int)) p (cf f * cf g)) :
    ∀ (d : Nat) (out : List Int) (j : Nat), g.length - j = d → j ≤ g.length → out.length = L → Rs p out → Cq p (cf out) (cf (f.take i) * cf g + xn i (sm (cf f i) (cf (g.take j)))) →
    Is (fun k => modular_mul.l1 k g p out (i : Int) (cf f i) f (f.length : Int) (i : Int) g (g.length : Int) (j : Int)) p (cf f * cf g) := by
  intro d
  induction d with
  | zero =>
    intro out j hd hj ho hr hc
    refine Is.step (f := fun k => modular_mul.l0 k g p out f (f.length : Int) ((i + 1 : Nat) : Int)) (fun k => ?_) (h out ho hr (hc.trans (.of_eq ?_)))
    · rw [modular_mul.l1, if_neg (by omega), wsucc (by omega)]
    · rw [show j = g.length by omega, cf_take_all, cf_take_succ, add_mul, xn_mul, sm_mul, one_mul]
  | succ d ih =>
    intro out j hd hj ho hr hc
    have hfi := hF.at hp.pos i; have hgj := hG.at hp.pos j; have hoi := hr.at hp.pos (i + j)
    refine Is.step (f := fun k => modular_mul.l1 k g p (out.set (i + j) ((cf out (i + j) + cf f i * cf g j) % p)) (i : Int) (cf f i) f (f.length : Int) (i : Int) g (g.length : Int) ((j + 1 : Nat) : Int)) (fun k => ?_)
      (ih _ (j + 1) (by omega) (by omega) (by simpa using ho) (hr.set (md hp _)) fun n => ?_)
    · rw [modular_mul.l1, if_pos (by omega), if_pos (by omega), if_pos (by omega), wplus (by omega), if_pos (by omega), if_pos (by omega), if_neg (by have := hp.pos; omega), rd_cf, rd_cf, (wadd hp hfi hgj hoi).1, md_nn (wadd hp hfi hgj hoi).2, wsucc (by omega)]; rfl
    · rw [cf_set, Sq.add_at, xn_at, sm_at, cf_take_succ g j, Sq.add_at, xn_at]
      have hcn := hc n
      rw [Sq.add_at, xn_at, sm_at] at hcn
      by_cases hn : n = i + j
      · subst hn
        rw [if_pos ⟨rfl, by omega⟩]
        refine (Cg.mod p _).trans ?_
        rw [if_neg (by omega)] at hcn ⊢
        rw [show i + j - i = j by omega] at hcn ⊢
        rw [if_neg (by omega), Nat.sub_self, sm_at, one_at, if_pos rfl, Int.mul_one, Int.mul_add]
        have := hcn.add (Cg.refl p (cf f i * cf g j))
        exact this.trans (.of_eq (by omega))
      · rw [if_neg (fun h => hn h.1)]
        refine hcn.trans (.of_eq ?_)
        by_cases hni : n < i
        · rw [if_pos hni, if_pos hni]
        · rw [if_neg hni, if_neg hni]
          have hz : (if n - i < j then (0 : Int) else sm (cf g j) 1 (n - i - j)) = 0 := by
            split
            · rfl
            · rw [sm_at, one_at, if_neg (by omega), Int.mul_zero]
          rw [hz]; simp

theorem mul_l0 {p : Int} (hp : Pr p) (f g : List Int) (hf : f.length ≤ 1073741824) (hg : g.length ≤ 1073741824) (hF : Rs p f) (hG : Rs p g) (L : Nat) (hL : L + 1 = f.length + g.length) (hg0 : 0 < g.length) :
    ∀ (d : Nat) (out : List Int) (i : Nat), f.length - i = d → i ≤ f.length → out.length = L → Rs p out → Cq p (cf out) (cf (f.take i) * cf g) →
    Is (fun k => modular_mul.l0 k g p out f (f.length : Int) (i : Int)) p (cf f * cf g) := by
  intro d
  induction d with
  | zero =>
    intro out i hd hi ho hr hc
    refine Is.step (f := fun k => (modular_trim.f k out).bind fun t => some t) (fun k => ?_) (Is.bind (trim_is (p := p) (s := cf f * cf g) (by omega) hr ?_) (fun r h1 h2 => Is.now h1 h2))
    · rw [modular_mul.l0, if_neg (by omega)]
    · rw [show i = f.length by omega, cf_take_all] at hc; exact hc
  | succ d ih =>
    intro out i hd hi ho hr hc
    refine Is.step (f := fun k => modular_mul.l1 k g p out (i : Int) (cf f i) f (f.length : Int) (i : Int) g (g.length : Int) ((0 : Nat) : Int)) (fun k => ?_)
      (mul_l1 hp f g hf hg hF hG i (by omega) L hL hg0 (fun out' h1 h2 h3 => ih out' (i + 1) (by omega) (by omega) h1 h2 h3) _ out 0 rfl (by omega) ho hr (hc.trans (.of_eq ?_)))
    · rw [modular_mul.l0, if_pos (by omega), if_pos (by omega), if_pos (by omega), rd_cf]; rfl
    · ext n; rw [Sq.add_at, xn_at, sm_at, cf_take_at]; simp

theorem mul_is {p : Int} (hp : Pr p) (f g : List Int) (hf : f.length ≤ 1073741824) (hg : g.length ≤ 1073741824) (hF : Rs p f) (hG : Rs p g) : Is (fun k => modular_mul.f k f g p) p (cf f * cf g) := by
  unfold modular_mul.f
  by_cases h1 : f.length = 0
  · refine Is.pos (by omega) (Is.step (f := fun _ => some []) (fun k => ?_) (Is.now (.nil p) ?_))
    · rw [modular_mul.j0, if_pos rfl]
    · rw [List.length_eq_zero_iff.1 h1, cf_nil, zero_mul]; exact .refl _ _
  · refine Is.neg (by omega) ?_
    by_cases h2 : g.length = 0
    · refine Is.step (f := fun _ => some []) (fun k => ?_) (Is.now (.nil p) ?_)
      · rw [modular_mul.j0, if_pos (beq_iff_eq.2 (by omega))]
      · rw [List.length_eq_zero_iff.1 h2, cf_nil, mul_zero]; exact .refl _ _
    · refine Is.step (f := fun k => modular_mul.l0 k g p (List.replicate (f.length + (g.length - 1)) 0) f (f.length : Int) ((0 : Nat) : Int)) (fun k => ?_)
        (mul_l0 hp f g hf hg hF hG (f.length + (g.length - 1)) (by omega) (by omega) _ _ 0 rfl (by omega) (by simp) (.rep hp.pos _) ?_)
      · rw [modular_mul.j0, if_neg (by rw [beq_iff_eq]; omega), wix2 (by omega) (by omega), if_pos (by omega), if_pos (by omega), Int.toNat_natCast]; rfl
      · rw [cf_replicate, List.take_zero, cf_nil, zero_mul]; exact .refl _ _

/-! ### quotients -/

theorem divide_l1 {p : Int} (hp : Pr p) (g : List Int) (hg : g.length ≤ 1073741824) (hG : Rs p g) (q : List Int) (inv c : Int) (hc : 0 ≤ c ∧ c < p) (kk i m L : Nat) (him : i < 1073741824) (hL : L ≤ 1073741824) (hk : kk + g.length ≤ L) (R0 : Sq) (P : List Int × List Int → Prop)
    (h : ∀ r', r'.length = L → Rs p r' → Cq p (cf r') (R0 - xn kk (sm c (cf g))) → ∃ z, Ev (fun k => modular_divide.l0 k g p q r' (g.length : Int) inv (m : Int) ((i + 1 : Nat) : Int)) z ∧ P z) :
    ∀ (d : Nat) (r : List Int) (j : Nat), g.length - j = d → j ≤ g.length → r.length = L → Rs p r → Cq p (cf r) (R0 - xn kk (sm c (cf (g.take j)))) →
    ∃ z, Ev (fun k => modular_divide.l1 k g p q r (g.length : Int) inv (kk : Int) c (m : Int) (i : Int) g (g.length : Int) (j : Int)) z ∧ P z := by
  intro d
  induction d with
  | zero =>
    intro r j hd hj hr hR hcq
    rw [show j = g.length by omega, cf_take_all] at hcq
    obtain ⟨z, h1, h2⟩ := h r hr hR hcq
    refine ⟨z, Ev.step (f := fun k => modular_divide.l0 k g p q r (g.length : Int) inv (m : Int) ((i + 1 : Nat) : Int)) (fun k => ?_) h1, h2⟩
    rw [modular_divide.l1, if_neg (by omega), wsucc (by omega)]
  | succ d ih =>
    intro r j hd hj hr hR hcq
    have hgj := hG.at hp.pos j; have hri := hR.at hp.pos (kk + j); have hpb := hp.2; have hpp := hp.pos
    obtain ⟨z, h1, h2⟩ := ih (r.set (kk + j) ((cf r (kk + j) - c * cf g j % p) % p)) (j + 1) (by omega) (by omega) (by simpa using hr) (hR.set (md hp _)) (fun n => by
      rw [cf_set, sub_at, xn_at, sm_at, cf_take_succ g j, Sq.add_at, xn_at]
      have hcn := hcq n
      rw [sub_at, xn_at, sm_at] at hcn
      by_cases hn : n = kk + j
      · subst hn
        rw [if_pos ⟨rfl, by omega⟩]
        refine (Cg.mod p _).trans ?_
        rw [if_neg (by omega)] at hcn ⊢
        rw [show kk + j - kk = j by omega] at hcn ⊢
        rw [if_neg (by omega), Nat.sub_self, sm_at, one_at, if_pos rfl, Int.mul_one, Int.mul_add]
        have := hcn.sub (Cg.mod p (c * cf g j))
        exact this.trans (.of_eq (by omega))
      · rw [if_neg (fun h => hn h.1)]
        refine hcn.trans (.of_eq ?_)
        by_cases hni : n < kk
        · rw [if_pos hni, if_pos hni]
        · rw [if_neg hni, if_neg hni]
          have hz : (if n - kk < j then (0 : Int) else sm (cf g j) 1 (n - kk - j)) = 0 := by
            split
            · rfl
            · rw [sm_at, one_at, if_neg (by omega), Int.mul_zero]
          rw [hz]; simp)
    refine ⟨z, Ev.step (f := fun k => modular_divide.l1 k g p q (r.set (kk + j) ((cf r (kk + j) - c * cf g j % p) % p)) (g.length : Int) inv (kk : Int) c (m : Int) (i : Int) g (g.length : Int) ((j + 1 : Nat) : Int)) (fun k => ?_) h1, h2⟩
    rw [modular_divide.l1, if_pos (by omega), if_pos (by omega), if_pos (by omega), wplus (by omega), if_pos (by omega), if_pos (by omega), if_neg (by omega), rd_cf, rd_cf, wsub hp hc hgj hri, rest_f hp.pos hp.2, Option.bind_some, wsucc (by omega)]; rfl

theorem divide_l0 {p : Int} (hp : Pr p) (F : Sq) (g : List Int) (hg : g.length ≤ 1073741824) (hG : PL p g) (hg0 : 0 < g.length) (inv : Int) (hi0 : 0 ≤ inv ∧ inv < p) (hinv : Cg p (cf g (g.length - 1) * inv) 1) (m L : Nat) (hm : m ≤ 1073741824) (hLb : L ≤ 1073741824)
    (hL : (m = 0 ∧ L < g.length) ∨ (0 < m ∧ L + 1 = m + g.length)) :
    ∀ (d : Nat) (q r : List Int) (i : Nat), m - i = d → i ≤ m → q.length = m → r.length = L → Rs p q → Rs p r → (∀ j, j < m - i → cf q j = 0) → (∀ j, m - i + g.length ≤ j + 1 → cf r j = 0) → Cq p F (cf q * cf g + cf r) →
    ∃ z, Ev (fun k => modular_divide.l0 k g p q r (g.length : Int) inv (m : Int) (i : Int)) z ∧ (PL p z.1 ∧ PL p z.2 ∧ Cq p F (cf z.1 * cf g + cf z.2) ∧ z.2.length < g.length) := by
  intro d
  induction d with
  | zero =>
    intro q r i hd hi hq hr hQ hR hzq hzr hcq
    obtain ⟨q', a1, a2, a3, a4⟩ := trim_f q (by omega)
    obtain ⟨r', b1, b2, b3, b4⟩ := trim_f r (by omega)
    refine ⟨(q', r'), Ev.step (f := fun k => (modular_trim.f k q).bind fun t => (modular_trim.f k r).bind fun u => some (t, u)) (fun k => ?_) (Ev.bind a1 (Ev.bind b1 (Ev.now _))), a4 p hQ, b4 p hR, by rw [a2, b2]; exact hcq, ?_⟩
    · rw [modular_divide.l0, if_neg (by omega)]
    · have := (b4 p hR).le_of (n := g.length - 1) hp.pos (.refl p _) (fun j hj => by rw [b2, hzr j (by omega)]; exact .refl _ _)
      show r'.length < g.length
      omega
  | succ d ih =>
    intro q r i hd hi hq hr hQ hR hzq hzr hcq
    have hL' : L + 1 = m + g.length := by rcases hL with h | h <;> omega
    have hpp := hp.pos
    obtain ⟨kk, hkk⟩ : ∃ kk : Nat, kk + 1 + i = m := ⟨m - 1 - i, by omega⟩
    have htop := hR.at hp.pos (kk + (g.length - 1))
    have hc := md hp (cf r (kk + (g.length - 1)) * inv)
    obtain ⟨z, h1, h2⟩ := divide_l1 hp g hg hG.1 (q.set kk (cf r (kk + (g.length - 1)) * inv % p)) inv _ hc kk i m L (by omega) (by omega) (by omega) (cf r)
      (fun z => PL p z.1 ∧ PL p z.2 ∧ Cq p F (cf z.1 * cf g + cf z.2) ∧ z.2.length < g.length) (fun r' hr' hR' hcr => by
        have hex : ∀ j, m - (i + 1) + g.length ≤ j + 1 → cf r' j = 0 := fun j hj => by
          have hb := hR'.at hp.pos j
          refine Cg.eq_of (p := p) ?_ hb.1 hb.2 (by omega) hp.pos
          refine (hcr j).trans ?_
          rw [sub_at, xn_at]
          by_cases hjt : j = kk + (g.length - 1)
          · subst hjt
            rw [if_neg (by omega), sm_at, show kk + (g.length - 1) - kk = g.length - 1 by omega]
            refine ((Cg.refl p _).sub ((Cg.mod p _).mul (Cg.refl p _))).trans ?_
            refine (((Cg.refl p _).sub ((Cg.of_eq ?_).trans ((Cg.refl p (cf r (kk + (g.length - 1)))).mul hinv)))).trans (.of_eq (by omega))
            grind
          · rw [hzr j (by omega)]
            split
            · exact .of_eq (by omega)
            · rw [sm_at, cf_big (l := g) (n := j - kk) (by omega)]; exact .of_eq (by omega)
        refine ih (q.set kk (cf r (kk + (g.length - 1)) * inv % p)) r' (i + 1) (by omega) (by omega) (by simpa using hq) hr' (hQ.set hc) hR' (fun j hj => ?_) hex ?_
        · rw [cf_set, if_neg (fun h => by omega)]; exact hzq j (by omega)
        · have hqe : cf (q.set kk (cf r (kk + (g.length - 1)) * inv % p)) = cf q + xn kk (sm (cf r (kk + (g.length - 1)) * inv % p) 1) := by
            ext j
            rw [cf_set, Sq.add_at, xn_at]
            by_cases hj : j = kk
            · subst hj; rw [if_pos ⟨rfl, by omega⟩, hzq j (by omega), if_neg (by omega), Nat.sub_self, sm_at, one_at, if_pos rfl]; omega
            · rw [if_neg (fun h => hj h.1)]
              split
              · omega
              · rw [sm_at, one_at, if_neg (by omega)]; omega
          rw [hqe, add_mul, xn_mul, sm_mul, one_mul]
          refine hcq.trans (((Cq.refl p _).add hcr.symm).symm.trans (.of_eq ?_) |>.symm)
          ext j; simp; omega) _ r 0 rfl (by omega) hr hR (.of_eq (by ext n; rw [sub_at, xn_at, sm_at, cf_take_at]; simp))
    refine ⟨z, Ev.step (f := fun k => modular_divide.l1 k g p (q.set kk (cf r (kk + (g.length - 1)) * inv % p)) r (g.length : Int) inv (kk : Int) (cf r (kk + (g.length - 1)) * inv % p) (m : Int) (i : Int) g (g.length : Int) ((0 : Nat) : Int)) (fun k => ?_) h1, h2⟩
    rw [modular_divide.l0, wix1 (q := q.length) (k := kk) (by omega) (by omega), wix2 (by omega) (by omega), if_pos (by omega), if_pos (by omega), if_pos (by omega), if_neg (by omega), if_pos (by omega), if_pos (by omega), rd_cf, wmul hp htop hi0, md_nn (Int.mul_nonneg htop.1 hi0.1)]; rfl

/-- What is divided: the quotient and the rest, plain. -/
def Dv (g : Nat → Option (List Int × List Int)) (p : Int) (F : Sq) (d : List Int) : Prop :=
  ∃ q r, Ev g (q, r) ∧ PL p q ∧ PL p r ∧ Cq p F (cf q * cf d + cf r) ∧ r.length < d.length

theorem divide_dv {p : Int} (hp : Pr p) (f g : List Int) (hf : f.length ≤ 1073741824) (hg : g.length ≤ 1073741824) (hG : PL p g) (hg0 : 0 < g.length) : Dv (fun k => modular_divide.f k f g p) p (cf f) g := by
  obtain ⟨F, a1, a2, a3⟩ := plain_is hp f hf
  have hFl : F.length ≤ f.length := a2.le_of hp.pos a3 (cf_lt_ p f)
  obtain ⟨inv, b1, b2, b3⟩ := progInv hp (hG.last hp.pos hg0)
  obtain ⟨z, c1, c2, c3, c4, c5⟩ := divide_l0 hp (cf f) g hg hG hg0 inv b2 b3 (F.length + 1 - g.length) F.length (by omega) (by omega) (by omega) _ (List.replicate (F.length + 1 - g.length) 0) F 0 rfl (by omega) (by simp) rfl (.rep hp.pos _) a2.1
    (fun j hj => congrFun (cf_replicate _) j) (fun j hj => cf_big (by omega)) (by rw [cf_replicate, zero_mul, zero_add]; exact a3.symm)
  refine ⟨z.1, z.2, ?_, c2, c3, c4, c5⟩
  unfold modular_divide.f
  refine Ev.bind a1 ?_
  rw [wmx (by omega) (by omega), wpred (by omega) (by omega)]
  refine ev_pos (by omega) (ev_pos (by omega) (ev_some rfl (ev_pos (by omega) (ev_pos (by omega) ?_))))
  rw [Int.toNat_natCast, List.length_replicate, rd_cf]
  exact Ev.bind b1 c1

end Go.Proofs.Ytgfefcopaeelnaa.Alg
