/- Powers of a list by a prime, divided by another one: alike by a list, and what the program's printed power comes to. -/
import Derived.Test.YtgfefcopaeelnaaTop1
import Derived.Test.YtgfefcopaeelnaaMx10
namespace Go.Proofs.Ytgfefcopaeelnaa.Alg
open Go.RowKit Go.Proofs.YtgfefcopaeelnaaW.PrintWords Go.Proofs.YtgfefcopaeelnaaW.PrintMore Go.Proofs.Ytgfefcopaeelnaa.M Sq
set_option linter.unusedVariables false
set_option linter.unusedSimpArgs false

/-- Finite. -/
def Fin_ (p : Int) (a : Sq) : Prop := ∃ n, Lt p a n
theorem fin_cf (p : Int) (l : List Int) : Fin_ p (cf l) := ⟨_, cf_lt_ p l⟩
theorem Fin_.add {p : Int} {a b : Sq} (h : Fin_ p a) (k : Fin_ p b) : Fin_ p (a + b) := by
  obtain ⟨m, h⟩ := h; obtain ⟨n, k⟩ := k
  exact ⟨max m n, (h.mono (by omega)).add (k.mono (by omega))⟩
theorem Fin_.mul {p : Int} {a b : Sq} (h : Fin_ p a) (k : Fin_ p b) : Fin_ p (a * b) := by
  obtain ⟨m, h⟩ := h; obtain ⟨n, k⟩ := k
  exact ⟨_, h.mul' k⟩
theorem Fin_.neg {p : Int} {a : Sq} (h : Fin_ p a) : Fin_ p (-a) := by
  obtain ⟨m, h⟩ := h
  exact ⟨m, fun i hi => by have := (h i hi).neg; simpa using this⟩
theorem fin_zero (p : Int) : Fin_ p 0 := ⟨0, fun _ _ => .refl _ _⟩
theorem fin_one (p : Int) : Fin_ p 1 := ⟨1, fun i hi => by rw [one_at, if_neg (by omega)]; exact .refl _ _⟩
theorem Fin_.pow {p : Int} {a : Sq} (h : Fin_ p a) : ∀ n : Nat, Fin_ p (a ^ n)
  | 0 => fin_one p
  | n + 1 => (Fin_.pow h n).mul h

/-- Alike by p and M: the difference is a multiple of M. -/
def Cm (p : Int) (M A B : Sq) : Prop := ∃ q, Fin_ p q ∧ Cq p A (q * M + B)
theorem Cm.of_cq {p : Int} {M A B : Sq} (h : Cq p A B) : Cm p M A B := ⟨0, fin_zero p, by rw [zero_mul, zero_add]; exact h⟩
theorem Cm.refl (p : Int) (M A : Sq) : Cm p M A A := .of_cq (.refl _ _)
theorem Cm.symm {p : Int} {M A B : Sq} (h : Cm p M A B) : Cm p M B A := by
  obtain ⟨q, hq, h⟩ := h
  refine ⟨-q, hq.neg, fun n => ?_⟩
  obtain ⟨c, hc⟩ := h n
  rw [neg_mul]
  exact ⟨-c, by simp at hc ⊢; grind⟩
theorem Cm.trans {p : Int} {M A B C : Sq} (h : Cm p M A B) (k : Cm p M B C) : Cm p M A C := by
  obtain ⟨q, hq, h⟩ := h; obtain ⟨q', hq', k⟩ := k
  refine ⟨q + q', hq.add hq', fun n => ?_⟩
  obtain ⟨c, hc⟩ := h n; obtain ⟨d, hd⟩ := k n
  rw [add_mul]
  exact ⟨c + d, by simp at hc hd ⊢; grind⟩
theorem Cm.add {p : Int} {M A B C D : Sq} (h : Cm p M A B) (k : Cm p M C D) : Cm p M (A + C) (B + D) := by
  obtain ⟨q, hq, h⟩ := h; obtain ⟨q', hq', k⟩ := k
  refine ⟨q + q', hq.add hq', fun n => ?_⟩
  obtain ⟨c, hc⟩ := h n; obtain ⟨d, hd⟩ := k n
  rw [add_mul]
  exact ⟨c + d, by simp at hc hd ⊢; grind⟩
theorem Cm.mul_right {p : Int} {M A B C : Sq} (h : Cm p M A B) (hC : Fin_ p C) : Cm p M (A * C) (B * C) := by
  obtain ⟨q, hq, h⟩ := h
  refine ⟨q * C, hq.mul hC, (h.mul_right C).trans (.of_eq ?_)⟩
  rw [add_mul, mul_assoc, mul_comm M, ← mul_assoc]
theorem Cm.mul {p : Int} {M A B C D : Sq} (h : Cm p M A B) (k : Cm p M C D) (hB : Fin_ p B) (hC : Fin_ p C) : Cm p M (A * C) (B * D) := by
  refine (h.mul_right hC).trans ?_
  rw [mul_comm B C, mul_comm B D]; exact k.mul_right hB
theorem Cm.pow {p : Int} {M A B : Sq} (h : Cm p M A B) (hA : Fin_ p A) (hB : Fin_ p B) : ∀ n : Nat, Cm p M (A ^ n) (B ^ n)
  | 0 => .refl _ _ _
  | n + 1 => (Cm.pow h hA hB n).mul h (hB.pow n) hA

/-- What is left of A, divided by M. -/
structure Rm (p : Int) (M A : Sq) (r : List Int) : Prop where
  pl : PL p r
  eq : Cm p M A (cf r)
  lt : ∃ d : List Int, PL p d ∧ Cq p (cf d) M ∧ r.length < d.length
theorem Rm.one {p : Int} (hp : Pr p) {M A B : Sq} {r s : List Int} (h : Rm p M A r) (k : Rm p M B s) (e : Cm p M A B) : r = s := by
  obtain ⟨d, hd, hdc, hdl⟩ := h.lt
  obtain ⟨d', hd', hdc', hdl'⟩ := k.lt
  have hdd : d' = d := hd'.ext hd hp.pos (hdc'.trans hdc.symm)
  subst hdd
  obtain ⟨q, ⟨n, hq⟩, hc⟩ := h.eq.symm.trans (e.trans k.eq)
  refine h.pl.ext k.pl hp.pos ?_
  exact (divide_one (m := n) (n := d'.length - 1) hp.1 (q := 0) (q' := q) (r := cf r) (r' := cf s) (g := M)
    (fun i _ => .refl _ _) hq ((cf_lt_ p r).mono (by omega)) ((cf_lt_ p s).mono (by omega))
    (fun hc => hd.last hp.pos (by omega) ((hdc _).trans hc)) (((cf_lt_ p d').cq hdc.symm).mono (by omega)) (by rw [zero_mul, zero_add]; exact hc)).2
theorem Rm.cm {p : Int} {M A B : Sq} {r : List Int} (h : Rm p M A r) (e : Cm p M B A) : Rm p M B r := ⟨h.pl, e.trans h.eq, h.lt⟩
theorem QR.rm {p : Int} {F G : Sq} {q r : List Int} (h : QR p F G q r) : Rm p G F r := ⟨h.pr, ⟨cf q, fin_cf p q, h.eq⟩, h.lt⟩
theorem Rm.len {p : Int} (hp : Pr p) {M A : Sq} {r : List Int} (h : Rm p M A r) {n : Nat} (hM : Lt p M n) : r.length ≤ n := by
  obtain ⟨d, hd, hdc, hdl⟩ := h.lt
  have := hd.le_of hp.pos hdc hM; omega

theorem sq_pow (X : Sq) (j : Nat) : (X * X) ^ j = X ^ (2 * j) := by
  rw [pow_mul]; congr 1; rw [pow_succ, pow_succ, pow_zero, one_mul]
theorem cf_1 : cf [1] = 1 := by
  ext n; rw [cf_at, one_at]
  match n with
  | 0 => rfl
  | n + 1 => rfl

/-- A product, divided by the list M. -/
theorem mul_rest {p : Int} (hp : Pr p) (M : List Int) (hM : PL p M) (hM0 : 0 < M.length) (hMl : M.length ≤ 1000000) {O X : Sq} {a b : List Int} (ha : Rm p (cf M) O a) (hb : Rm p (cf M) X b) (hX : Fin_ p X) :
    ∃ u q r, Ev (fun k => modular_mul.f k a b p) u ∧ Ev (fun k => modular_divide.f k u M p) (q, r) ∧ Rm p (cf M) (O * X) r := by
  have hal := ha.len hp (cf_lt_ p M); have hbl := hb.len hp (cf_lt_ p M)
  obtain ⟨u, u1, u2, u3, u4⟩ := (mul_is hp a b (by omega) (by omega) ha.pl.1 hb.pl.1).len hp.pos ((cf_lt_ p a).mul' (cf_lt_ p b))
  obtain ⟨q, r, k1, k2, k3, k4, k5⟩ := divide_dv hp u M (by omega) (by omega) hM hM0
  refine ⟨u, q, r, u1, k1, (QR.rm ⟨k2, k3, k4, M, hM, .refl _ _, k5⟩).cm ?_⟩
  exact (ha.eq.mul hb.eq (fin_cf p a) hX).trans (.of_cq u3.symm)

theorem progPow_l0 {p : Int} (hp : Pr p) (M : List Int) (hM : PL p M) (hM0 : 0 < M.length) (hMl : M.length ≤ 1000000) : ∀ (m : Nat) (n : Int) (out x : List Int) (O X : Sq), 0 ≤ n → n ≤ m → Rm p (cf M) O out → Rm p (cf M) X x → Fin_ p O → Fin_ p X →
    ∃ r, Ev (fun k => modular_Pow.l0 k n M p out x) (r, 0) ∧ Rm p (cf M) (O * X ^ n.toNat) r := by
  intro m
  induction m with
  | zero =>
    intro n out x O X hn hm ho hx hO hX
    have h0 : n = 0 := by omega
    subst h0
    refine ⟨out, Ev.step (f := fun _ => some (out, 0)) (fun k => ?_) (Ev.now _), ho.cm (.of_cq (.of_eq ?_))⟩
    · rw [modular_Pow.l0, if_neg (by omega)]
    · rw [Int.toNat_zero, pow_zero, mul_one]
  | succ m ih =>
    intro n out x O X hn hm ho hx hO hX
    by_cases h0 : n = 0
    · exact ih n out x O X hn (by omega) ho hx hO hX
    · obtain ⟨u, q, x', u1, u2, u3⟩ := mul_rest hp M hM hM0 hMl hx hx hX
      by_cases h1 : n % 2 = 1
      · obtain ⟨v, q', o', v1, v2, v3⟩ := mul_rest hp M hM hM0 hMl ho hx hX
        obtain ⟨r, r1, r2⟩ := ih (n / 2) o' x' (O * X) (X * X) (by omega) (by omega) v3 u3 (hO.mul hX) (hX.mul hX)
        refine ⟨r, Ev.step (f := fun k => (modular_mul.f k out x p).bind fun t219 => ((modular_divide.f k t219 M p).bind fun bt222 => ((modular_mul.f k x x p).bind fun t228 => ((modular_divide.f k t228 M p).bind fun bt231 => (modular_Pow.l0 k (n / 2) M p bt222.2 bt231.2))))) (fun k => ?_)
          (Ev.bind v1 (Ev.bind v2 (Ev.bind u1 (Ev.bind u2 r1)))), r2.cm (.of_cq (.of_eq ?_))⟩
        · rw [modular_Pow.l0, if_pos (by omega), if_pos (by rw [i64_and1]; exact h1)]
        · rw [sq_pow, show n.toNat = 2 * (n / 2).toNat + 1 by omega, pow_succ, mul_assoc, mul_comm (X ^ _) X]
      · obtain ⟨r, r1, r2⟩ := ih (n / 2) out x' O (X * X) (by omega) (by omega) ho u3 hO (hX.mul hX)
        refine ⟨r, Ev.step (f := fun k => (modular_mul.f k x x p).bind fun t237 => ((modular_divide.f k t237 M p).bind fun bt240 => (modular_Pow.l0 k (n / 2) M p out bt240.2))) (fun k => ?_)
          (Ev.bind u1 (Ev.bind u2 r1)), r2.cm (.of_cq (.of_eq ?_))⟩
        · rw [modular_Pow.l0, if_pos (by omega), if_neg (by rw [i64_and1]; exact h1)]
        · rw [sq_pow, show n.toNat = 2 * (n / 2).toNat by omega]

theorem progPow_no {p : Int} (hp : ¬ Pr p) (f : List Int) (n : Int) (m : List Int) : Ev (fun k => modular_Pow.f k f n m p) ([], 50) := by
  unfold modular_Pow.f
  exact Ev.bind (progIs p) (ev_neg (by rw [isB_false hp]; decide) (Ev.now _))
theorem progPow_neg {p : Int} (hp : Pr p) (f : List Int) {n : Int} (hn : n < 0) (m : List Int) : Ev (fun k => modular_Pow.f k f n m p) ([], 1) := by
  unfold modular_Pow.f
  exact Ev.bind (progIs p) (ev_pos (isB_true hp) (ev_pos hn (Ev.now _)))
theorem progPow_zero {p : Int} (hp : Pr p) (f : List Int) {n : Int} (hn : ¬ n < 0) (m : List Int) (hm : m.length ≤ 1073741824) (hz : Cq p (cf m) 0) : Ev (fun k => modular_Pow.f k f n m p) ([], 30) := by
  unfold modular_Pow.f
  obtain ⟨M, h1, h2, h3⟩ := plain_is hp m hm
  refine Ev.bind (progIs p) (ev_pos (isB_true hp) (ev_neg hn (Ev.bind h1 (ev_pos ?_ (Ev.now _)))))
  have := (h2.len_iff hp.pos).2 (h3.trans hz); omega
theorem progPow {p : Int} (hp : Pr p) (f : List Int) (hf : f.length ≤ 1000000) {n : Int} (hn : 0 ≤ n) (m : List Int) (hm : m.length ≤ 1000000) (hz : ¬ Cq p (cf m) 0) :
    ∃ r, Ev (fun k => modular_Pow.f k f n m p) (r, 0) ∧ Rm p (cf m) (cf f ^ n.toNat) r := by
  obtain ⟨M, h1, h2, h3, h4⟩ := (plain_is hp m (by omega)).len hp.pos (cf_lt_ p m)
  have h0 : M.length ≠ 0 := fun h => hz (h3.symm.trans ((h2.len_iff hp.pos).1 h))
  obtain ⟨qa, a, a1, a2, a3, a4, a5⟩ := divide_dv hp [1] M (by simp) (by omega) h2 (by omega)
  obtain ⟨qb, b, b1, b2, b3, b4, b5⟩ := divide_dv hp f M (by omega) (by omega) h2 (by omega)
  obtain ⟨r, r1, r2⟩ := progPow_l0 hp M h2 (by omega) (by omega) n.toNat n a b (cf [1]) (cf f) hn (by omega) (QR.rm ⟨a2, a3, a4, M, h2, .refl _ _, a5⟩) (QR.rm ⟨b2, b3, b4, M, h2, .refl _ _, b5⟩) (fin_cf p _) (fin_cf p _)
  refine ⟨r, ?_, r2.pl, ?_, ?_⟩
  · unfold modular_Pow.f
    exact Ev.bind (progIs p) (ev_pos (isB_true hp) (ev_neg (by omega) (Ev.bind h1 (ev_neg (by omega) (Ev.bind a1 (Ev.bind b1 r1))))))
  · obtain ⟨q, hq, hc⟩ := r2.eq
    rw [cf_1, one_mul] at hc
    exact ⟨q, hq, hc.trans (((Cq.refl p q).mul h3).add (.refl _ _))⟩
  · obtain ⟨d, d1, d2, d3⟩ := r2.lt
    exact ⟨d, d1, d2.trans h3, d3⟩

end Go.Proofs.Ytgfefcopaeelnaa.Alg
