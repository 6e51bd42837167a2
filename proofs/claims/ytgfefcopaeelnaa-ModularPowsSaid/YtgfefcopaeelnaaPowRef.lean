/- What the document's printed power of a list by a prime comes to. -/
import Derived.Test.YtgfefcopaeelnaaPow
import Derived.Test.YtgfefcopaeelnaaRef
import Derived.Test.YtgfefcopaeelnaaMx20
namespace Go.Proofs.Ytgfefcopaeelnaa.Alg
open Go.RowKit Go.Proofs.YtgfefcopaeelnaaW.PrintWords Go.Proofs.YtgfefcopaeelnaaW.PrintMore Go.Proofs.Ytgfefcopaeelnaa.M Sq
set_option linter.unusedVariables false
set_option linter.unusedSimpArgs false

/-- A product, divided by the list m, as the document reckons it. -/
theorem ref_mul_rest {p : Int} (hp : Pr p) (m : List Int) (hm : m.length ≤ 1000000) (hz : ¬ Cq p (cf m) 0) {O X : Sq} {a b : List Int} (hal : a.length ≤ 1000000) (hbl : b.length ≤ 1000000) (ha : Cm p (cf m) O (cf a)) (hb : Cm p (cf m) X (cf b)) (hX : Fin_ p X) :
    ∃ u r, Ev (fun k => primroseref10_Mul.f k a b p) u ∧ Ev (fun k => primroseref10_Rest.f k u m p) r ∧ Rm p (cf m) (O * X) r := by
  obtain ⟨u, u1, u2, u3, u4⟩ := (refMul_is hp a b (by omega) (by omega)).len hp.pos ((cf_lt_ p a).mul' (cf_lt_ p b))
  obtain ⟨q, r, k1, k2⟩ := refRest hp u m (by omega) (by omega) hz
  exact ⟨u, r, u1, k1, k2.rm.cm ((ha.mul hb (fin_cf p a) hX).trans (.of_cq u3.symm))⟩

theorem refPowL_l0 {p : Int} (hp : Pr p) (m : List Int) (hm : m.length ≤ 1000000) (hz : ¬ Cq p (cf m) 0) : ∀ (j : Nat) (n : Int) (out f : List Int) (O X : Sq), 0 ≤ n → n ≤ j → n ≤ 9223372036854775807 → f.length ≤ 1000000 → Rm p (cf m) O out → Cm p (cf m) X (cf f) → Fin_ p O → Fin_ p X →
    ∃ r, Ev (fun k => primroseref10_Pow.l0 k f n m p out) (r, 0) ∧ Rm p (cf m) (O * X ^ n.toNat) r := by
  intro j
  induction j with
  | zero =>
    intro n out f O X hn hj hb hf ho hx hO hX
    have h0 : n = 0 := by omega
    subst h0
    refine ⟨out, Ev.step (f := fun _ => some (out, 0)) (fun k => ?_) (Ev.now _), ho.cm (.of_cq (.of_eq ?_))⟩
    · rw [primroseref10_Pow.l0, if_neg (by omega)]
    · rw [Int.toNat_zero, pow_zero, mul_one]
  | succ j ih =>
    intro n out f O X hn hj hb hf ho hx hO hX
    by_cases h0 : n = 0
    · exact ih n out f O X hn (by omega) hb hf ho hx hO hX
    · have hol := ho.len hp (cf_lt_ p m)
      obtain ⟨u, f', u1, u2, u3⟩ := ref_mul_rest hp m hm hz hf hf hx hx hX
      have hfl := u3.len hp (cf_lt_ p m)
      by_cases h1 : n % 2 = 1
      · obtain ⟨v, o', v1, v2, v3⟩ := ref_mul_rest hp m hm hz (by omega) hf ho.eq hx hX
        obtain ⟨r, r1, r2⟩ := ih (n / 2) o' f' (O * X) (X * X) (by omega) (by omega) (by omega) (by omega) v3 u3.eq (hO.mul hX) (hX.mul hX)
        refine ⟨r, Ev.step (f := fun k => (primroseref10_Mul.f k out f p).bind fun t434 => ((primroseref10_Rest.f k t434 m p).bind fun t437 => ((primroseref10_Mul.f k f f p).bind fun t440 => ((primroseref10_Rest.f k t440 m p).bind fun t443 => (primroseref10_Pow.l0 k t443 (n / 2) m p t437))))) (fun k => ?_)
          (Ev.bind v1 (Ev.bind v2 (Ev.bind u1 (Ev.bind u2 r1)))), r2.cm (.of_cq (.of_eq ?_))⟩
        · rw [primroseref10_Pow.l0, if_pos (by omega), if_pos (by rw [Int.tmod_eq_emod_of_nonneg hn]; exact h1), Int.tdiv_eq_ediv_of_nonneg hn, w64 (by omega) (by omega)]
        · rw [sq_pow, show n.toNat = 2 * (n / 2).toNat + 1 by omega, pow_succ, mul_assoc, mul_comm (X ^ _) X]
      · obtain ⟨r, r1, r2⟩ := ih (n / 2) out f' O (X * X) (by omega) (by omega) (by omega) (by omega) ho u3.eq hO (hX.mul hX)
        refine ⟨r, Ev.step (f := fun k => (primroseref10_Mul.f k f f p).bind fun t446 => ((primroseref10_Rest.f k t446 m p).bind fun t449 => (primroseref10_Pow.l0 k t449 (n / 2) m p out))) (fun k => ?_)
          (Ev.bind u1 (Ev.bind u2 r1)), r2.cm (.of_cq (.of_eq ?_))⟩
        · rw [primroseref10_Pow.l0, if_pos (by omega), if_neg (by rw [Int.tmod_eq_emod_of_nonneg hn]; exact h1), Int.tdiv_eq_ediv_of_nonneg hn, w64 (by omega) (by omega)]
        · rw [sq_pow, show n.toNat = 2 * (n / 2).toNat by omega]

theorem refPow_neg {p : Int} (hp : Pr p) (f : List Int) {n : Int} (hn : n < 0) (m : List Int) : Ev (fun k => primroseref10_Pow.f k f n m p) ([], 1) := by
  unfold primroseref10_Pow.f
  exact Ev.bind (refIs p) (ev_pos (isB_true hp) (ev_pos hn (Ev.now _)))
theorem refPow_zero {p : Int} (hp : Pr p) (f : List Int) {n : Int} (hn : ¬ n < 0) (m : List Int) (hm : m.length ≤ 1073741824) (hz : Cq p (cf m) 0) : Ev (fun k => primroseref10_Pow.f k f n m p) ([], 30) := by
  unfold primroseref10_Pow.f
  obtain ⟨M, h1, h2, h3⟩ := refPlain_is hp m hm
  refine Ev.bind (refIs p) (ev_pos (isB_true hp) (ev_neg hn (Ev.bind h1 (ev_pos ?_ (Ev.now _)))))
  have := (h2.len_iff hp.pos).2 (h3.trans hz); omega
theorem refPowL {p : Int} (hp : Pr p) (f : List Int) (hf : f.length ≤ 1000000) {n : Int} (hn : 0 ≤ n) (hb : n ≤ 9223372036854775807) (m : List Int) (hm : m.length ≤ 1000000) (hz : ¬ Cq p (cf m) 0) :
    ∃ r, Ev (fun k => primroseref10_Pow.f k f n m p) (r, 0) ∧ Rm p (cf m) (cf f ^ n.toNat) r := by
  obtain ⟨M, h1, h2, h3, h4⟩ := (refPlain_is hp m (by omega)).len hp.pos (cf_lt_ p m)
  have h0 : M.length ≠ 0 := fun h => hz (h3.symm.trans ((h2.len_iff hp.pos).1 h))
  obtain ⟨q, a, a1, a2⟩ := refRest hp ([] ++ [1]) m (by simp) (by omega) hz
  obtain ⟨r, r1, r2⟩ := refPowL_l0 hp m hm hz n.toNat n a f (cf [1]) (cf f) hn (by omega) hb hf a2.rm (.refl _ _ _) (fin_cf p _) (fin_cf p _)
  refine ⟨r, ?_, r2.cm (.of_cq (.of_eq (by rw [cf_1, one_mul])))⟩
  unfold primroseref10_Pow.f
  exact Ev.bind (refIs p) (ev_pos (isB_true hp) (ev_neg (by omega) (Ev.bind h1 (ev_neg (by omega) (ev_pos (by simp) (Ev.bind a1 r1))))))

end Go.Proofs.Ytgfefcopaeelnaa.Alg
