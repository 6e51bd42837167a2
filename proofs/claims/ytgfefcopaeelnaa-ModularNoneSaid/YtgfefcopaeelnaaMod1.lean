/- What the printed functions on numbers by a prime come to: the rest, the test of primes, the inverse, the power. -/
import Derived.Test.YtgfefcopaeelnaaAlg
import Derived.Test.YtgfefcopaeelnaaMx1
import Derived.Test.YtgfefcopaeelnaaMx6
import Derived.Test.YtgfefcopaeelnaaMx13
import Derived.Test.YtgfefcopaeelnaaMx5
import Derived.Test.YtgfefcopaeelnaaMx7
namespace Go.Proofs.Ytgfefcopaeelnaa.Alg
open Go.RowKit Go.Proofs.YtgfefcopaeelnaaW.PrintWords Go.Proofs.Ytgfefcopaeelnaa.M Sq
set_option linter.unusedVariables false
set_option linter.unusedSimpArgs false

/-- A prime of the program. -/
def Pr (p : Int) : Prop := IsP p ∧ p < 2147483648
theorem Pr.pos {p : Int} (h : Pr p) : 0 < p := h.1.pos
theorem Pr.two {p : Int} (h : Pr p) : 2 ≤ p := h.1.two
theorem Pr.isP {p : Int} (h : Pr p) : IsP p := h.1

theorem rest_f {a p : Int} (hp : 0 < p) (hb : p < 2147483648) : modular_rest.f a p = some (a % p) := by
  unfold modular_rest.f
  rw [if_neg (show ¬ p = 0 by omega)]
  have h2 := Int.emod_nonneg a (show p ≠ 0 by omega)
  have h3 := Int.emod_lt_of_pos a hp
  by_cases h : a.tmod p < 0
  · rw [if_pos h, tmod_neg hp h, w64 (by omega) (by omega)]
  · rw [if_neg h, tmod_pos hp h]
theorem prest_f {a p : Int} (hp : 0 < p) (hb : p < 2147483648) : prime_rest.f a p = some (a % p) := rest_f hp hb
theorem rrest_f {a p : Int} (hp : 0 < p) (hb : p < 2147483648) : primroseref05_Rest.f a p = some (a % p) := rest_f hp hb

/-- Is it a prime below 2^31? -/
noncomputable def isB (n : Int) : Bool := @decide (Pr n) (Classical.propDecidable _)
theorem isB_iff {n : Int} : isB n = true ↔ Pr n := by unfold isB; simp
theorem isB_true {n : Int} (h : Pr n) : isB n = true := isB_iff.2 h
theorem isB_false {n : Int} (h : ¬ Pr n) : isB n = false := by
  cases hb : isB n with
  | false => rfl
  | true => exact absurd (isB_iff.1 hb) h

theorem sq_big {n d : Int} (hn : n < 2147483648) (h : d * d ≤ n) (hd : 2 ≤ d) : d < 46341 := by
  refine Int.lt_of_not_ge fun hge => ?_
  have : 46341 * 46341 ≤ d * d := Int.mul_le_mul hge hge (by omega) (by omega)
  omega
theorem lt_sq {n d : Int} (h : d * d ≤ n) (hd : 2 ≤ d) : d < n := by
  have : 2 * d ≤ d * d := Int.mul_le_mul_of_nonneg_right hd (by omega)
  omega
theorem wsq {d : Int} (h0 : 2 ≤ d) (h : d ≤ 46400) : wrap64 (d * d) = d * d := by
  have h1 : d * d ≤ 46400 * 46400 := Int.mul_le_mul h h (by omega) (by omega)
  have h2 : 0 ≤ d * d := Int.mul_nonneg (by omega) (by omega)
  exact w64 (by omega) (by omega)

theorem refIs_l0 {n : Int} (hn : n < 2147483648) (h2 : 2 ≤ n) : ∀ (m : Nat) (d : Int), 2 ≤ d → d ≤ 46341 → 46341 - d ≤ m → (∀ e, 2 ≤ e → e < d → ¬ e ∣ n) → Ev (fun k => primroseref05_Is.l0 k n d) (isB n) := by
  intro m
  induction m with
  | zero =>
    intro d hd hd2 hm hno
    refine Ev.step (f := fun _ => some (isB n)) (fun k => ?_) (Ev.now _)
    have hsq : ¬ d * d ≤ n := fun h => by have := sq_big hn h hd; omega
    simp only [primroseref05_Is.l0]
    rw [wsq hd (by omega), if_neg hsq, isB_true ⟨isP_of_sqrt h2 fun e he hee => hno e he ?_, hn⟩]
    exact Int.lt_of_not_ge fun hge => hsq (Int.le_trans (Int.mul_le_mul hge hge (by omega) (by omega)) hee)
  | succ m ih =>
    intro d hd hd2 hm hno
    by_cases hsq : d * d ≤ n
    · have hlt := sq_big hn hsq hd
      by_cases hdv : d ∣ n
      · refine Ev.step (f := fun _ => some (isB n)) (fun k => ?_) (Ev.now _)
        simp only [primroseref05_Is.l0]
        rw [wsq hd (by omega), if_pos hsq, if_neg (by omega), if_pos ((tmod_zero (by omega)).2 hdv), isB_false fun h => h.1.2 d hd (lt_sq hsq hd) hdv]
      · refine Ev.step (f := fun k => primroseref05_Is.l0 k n (d + 1)) (fun k => ?_) (ih (d + 1) (by omega) (by omega) (by omega) fun e he hee => ?_)
        · rw [primroseref05_Is.l0, wsq hd (by omega), if_pos hsq, if_neg (by omega), if_neg (fun h => hdv ((tmod_zero (by omega)).1 h)), w64 (by omega) (by omega)]
        · rcases Int.lt_or_le e d with h | h
          · exact hno e he h
          · rw [show e = d by omega]; exact hdv
    · refine Ev.step (f := fun _ => some (isB n)) (fun k => ?_) (Ev.now _)
      simp only [primroseref05_Is.l0]
      rw [wsq hd (by omega), if_neg hsq, isB_true ⟨isP_of_sqrt h2 fun e he hee => hno e he ?_, hn⟩]
      exact Int.lt_of_not_ge fun hge => hsq (Int.le_trans (Int.mul_le_mul hge hge (by omega) (by omega)) hee)

theorem refIs (n : Int) : Ev (fun k => primroseref05_Is.f k n) (isB n) := by
  unfold primroseref05_Is.f
  by_cases h2 : n < 2
  · refine ev_pos h2 (Ev.step (f := fun _ => some (isB n)) (fun k => ?_) (Ev.now _))
    rw [primroseref05_Is.j0, if_pos rfl, isB_false fun h => by have := h.two; omega]
  · refine ev_neg h2 ?_
    by_cases hb : n ≥ 2147483648
    · refine Ev.step (f := fun _ => some (isB n)) (fun k => ?_) (Ev.now _)
      simp only [primroseref05_Is.j0]
      rw [if_pos (decide_eq_true hb), isB_false fun h => by have := h.2; omega]
    · refine Ev.step (f := fun k => primroseref05_Is.l0 k n 2) (fun k => ?_) (refIs_l0 (by omega) (by omega) 46341 2 (by omega) (by omega) (by omega) fun e he hee => by omega)
      simp only [primroseref05_Is.j0]
      rw [if_neg (by simpa using hb)]

theorem progIs_l0 {n : Int} (hn : n < 2147483648) (h2 : 2 ≤ n) (hn2 : ¬ n % 2 = 0) (hn3 : ¬ n % 3 = 0) : ∀ (m : Nat) (d : Int), 5 ≤ d → d % 6 = 5 → d ≤ 46347 → 46347 - d ≤ 6 * m → (∀ e, 2 ≤ e → e < d → ¬ e ∣ n) → Ev (fun k => prime_Is.l0 k n d) (isB n) := by
  have two : ∀ e : Int, e % 2 = 0 → ¬ e ∣ n := fun e he hd => hn2 (by
    have : (2 : Int) ∣ n := Int.dvd_trans (by omega) hd
    omega)
  have three : ∀ e : Int, e % 3 = 0 → ¬ e ∣ n := fun e he hd => hn3 (by
    have : (3 : Int) ∣ n := Int.dvd_trans (by omega) hd
    omega)
  intro m
  induction m with
  | zero =>
    intro d hd hd6 hd2 hm hno
    refine Ev.step (f := fun _ => some (isB n)) (fun k => ?_) (Ev.now _)
    have hsq : ¬ d * d ≤ n := fun h => by have := sq_big hn h (by omega); omega
    simp only [prime_Is.l0]
    rw [wsq (by omega) (by omega), if_neg hsq, isB_true ⟨isP_of_sqrt h2 fun e he hee => hno e he ?_, hn⟩]
    exact Int.lt_of_not_ge fun hge => hsq (Int.le_trans (Int.mul_le_mul hge hge (by omega) (by omega)) hee)
  | succ m ih =>
    intro d hd hd6 hd2 hm hno
    by_cases hsq : d * d ≤ n
    · have hlt := sq_big hn hsq (by omega)
      by_cases hdv : d ∣ n
      · refine Ev.step (f := fun _ => some (isB n)) (fun k => ?_) (Ev.now _)
        simp only [prime_Is.l0]
        rw [wsq (by omega) (by omega), if_pos hsq, if_neg (by omega), if_pos ((tmod_zero (by omega)).2 hdv), isB_false fun h => h.1.2 d (by omega) (lt_sq hsq (by omega)) hdv]
      · by_cases hdv2 : (d + 2) ∣ n
        · refine Ev.step (f := fun _ => some (isB n)) (fun k => ?_) (Ev.now _)
          simp only [prime_Is.l0]
          rw [wsq (by omega) (by omega), if_pos hsq, if_neg (by omega), if_neg (fun h => hdv ((tmod_zero (by omega)).1 h)), w64 (x := d + 2) (by omega) (by omega), if_neg (by omega), if_pos ((tmod_zero (by omega)).2 hdv2), isB_false fun h => h.1.2 (d + 2) (by omega) ?_ hdv2]
          have : 5 * d ≤ d * d := Int.mul_le_mul_of_nonneg_right (by omega) (by omega)
          omega
        · refine Ev.step (f := fun k => prime_Is.l0 k n (d + 6)) (fun k => ?_) (ih (d + 6) (by omega) (by omega) (by omega) (by omega) fun e he hee => ?_)
          · rw [prime_Is.l0, wsq (by omega) (by omega), if_pos hsq, if_neg (by omega), if_neg (fun h => hdv ((tmod_zero (by omega)).1 h)), w64 (x := d + 2) (by omega) (by omega), if_neg (by omega), if_neg (fun h => hdv2 ((tmod_zero (by omega)).1 h)), w64 (x := d + 6) (by omega) (by omega)]
          · rcases Int.lt_or_le e d with h | h
            · exact hno e he h
            · rcases (show e = d ∨ e = d + 2 ∨ e % 2 = 0 ∨ e % 3 = 0 by omega) with h | h | h | h
              · rw [h]; exact hdv
              · rw [h]; exact hdv2
              · exact two e h
              · exact three e h
    · refine Ev.step (f := fun _ => some (isB n)) (fun k => ?_) (Ev.now _)
      simp only [prime_Is.l0]
      rw [wsq (by omega) (by omega), if_neg hsq, isB_true ⟨isP_of_sqrt h2 fun e he hee => hno e he ?_, hn⟩]
      exact Int.lt_of_not_ge fun hge => hsq (Int.le_trans (Int.mul_le_mul hge hge (by omega) (by omega)) hee)

theorem progIs (n : Int) : Ev (fun k => prime_Is.f k n) (isB n) := by
  unfold prime_Is.f
  by_cases h2 : n < 2
  · refine ev_pos h2 (Ev.step (f := fun _ => some (isB n)) (fun k => ?_) (Ev.now _))
    rw [prime_Is.j0, if_pos rfl, isB_false fun h => by have := h.two; omega]
  · refine ev_neg h2 ?_
    by_cases hb : n ≥ 2147483648
    · refine Ev.step (f := fun _ => some (isB n)) (fun k => ?_) (Ev.now _)
      simp only [prime_Is.j0]
      rw [if_pos (decide_eq_true hb), isB_false fun h => by have := h.2; omega]
    · by_cases h4 : n < 4
      · refine Ev.step (f := fun _ => some (isB n)) (fun k => ?_) (Ev.now _)
        simp only [prime_Is.j0]
        rw [if_neg (by simpa using hb), if_pos h4, isB_true ⟨⟨by omega, fun d hd hdn hdv => ?_⟩, by omega⟩]
        obtain ⟨c, hc⟩ := hdv
        have hd2 : d = 2 := by omega
        subst hd2; omega
      · have t2 : n.tmod 2 = n % 2 := Int.tmod_eq_emod_of_nonneg (by omega)
        have t3 : n.tmod 3 = n % 3 := Int.tmod_eq_emod_of_nonneg (by omega)
        by_cases e2 : n % 2 = 0
        · refine Ev.step (f := fun k => prime_Is.j1 k n true) (fun k => ?_) (Ev.step (f := fun _ => some (isB n)) (fun k => ?_) (Ev.now _))
          · rw [prime_Is.j0, if_neg (by simpa using hb), if_neg h4, t2, if_pos e2]
          · rw [prime_Is.j1, if_pos rfl, isB_false fun h => h.1.2 2 (by omega) (by omega) (by omega)]
        · refine Ev.step (f := fun k => prime_Is.j1 k n (n % 3 == 0)) (fun k => ?_) ?_
          · rw [prime_Is.j0, if_neg (by simpa using hb), if_neg h4, t2, if_neg e2, t3]
          · by_cases e3 : n % 3 = 0
            · refine Ev.step (f := fun _ => some (isB n)) (fun k => ?_) (Ev.now _)
              rw [prime_Is.j1, if_pos (by simpa using e3), isB_false fun h => h.1.2 3 (by omega) (by omega) (by omega)]
            · refine Ev.step (f := fun k => prime_Is.l0 k n 5) (fun k => ?_) (progIs_l0 (by omega) (by omega) e2 e3 8000 5 (by omega) (by omega) (by omega) (by omega) fun e he hee hd => ?_)
              · rw [prime_Is.j1, if_neg (by simpa using e3)]
              · have hcase : e = 3 ∨ e % 2 = 0 := by omega
                rcases hcase with h | h
                · subst h; exact e3 (by omega)
                · have : (2 : Int) ∣ n := Int.dvd_trans (by omega) hd
                  omega

/-! ### inverses -/

theorem inverse_one {p a v w : Int} (hp : IsP p) (hv : Cg p (a * v) 1) (hw : Cg p (a * w) 1) (v0 : 0 ≤ v ∧ v < p) (w0 : 0 ≤ w ∧ w < p) : v = w := by
  have ha : ¬ Cg p a 0 := fun h => by
    have := (h.mul (Cg.refl p v)).symm.trans hv
    rw [Int.zero_mul] at this; exact hp.one_ne this.symm
  refine Cg.eq_of (hp.cancel ha ?_) v0.1 v0.2 w0.1 w0.2
  rw [Int.mul_comm v, Int.mul_comm w]; exact hv.trans hw.symm

theorem inverse_l0 {p a : Int} (hp : Pr p) (ha0 : 0 < a) (ha : a < p) : ∀ (m : Nat) (r s x y z X Y : Int), 0 ≤ s → s < r → s ≤ m → (z = 1 ∨ z = -1) → x = -z * X → y = z * Y → 0 ≤ X → 0 ≤ Y → r * Y + s * X = p →
    Cg p (a * x) r → Cg p (a * y) s → (∀ d : Int, d ∣ r → d ∣ s → d ∣ p ∧ d ∣ a) → r ≤ p →
    ∃ v, Ev (fun k => prime_inverse.l0 k p r s x y) v ∧ (0 ≤ v ∧ v < p) ∧ Cg p (a * v) 1 := by
  intro m
  induction m with
  | zero =>
    intro r s x y z X Y hs hsr hsm hz hx hy hX hY hsum hcx hcy hd hrp
    have hs0 : s = 0 := by omega
    subst hs0
    have hr : r = 1 := by
      obtain ⟨_, h2⟩ := hd r (Int.dvd_refl r) (Int.dvd_zero r)
      have := Int.le_of_dvd ha0 h2
      rcases Int.lt_or_le r 2 with h | h
      · omega
      · exact absurd (hd r (Int.dvd_refl r) (Int.dvd_zero r)).1 (hp.1.2 r h (by omega))
    refine ⟨x % p, Ev.step (f := fun _ => some (x % p)) (fun k => ?_) (Ev.now _), ⟨Int.emod_nonneg _ (by have := hp.pos; omega), Int.emod_lt_of_pos _ hp.pos⟩, ?_⟩
    · rw [prime_inverse.l0, if_pos rfl, prest_f hp.pos hp.2]; rfl
    · rw [← hr]; exact ((Cg.refl p a).mul (Cg.mod p x)).trans hcx
  | succ m ih =>
    intro r s x y z X Y hs hsr hsm hz hx hy hX hY hsum hcx hcy hd hrp
    by_cases hs0 : s = 0
    · exact (ih r s x y z X Y hs hsr (by omega) hz hx hy hX hY hsum hcx hcy hd hrp)
    · have hq0 : 0 ≤ r / s := Int.ediv_nonneg (by omega) hs
      have hqs : s * (r / s) + r % s = r := by have := Int.emod_add_mul_ediv r s; omega
      have hm0 := Int.emod_nonneg r hs0
      have hm1 := Int.emod_lt_of_pos r (show 0 < s by omega)
      have hqr : r / s ≤ r := Int.ediv_le_self _ (by omega)
      have hpb := hp.2
      have hqY : 0 ≤ r / s * Y := Int.mul_nonneg hq0 hY
      have hY' : s * (X + r / s * Y) + (r % s) * Y = p := by
        have : r * Y = (s * (r / s) + r % s) * Y := by rw [hqs]
        grind
      have hle : X + r / s * Y ≤ p := by
        have h1 : 0 ≤ (r % s) * Y := Int.mul_nonneg hm0 hY
        have h2 : 1 * (X + r / s * Y) ≤ s * (X + r / s * Y) := Int.mul_le_mul_of_nonneg_right (by omega) (by omega)
        omega
      have hYp : Y ≤ p := by
        have h1 : 1 * Y ≤ r * Y := Int.mul_le_mul_of_nonneg_right (by omega) hY
        have h2 : 0 ≤ s * X := Int.mul_nonneg hs hX
        omega
      have e1 : wrap64 (r.tdiv s) = r / s := by rw [Int.tdiv_eq_ediv_of_nonneg (by omega)]; exact w64 (by omega) (by omega)
      have hcomm : r / s * s = s * (r / s) := Int.mul_comm _ _
      have e2 : wrap64 (r / s * s) = s * (r / s) := by rw [hcomm]; exact w64 (by omega) (by omega)
      have e3 : wrap64 (r - s * (r / s)) = r % s := by rw [show r - s * (r / s) = r % s by omega]; exact w64 (by omega) (by omega)
      have e4 : wrap64 (r / s * y) = r / s * y := by
        rcases hz with h | h
        · have : r / s * y = r / s * Y := by rw [hy, h, Int.one_mul]
          rw [this]; exact w64 (by omega) (by omega)
        · have : r / s * y = -(r / s * Y) := by rw [hy, h]; grind
          rw [this]; exact w64 (by omega) (by omega)
      have hy' : x - r / s * y = -z * (X + r / s * Y) := by rw [hx, hy]; grind
      have e5 : wrap64 (x - r / s * y) = x - r / s * y := by
        rw [hy']
        rcases hz with h | h
        · rw [h, show (-1 : Int) * (X + r / s * Y) = -(X + r / s * Y) by omega]; exact w64 (by omega) (by omega)
        · rw [h, show (- -1 : Int) * (X + r / s * Y) = (X + r / s * Y) by omega]; exact w64 (by omega) (by omega)
      obtain ⟨v, h1, h2, h3⟩ := ih s (r % s) y (x - r / s * y) (-z) Y (X + r / s * Y) hm0 hm1 (by omega) (by omega) (by rw [hy]; grind) hy' hY (by omega) hY' hcy
        (by
          have h := hcx.sub ((Cg.refl p (r / s)).mul hcy)
          refine (Cg.of_eq ?_).trans (h.trans (.of_eq ?_))
          · grind
          · rw [Int.mul_comm (r / s) s]; omega)
        (fun d hd1 hd2 => hd d (by
          have : d ∣ s * (r / s) + r % s := Int.dvd_add (Int.dvd_mul_of_dvd_left hd1) hd2
          rwa [hqs] at this) hd1) (by omega)
      refine ⟨v, Ev.step (f := fun k => prime_inverse.l0 k p s (r % s) y (x - r / s * y)) (fun k => ?_) h1, h2, h3⟩
      rw [prime_inverse.l0, if_neg hs0, e1, e2, e3, e4, e5]

/-- The program's inverse. -/
theorem progInv {p a : Int} (hp : Pr p) (ha : ¬ Cg p a 0) : ∃ v, Ev (fun k => prime_Inv.f k a p) v ∧ (0 ≤ v ∧ v < p) ∧ Cg p (a * v) 1 := by
  have h0 := Int.emod_nonneg a (show p ≠ 0 by have := hp.pos; omega)
  have h1 := Int.emod_lt_of_pos a hp.pos
  have hne : a % p ≠ 0 := fun h => ha ((Cg.mod p a).symm.trans (.of_eq h))
  obtain ⟨v, hv, hv0, hv1⟩ := inverse_l0 hp (show 0 < a % p by omega) h1 (a % p).toNat p (a % p) 0 1 1 0 1 h0 h1 (by omega) (.inl rfl) (by omega) (by omega) (by omega) (by omega) (by omega)
    ⟨-1, by omega⟩ (.of_eq (by omega)) (fun d h1 h2 => ⟨h1, h2⟩) (Int.le_refl p)
  refine ⟨v, ?_, hv0, ((Cg.mod p a).symm.mul (Cg.refl p v)).trans hv1⟩
  unfold prime_Inv.f
  refine Ev.bind (progIs p) (ev_pos (isB_true hp) ?_)
  refine ev_some (prest_f hp.pos hp.2) ?_
  refine Ev.step (f := fun k => (prime_inverse.f k (a % p) p).bind fun t => some t) (fun k => ?_) (Ev.bind hv (Ev.now _))
  rw [prime_Inv.j0, if_neg (by simpa using hne), prest_f hp.pos hp.2]; rfl

theorem wmul {p a b : Int} (hp : Pr p) (ha : 0 ≤ a ∧ a < p) (hb : 0 ≤ b ∧ b < p) : wrap64 (a * b) = a * b := by
  have h1 : a * b ≤ 2147483648 * 2147483648 := Int.mul_le_mul (by have := hp.2; omega) (by have := hp.2; omega) hb.1 (by omega)
  have h2 : 0 ≤ a * b := Int.mul_nonneg ha.1 hb.1
  exact w64 (by omega) (by omega)

theorem md {p : Int} (hp : Pr p) (a : Int) : 0 ≤ a % p ∧ a % p < p := ⟨Int.emod_nonneg a (by have := hp.pos; omega), Int.emod_lt_of_pos a hp.pos⟩

end Go.Proofs.Ytgfefcopaeelnaa.Alg
