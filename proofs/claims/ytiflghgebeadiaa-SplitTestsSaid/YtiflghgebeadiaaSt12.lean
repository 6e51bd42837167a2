/- Part 12 of this claim's texts, written by slim.py, a program of this claim's writer, out of its own texts and of what the kit's print wrote for this seat: rows that this claim does not need are left out. -/
import Derived.Laws.BitsLemmas
import Derived.KernelRfl
import Derived.Test.YtiflghgebeadiaaSt3
import Derived.Test.YtiflghgebeadiaaSt4
import Derived.Test.YtiflghgebeadiaaSt5
import Derived.Test.YtiflghgebeadiaaSt9
import Derived.Test.YtiflghgebeadiaaSt10
import Derived.Test.YtiflghgebeadiaaSt11
section
namespace Go.Proofs.Ytiflghgebeadiaa.Alg
open Go.RowKit Go.Proofs.YtiflghgebeadiaaW.PrintWords Go.Proofs.Ytiflghgebeadiaa.M Sq
set_option linter.unusedVariables false
set_option linter.unusedSimpArgs false
def Pr (p : Int) : Prop := IsP p ∧ p < 2147483648
theorem Pr.pos {p : Int} (h : Pr p) : 0 < p := h.1.pos
theorem Pr.two {p : Int} (h : Pr p) : 2 ≤ p := h.1.two
theorem rest_f {a p : Int} (hp : 0 < p) (hb : p < 2147483648) : modular_rest.f a p = some (a % p) := by
  unfold modular_rest.f
  rw [if_neg (show ¬ p = 0 by omega)]
  have h2 := Int.emod_nonneg a (show p ≠ 0 by omega)
  have h3 := Int.emod_lt_of_pos a hp
  by_cases h : a.tmod p < 0
  · rw [if_pos h, tmod_neg hp h, w64 (by omega) (by omega)]
  · rw [if_neg h, tmod_pos hp h]
theorem prest_f {a p : Int} (hp : 0 < p) (hb : p < 2147483648) : prime_rest.f a p = some (a % p) := rest_f hp hb
theorem rrest_f {a p : Int} (hp : 0 < p) (hb : p < 2147483648) : primroseref05_Rest.f a p = some (a % p) := rest_f hp hb
noncomputable def isB (n : Int) : Bool := @decide (Pr n) (Classical.propDecidable _)
theorem isB_iff {n : Int} : isB n = true ↔ Pr n := by unfold isB; simp
theorem isB_true {n : Int} (h : Pr n) : isB n = true := isB_iff.2 h
theorem isB_false {n : Int} (h : ¬ Pr n) : isB n = false := by
  cases hb : isB n with
  | false => rfl
  | true => exact absurd (isB_iff.1 hb) h
theorem sq_big {n d : Int} (hn : n < 2147483648) (h : d * d ≤ n) (hd : 2 ≤ d) : d < 46341 := by
  refine Int.lt_of_not_ge fun hge => ?_
  have : 46341 * 46341 ≤ d * d := Int.mul_le_mul hge hge (by omega) (by omega)
  omega
theorem lt_sq {n d : Int} (h : d * d ≤ n) (hd : 2 ≤ d) : d < n := by
  have : 2 * d ≤ d * d := Int.mul_le_mul_of_nonneg_right hd (by omega)
  omega
theorem wsq {d : Int} (h0 : 2 ≤ d) (h : d ≤ 46400) : wrap64 (d * d) = d * d := by
  have h1 : d * d ≤ 46400 * 46400 := Int.mul_le_mul h h (by omega) (by omega)
  have h2 : 0 ≤ d * d := Int.mul_nonneg (by omega) (by omega)
  exact w64 (by omega) (by omega)
theorem refIs_l0 {n : Int} (hn : n < 2147483648) (h2 : 2 ≤ n) : ∀ (m : Nat) (d : Int), 2 ≤ d → d ≤ 46341 → 46341 - d ≤ m → (∀ e, 2 ≤ e → e < d → ¬ e ∣ n) → Ev (fun k => primroseref05_Is.l0 k n d) (isB n) := by
  intro m
  induction m with
  | zero =>
    intro d hd hd2 hm hno
    refine Ev.step (f := fun _ => some (isB n)) (fun k => ?_) (Ev.now _)
    have hsq : ¬ d * d ≤ n := fun h => by have := sq_big hn h hd; omega
    simp only [primroseref05_Is.l0]
    rw [wsq hd (by omega), if_neg hsq, isB_true ⟨isP_of_sqrt h2 fun e he hee => hno e he ?_, hn⟩]
    exact Int.lt_of_not_ge fun hge => hsq (Int.le_trans (Int.mul_le_mul hge hge (by omega) (by omega)) hee)
  | succ m ih =>
    intro d hd hd2 hm hno
    by_cases hsq : d * d ≤ n
    · have hlt := sq_big hn hsq hd
      by_cases hdv : d ∣ n
      · refine Ev.step (f := fun _ => some (isB n)) (fun k => ?_) (Ev.now _)
        simp only [primroseref05_Is.l0]
        rw [wsq hd (by omega), if_pos hsq, if_neg (by omega), if_pos ((tmod_zero (by omega)).2 hdv), isB_false fun h => h.1.2 d hd (lt_sq hsq hd) hdv]
      · refine Ev.step (f := fun k => primroseref05_Is.l0 k n (d + 1)) (fun k => ?_) (ih (d + 1) (by omega) (by omega) (by omega) fun e he hee => ?_)
        · rw [primroseref05_Is.l0, wsq hd (by omega), if_pos hsq, if_neg (by omega), if_neg (fun h => hdv ((tmod_zero (by omega)).1 h)), w64 (by omega) (by omega)]
        · rcases Int.lt_or_le e d with h | h
          · exact hno e he h
          · rw [show e = d by omega]; exact hdv
    · refine Ev.step (f := fun _ => some (isB n)) (fun k => ?_) (Ev.now _)
      simp only [primroseref05_Is.l0]
      rw [wsq hd (by omega), if_neg hsq, isB_true ⟨isP_of_sqrt h2 fun e he hee => hno e he ?_, hn⟩]
      exact Int.lt_of_not_ge fun hge => hsq (Int.le_trans (Int.mul_le_mul hge hge (by omega) (by omega)) hee)
theorem refIs (n : Int) : Ev (fun k => primroseref05_Is.f k n) (isB n) := by
  unfold primroseref05_Is.f
  by_cases h2 : n < 2
  · refine ev_pos h2 (Ev.step (f := fun _ => some (isB n)) (fun k => ?_) (Ev.now _))
    rw [primroseref05_Is.j0, if_pos rfl, isB_false fun h => by have := h.two; omega]
  · refine ev_neg h2 ?_
    by_cases hb : n ≥ 2147483648
    · refine Ev.step (f := fun _ => some (isB n)) (fun k => ?_) (Ev.now _)
      simp only [primroseref05_Is.j0]
      rw [if_pos (decide_eq_true hb), isB_false fun h => by have := h.2; omega]
    · refine Ev.step (f := fun k => primroseref05_Is.l0 k n 2) (fun k => ?_) (refIs_l0 (by omega) (by omega) 46341 2 (by omega) (by omega) (by omega) fun e he hee => by omega)
      simp only [primroseref05_Is.j0]
      rw [if_neg (by simpa using hb)]
theorem progIs_l0 {n : Int} (hn : n < 2147483648) (h2 : 2 ≤ n) (hn2 : ¬ n % 2 = 0) (hn3 : ¬ n % 3 = 0) : ∀ (m : Nat) (d : Int), 5 ≤ d → d % 6 = 5 → d ≤ 46347 → 46347 - d ≤ 6 * m → (∀ e, 2 ≤ e → e < d → ¬ e ∣ n) → Ev (fun k => prime_Is.l0 k n d) (isB n) := by
  have two : ∀ e : Int, e % 2 = 0 → ¬ e ∣ n := fun e he hd => hn2 (by
    have : (2 : Int) ∣ n := Int.dvd_trans (by omega) hd
    omega)
  have three : ∀ e : Int, e % 3 = 0 → ¬ e ∣ n := fun e he hd => hn3 (by
    have : (3 : Int) ∣ n := Int.dvd_trans (by omega) hd
    omega)
  intro m
  induction m with
  | zero =>
    intro d hd hd6 hd2 hm hno
    refine Ev.step (f := fun _ => some (isB n)) (fun k => ?_) (Ev.now _)
    have hsq : ¬ d * d ≤ n := fun h => by have := sq_big hn h (by omega); omega
    simp only [prime_Is.l0]
    rw [wsq (by omega) (by omega), if_neg hsq, isB_true ⟨isP_of_sqrt h2 fun e he hee => hno e he ?_, hn⟩]
    exact Int.lt_of_not_ge fun hge => hsq (Int.le_trans (Int.mul_le_mul hge hge (by omega) (by omega)) hee)
  | succ m ih =>
    intro d hd hd6 hd2 hm hno
    by_cases hsq : d * d ≤ n
    · have hlt := sq_big hn hsq (by omega)
      by_cases hdv : d ∣ n
      · refine Ev.step (f := fun _ => some (isB n)) (fun k => ?_) (Ev.now _)
        simp only [prime_Is.l0]
        rw [wsq (by omega) (by omega), if_pos hsq, if_neg (by omega), if_pos ((tmod_zero (by omega)).2 hdv), isB_false fun h => h.1.2 d (by omega) (lt_sq hsq (by omega)) hdv]
      · by_cases hdv2 : (d + 2) ∣ n
        · refine Ev.step (f := fun _ => some (isB n)) (fun k => ?_) (Ev.now _)
          simp only [prime_Is.l0]
          rw [wsq (by omega) (by omega), if_pos hsq, if_neg (by omega), if_neg (fun h => hdv ((tmod_zero (by omega)).1 h)), w64 (x := d + 2) (by omega) (by omega), if_neg (by omega), if_pos ((tmod_zero (by omega)).2 hdv2), isB_false fun h => h.1.2 (d + 2) (by omega) ?_ hdv2]
          have : 5 * d ≤ d * d := Int.mul_le_mul_of_nonneg_right (by omega) (by omega)
          omega
        · refine Ev.step (f := fun k => prime_Is.l0 k n (d + 6)) (fun k => ?_) (ih (d + 6) (by omega) (by omega) (by omega) (by omega) fun e he hee => ?_)
          · rw [prime_Is.l0, wsq (by omega) (by omega), if_pos hsq, if_neg (by omega), if_neg (fun h => hdv ((tmod_zero (by omega)).1 h)), w64 (x := d + 2) (by omega) (by omega), if_neg (by omega), if_neg (fun h => hdv2 ((tmod_zero (by omega)).1 h)), w64 (x := d + 6) (by omega) (by omega)]
          · rcases Int.lt_or_le e d with h | h
            · exact hno e he h
            · rcases (show e = d ∨ e = d + 2 ∨ e % 2 = 0 ∨ e % 3 = 0 by omega) with h | h | h | h
              · rw [h]; exact hdv
              · rw [h]; exact hdv2
              · exact two e h
              · exact three e h
    · refine Ev.step (f := fun _ => some (isB n)) (fun k => ?_) (Ev.now _)
      simp only [prime_Is.l0]
      rw [wsq (by omega) (by omega), if_neg hsq, isB_true ⟨isP_of_sqrt h2 fun e he hee => hno e he ?_, hn⟩]
      exact Int.lt_of_not_ge fun hge => hsq (Int.le_trans (Int.mul_le_mul hge hge (by omega) (by omega)) hee)
theorem progIs (n : Int) : Ev (fun k => prime_Is.f k n) (isB n) := by
  unfold prime_Is.f
  by_cases h2 : n < 2
  · refine ev_pos h2 (Ev.step (f := fun _ => some (isB n)) (fun k => ?_) (Ev.now _))
    rw [prime_Is.j0, if_pos rfl, isB_false fun h => by have := h.two; omega]
  · refine ev_neg h2 ?_
    by_cases hb : n ≥ 2147483648
    · refine Ev.step (f := fun _ => some (isB n)) (fun k => ?_) (Ev.now _)
      simp only [prime_Is.j0]
      rw [if_pos (decide_eq_true hb), isB_false fun h => by have := h.2; omega]
    · by_cases h4 : n < 4
      · refine Ev.step (f := fun _ => some (isB n)) (fun k => ?_) (Ev.now _)
        simp only [prime_Is.j0]
        rw [if_neg (by simpa using hb), if_pos h4, isB_true ⟨⟨by omega, fun d hd hdn hdv => ?_⟩, by omega⟩]
        obtain ⟨c, hc⟩ := hdv
        have hd2 : d = 2 := by omega
        subst hd2; omega
      · have t2 : n.tmod 2 = n % 2 := Int.tmod_eq_emod_of_nonneg (by omega)
        have t3 : n.tmod 3 = n % 3 := Int.tmod_eq_emod_of_nonneg (by omega)
        by_cases e2 : n % 2 = 0
        · refine Ev.step (f := fun k => prime_Is.j1 k n true) (fun k => ?_) (Ev.step (f := fun _ => some (isB n)) (fun k => ?_) (Ev.now _))
          · rw [prime_Is.j0, if_neg (by simpa using hb), if_neg h4, t2, if_pos e2]
          · rw [prime_Is.j1, if_pos rfl, isB_false fun h => h.1.2 2 (by omega) (by omega) (by omega)]
        · refine Ev.step (f := fun k => prime_Is.j1 k n (n % 3 == 0)) (fun k => ?_) ?_
          · rw [prime_Is.j0, if_neg (by simpa using hb), if_neg h4, t2, if_neg e2, t3]
          · by_cases e3 : n % 3 = 0
            · refine Ev.step (f := fun _ => some (isB n)) (fun k => ?_) (Ev.now _)
              rw [prime_Is.j1, if_pos (by simpa using e3), isB_false fun h => h.1.2 3 (by omega) (by omega) (by omega)]
            · refine Ev.step (f := fun k => prime_Is.l0 k n 5) (fun k => ?_) (progIs_l0 (by omega) (by omega) e2 e3 8000 5 (by omega) (by omega) (by omega) (by omega) fun e he hee hd => ?_)
              · rw [prime_Is.j1, if_neg (by simpa using e3)]
              · have hcase : e = 3 ∨ e % 2 = 0 := by omega
                rcases hcase with h | h
                · subst h; exact e3 (by omega)
                · have : (2 : Int) ∣ n := Int.dvd_trans (by omega) hd
                  omega
theorem inverse_l0 {p a : Int} (hp : Pr p) (ha0 : 0 < a) (ha : a < p) : ∀ (m : Nat) (r s x y z X Y : Int), 0 ≤ s → s < r → s ≤ m → (z = 1 ∨ z = -1) → x = -z * X → y = z * Y → 0 ≤ X → 0 ≤ Y → r * Y + s * X = p →
    Cg p (a * x) r → Cg p (a * y) s → (∀ d : Int, d ∣ r → d ∣ s → d ∣ p ∧ d ∣ a) → r ≤ p →
    ∃ v, Ev (fun k => prime_inverse.l0 k p r s x y) v ∧ (0 ≤ v ∧ v < p) ∧ Cg p (a * v) 1 := by
  intro m
  induction m with
  | zero =>
    intro r s x y z X Y hs hsr hsm hz hx hy hX hY hsum hcx hcy hd hrp
    have hs0 : s = 0 := by omega
    subst hs0
    have hr : r = 1 := by
      obtain ⟨_, h2⟩ := hd r (Int.dvd_refl r) (Int.dvd_zero r)
      have := Int.le_of_dvd ha0 h2
      rcases Int.lt_or_le r 2 with h | h
      · omega
      · exact absurd (hd r (Int.dvd_refl r) (Int.dvd_zero r)).1 (hp.1.2 r h (by omega))
    refine ⟨x % p, Ev.step (f := fun _ => some (x % p)) (fun k => ?_) (Ev.now _), ⟨Int.emod_nonneg _ (by have := hp.pos; omega), Int.emod_lt_of_pos _ hp.pos⟩, ?_⟩
    · rw [prime_inverse.l0, if_pos rfl, prest_f hp.pos hp.2]; rfl
    · rw [← hr]; exact ((Cg.refl p a).mul (Cg.mod p x)).trans hcx
  | succ m ih =>
    intro r s x y z X Y hs hsr hsm hz hx hy hX hY hsum hcx hcy hd hrp
    by_cases hs0 : s = 0
    · exact (ih r s x y z X Y hs hsr (by omega) hz hx hy hX hY hsum hcx hcy hd hrp)
    · have hq0 : 0 ≤ r / s := Int.ediv_nonneg (by omega) hs
      have hqs : s * (r / s) + r % s = r := by have := Int.emod_add_mul_ediv r s; omega
      have hm0 := Int.emod_nonneg r hs0
      have hm1 := Int.emod_lt_of_pos r (show 0 < s by omega)
      have hqr : r / s ≤ r := Int.ediv_le_self _ (by omega)
      have hpb := hp.2
      have hqY : 0 ≤ r / s * Y := Int.mul_nonneg hq0 hY
      have hY' : s * (X + r / s * Y) + (r % s) * Y = p := by
        have : r * Y = (s * (r / s) + r % s) * Y := by rw [hqs]
        grind
      have hle : X + r / s * Y ≤ p := by
        have h1 : 0 ≤ (r % s) * Y := Int.mul_nonneg hm0 hY
        have h2 : 1 * (X + r / s * Y) ≤ s * (X + r / s * Y) := Int.mul_le_mul_of_nonneg_right (by omega) (by omega)
        omega
      have hYp : Y ≤ p := by
        have h1 : 1 * Y ≤ r * Y := Int.mul_le_mul_of_nonneg_right (by omega) hY
        have h2 : 0 ≤ s * X := Int.mul_nonneg hs hX
        omega
      have e1 : wrap64 (r.tdiv s) = r / s := by rw [Int.tdiv_eq_ediv_of_nonneg (by omega)]; exact w64 (by omega) (by omega)
      have hcomm : r / s * s = s * (r / s) := Int.mul_comm _ _
      have e2 : wrap64 (r / s * s) = s * (r / s) := by rw [hcomm]; exact w64 (by omega) (by omega)
      have e3 : wrap64 (r - s * (r / s)) = r % s := by rw [show r - s * (r / s) = r % s by omega]; exact w64 (by omega) (by omega)
      have e4 : wrap64 (r / s * y) = r / s * y := by
        rcases hz with h | h
        · have : r / s * y = r / s * Y := by rw [hy, h, Int.one_mul]
          rw [this]; exact w64 (by omega) (by omega)
        · have : r / s * y = -(r / s * Y) := by rw [hy, h]; grind
          rw [this]; exact w64 (by omega) (by omega)
      have hy' : x - r / s * y = -z * (X + r / s * Y) := by rw [hx, hy]; grind
      have e5 : wrap64 (x - r / s * y) = x - r / s * y := by
        rw [hy']
        rcases hz with h | h
        · rw [h, show (-1 : Int) * (X + r / s * Y) = -(X + r / s * Y) by omega]; exact w64 (by omega) (by omega)
        · rw [h, show (- -1 : Int) * (X + r / s * Y) = (X + r / s * Y) by omega]; exact w64 (by omega) (by omega)
      obtain ⟨v, h1, h2, h3⟩ := ih s (r % s) y (x - r / s * y) (-z) Y (X + r / s * Y) hm0 hm1 (by omega) (by omega) (by rw [hy]; grind) hy' hY (by omega) hY' hcy
        (by
          have h := hcx.sub ((Cg.refl p (r / s)).mul hcy)
          refine (Cg.of_eq ?_).trans (h.trans (.of_eq ?_))
          · grind
          · rw [Int.mul_comm (r / s) s]; omega)
        (fun d hd1 hd2 => hd d (by
          have : d ∣ s * (r / s) + r % s := Int.dvd_add (Int.dvd_mul_of_dvd_left hd1) hd2
          rwa [hqs] at this) hd1) (by omega)
      refine ⟨v, Ev.step (f := fun k => prime_inverse.l0 k p s (r % s) y (x - r / s * y)) (fun k => ?_) h1, h2, h3⟩
      rw [prime_inverse.l0, if_neg hs0, e1, e2, e3, e4, e5]
theorem progInv {p a : Int} (hp : Pr p) (ha : ¬ Cg p a 0) : ∃ v, Ev (fun k => prime_Inv.f k a p) v ∧ (0 ≤ v ∧ v < p) ∧ Cg p (a * v) 1 := by
  have h0 := Int.emod_nonneg a (show p ≠ 0 by have := hp.pos; omega)
  have h1 := Int.emod_lt_of_pos a hp.pos
  have hne : a % p ≠ 0 := fun h => ha ((Cg.mod p a).symm.trans (.of_eq h))
  obtain ⟨v, hv, hv0, hv1⟩ := inverse_l0 hp (show 0 < a % p by omega) h1 (a % p).toNat p (a % p) 0 1 1 0 1 h0 h1 (by omega) (.inl rfl) (by omega) (by omega) (by omega) (by omega) (by omega)
    ⟨-1, by omega⟩ (.of_eq (by omega)) (fun d h1 h2 => ⟨h1, h2⟩) (Int.le_refl p)
  refine ⟨v, ?_, hv0, ((Cg.mod p a).symm.mul (Cg.refl p v)).trans hv1⟩
  unfold prime_Inv.f
  refine Ev.bind (progIs p) (ev_pos (isB_true hp) ?_)
  refine ev_some (prest_f hp.pos hp.2) ?_
  refine Ev.step (f := fun k => (prime_inverse.f k (a % p) p).bind fun t => some t) (fun k => ?_) (Ev.bind hv (Ev.now _))
  rw [prime_Inv.j0, if_neg (by simpa using hne), prest_f hp.pos hp.2]; rfl
theorem wmul {p a b : Int} (hp : Pr p) (ha : 0 ≤ a ∧ a < p) (hb : 0 ≤ b ∧ b < p) : wrap64 (a * b) = a * b := by
  have h1 : a * b ≤ 2147483648 * 2147483648 := Int.mul_le_mul (by have := hp.2; omega) (by have := hp.2; omega) hb.1 (by omega)
  have h2 : 0 ≤ a * b := Int.mul_nonneg ha.1 hb.1
  exact w64 (by omega) (by omega)
theorem md {p : Int} (hp : Pr p) (a : Int) : 0 ≤ a % p ∧ a % p < p := ⟨Int.emod_nonneg a (by have := hp.pos; omega), Int.emod_lt_of_pos a hp.pos⟩
end Go.Proofs.Ytiflghgebeadiaa.Alg
end
section
namespace Go.Proofs.Ytiflghgebeadiaa.Alg
open Go.RowKit Go.Proofs.YtiflghgebeadiaaW.PrintWords Go.Proofs.YtiflghgebeadiaaW.PrintMore Go.Proofs.Ytiflghgebeadiaa.M Sq
set_option linter.unusedVariables false
set_option linter.unusedSimpArgs false
theorem wsucc {i : Nat} (h : i ≤ 4611686018427387904) : wrap64 ((i : Int) + 1) = ((i + 1 : Nat) : Int) := by rw [w64 (by omega) (by omega)]; omega
theorem wn {x : Int} {n : Nat} (h : x = n) (hn : n ≤ 4611686018427387904) : wrap64 x = n := by rw [w64 (by omega) (by omega)]; exact h
theorem md_nn {a p : Int} (ha : 0 ≤ a) : a.tmod p = a % p := Int.tmod_eq_emod_of_nonneg ha
theorem Rs.set {p : Int} {l : List Int} (h : Rs p l) {i : Nat} {v : Int} (hv : 0 ≤ v ∧ v < p) : Rs p (l.set i v) := fun a ha => by
  rcases List.mem_or_eq_of_mem_set ha with h1 | h1
  · exact h a h1
  · rw [h1]; exact hv
theorem Rs.rep {p : Int} (hp : 0 < p) (n : Nat) : Rs p (List.replicate n 0) := fun a ha => by rw [List.eq_of_mem_replicate ha]; omega
def xn : Nat → Sq → Sq
  | 0, a => a
  | n + 1, a => Sq.x (xn n a)
theorem xn_at (n : Nat) (a : Sq) : ∀ j, xn n a j = if j < n then 0 else a (j - n) := by
  induction n with
  | zero => intro j; simp [xn]
  | succ n ih =>
    intro j
    cases j with
    | zero => simp [xn]
    | succ j => rw [xn, x_succ, ih]; by_cases h : j < n <;> simp [h] <;> omega
theorem xn_mul (n : Nat) (a b : Sq) : xn n a * b = xn n (a * b) := by
  induction n with
  | zero => rfl
  | succ n ih => rw [xn, x_mul, ih, xn]
theorem xn_cq {p : Int} {a b : Sq} (n : Nat) (h : Cq p a b) : Cq p (xn n a) (xn n b) := fun j => by
  rw [xn_at, xn_at]; split
  · exact .refl _ _
  · exact h _
theorem cf_take_all {l : List Int} : cf (l.take l.length) = cf l := by rw [List.take_length]
theorem cf_take_succ (l : List Int) (i : Nat) : cf (l.take (i + 1)) = cf (l.take i) + xn i (sm (cf l i) 1) := by
  ext j
  rw [Sq.add_at, cf_take_at, cf_take_at, xn_at]
  rcases Nat.lt_trichotomy j i with h | h | h
  · rw [if_pos (by omega), if_pos h, if_pos h]; omega
  · subst h; simp [one_at]
  · rw [if_neg (by omega), if_neg (by omega), if_neg (by omega)]; simp [one_at, show ¬ j - i = 0 by omega]
theorem trim_l0 (l : List Int) (hl : l.length ≤ 1099511627776) : ∀ (n : Nat), n ≤ l.length → (∀ i, n ≤ i → cf l i = 0) →
    ∃ m, m ≤ n ∧ Ev (fun k => modular_trim.l0 k l (n : Int)) (l.take m) ∧ (∀ i, m ≤ i → cf l i = 0) ∧ (0 < m → cf l (m - 1) ≠ 0) := by
  intro n
  induction n with
  | zero =>
    intro hn hz
    refine ⟨0, Nat.le_refl _, Ev.step (f := fun _ => some (l.take 0)) (fun k => ?_) (Ev.now _), hz, fun h => by omega⟩
    rw [modular_trim.l0, if_neg (by omega), if_pos (by omega), if_pos (by omega)]; rfl
  | succ n ih =>
    intro hn hz
    have e : wrap64 (((n + 1 : Nat) : Int) - 1) = (n : Int) := by rw [w64 (by omega) (by omega)]; omega
    by_cases h0 : cf l n = 0
    · obtain ⟨m, hm, hev, hz', hlast⟩ := ih (by omega) (fun i hi => by
        rcases Nat.lt_or_ge n i with h | h
        · exact hz i (by omega)
        · rw [show i = n by omega]; exact h0)
      refine ⟨m, by omega, Ev.step (f := fun k => modular_trim.l0 k l (n : Int)) (fun k => ?_) hev, hz', hlast⟩
      rw [modular_trim.l0, e, if_pos (by omega), if_pos (by omega), if_pos (by omega), rd_cf, if_pos h0]
    · refine ⟨n + 1, Nat.le_refl _, Ev.step (f := fun _ => some (l.take (n + 1))) (fun k => ?_) (Ev.now _), hz, fun _ => h0⟩
      rw [modular_trim.l0, e, if_pos (by omega), if_pos (by omega), if_pos (by omega), rd_cf, if_neg h0, if_pos (by omega), if_pos (by omega)]; rfl
theorem trim_f (l : List Int) (hl : l.length ≤ 1099511627776) : ∃ r, Ev (fun k => modular_trim.f k l) r ∧ cf r = cf l ∧ r.length ≤ l.length ∧ ∀ p, Rs p l → PL p r := by
  obtain ⟨m, hm, hev, hz, hlast⟩ := trim_l0 l hl l.length (Nat.le_refl _) (fun i hi => cf_big hi)
  refine ⟨l.take m, hev, cf_take hz, by rw [List.length_take]; omega, fun p h => ⟨fun a ha => h a (List.mem_of_mem_take ha), fun h => ?_⟩⟩
  rw [List.length_take, Nat.min_eq_left hm] at h ⊢
  rw [cf_take hz]; exact hlast h
theorem trim_is {p : Int} {l : List Int} {s : Sq} (hl : l.length ≤ 1099511627776) (h : Rs p l) (hs : Cq p (cf l) s) : Is (fun k => modular_trim.f k l) p s := by
  obtain ⟨r, h1, h2, h3, h4⟩ := trim_f l hl
  exact ⟨r, h1, h4 p h, by rw [h2]; exact hs⟩
theorem Is.bind {g : Nat → Option (List Int)} {f : Nat → List Int → Option (List Int)} {p : Int} {s t : Sq} (h : Is g p s) (k : ∀ r, PL p r → Cq p (cf r) s → Is (fun n => f n r) p t) : Is (fun n => (g n).bind (f n)) p t := by
  obtain ⟨r, h1, h2, h3⟩ := h
  obtain ⟨r', k1, k2, k3⟩ := k r h2 h3
  exact ⟨r', Ev.bind h1 k1, k2, k3⟩
theorem Is.now {p : Int} {s : Sq} {r : List Int} (h : PL p r) (hs : Cq p (cf r) s) : Is (fun _ => some r) p s := ⟨r, Ev.now r, h, hs⟩
theorem Is.step {g f : Nat → Option (List Int)} {p : Int} {s : Sq} (h : ∀ k, g (k + 1) = f k) (hf : Is f p s) : Is g p s := by
  obtain ⟨r, h1, h2, h3⟩ := hf; exact ⟨r, Ev.step h h1, h2, h3⟩
theorem Is.congr {g f : Nat → Option (List Int)} {p : Int} {s : Sq} (h : ∀ k, g k = f k) (hf : Is f p s) : Is g p s := by
  obtain ⟨r, h1, h2, h3⟩ := hf; exact ⟨r, Ev.congr h h1, h2, h3⟩
theorem Is.some_ {α : Type} {o : Option α} {f : Nat → α → Option (List Int)} {a : α} {p : Int} {s : Sq} (h : o = some a) (k : Is (fun n => f n a) p s) : Is (fun n => o.bind (f n)) p s := by
  subst h; exact k
theorem Is.evb {α : Type} {g : Nat → Option α} {f : Nat → α → Option (List Int)} {a : α} {p : Int} {s : Sq} (h : Ev g a) (k : Is (fun n => f n a) p s) : Is (fun n => (g n).bind (f n)) p s := by
  obtain ⟨r, k1, k2, k3⟩ := k; exact ⟨r, Ev.bind h k1, k2, k3⟩
theorem Is.pos {c : Prop} [Decidable c] {A B : Nat → Option (List Int)} {p : Int} {s : Sq} (hc : c) (h : Is A p s) : Is (fun k => if c then A k else B k) p s := by
  obtain ⟨r, k1, k2, k3⟩ := h; exact ⟨r, ev_pos hc k1, k2, k3⟩
theorem Is.neg {c : Prop} [Decidable c] {A B : Nat → Option (List Int)} {p : Int} {s : Sq} (hc : ¬ c) (h : Is B p s) : Is (fun k => if c then A k else B k) p s := by
  obtain ⟨r, k1, k2, k3⟩ := h; exact ⟨r, ev_neg hc k1, k2, k3⟩
theorem plain_l0 {p : Int} (hp : Pr p) (l : List Int) (hl : l.length ≤ 1073741824) : ∀ (d : Nat) (out : List Int) (i : Nat), l.length - i = d → i ≤ l.length → out.length = l.length →
    (∀ j, cf out j = if j < i then cf l j % p else 0) → Is (fun k => modular_plain.l0 k p out l (l.length : Int) (i : Int)) p (cf l) := by
  intro d
  induction d with
  | zero =>
    intro out i hd hi ho hc
    have hil : i = l.length := by omega
    refine Is.step (f := fun k => (modular_trim.f k out).bind fun t => some t) (fun k => ?_) (Is.bind (trim_is (p := p) (s := cf l) (by omega) ?_ ?_) (fun r h1 h2 => Is.now h1 h2))
    · rw [modular_plain.l0, if_neg (by omega)]
    · refine mem_cf (P := fun a => 0 ≤ a ∧ a < p) fun n hn => ?_
      rw [hc]; split
      · exact md hp _
      · exact ⟨by omega, hp.pos⟩
    · intro j; rw [hc]; split
      · exact Cg.mod p _
      · rw [cf_big (by omega)]; exact .refl _ _
  | succ d ih =>
    intro out i hd hi ho hc
    refine Is.step (f := fun k => modular_plain.l0 k p (out.set i (cf l i % p)) l (l.length : Int) ((i + 1 : Nat) : Int)) (fun k => ?_) (ih _ (i + 1) (by omega) (by omega) (by simpa using ho) fun j => ?_)
    · rw [modular_plain.l0, if_pos (by omega), if_pos (by omega), if_pos (by omega), rd_cf, rest_f hp.pos hp.2, Option.bind_some, if_pos (by omega), wsucc (by omega)]; rfl
    · rw [cf_set, hc]
      by_cases h1 : j = i
      · subst h1; rw [if_pos ⟨rfl, by omega⟩, if_pos (by omega)]
      · rw [if_neg (fun h => h1 h.1)]
        by_cases h2 : j < i
        · rw [if_pos h2, if_pos (by omega)]
        · rw [if_neg h2, if_neg (by omega)]
theorem plain_is {p : Int} (hp : Pr p) (l : List Int) (hl : l.length ≤ 1073741824) : Is (fun k => modular_plain.f k l p) p (cf l) := by
  unfold modular_plain.f
  refine Is.pos (by omega) (Is.pos (by simp; omega) ?_)
  refine plain_l0 hp l hl _ _ 0 rfl (by omega) (by simp) fun j => ?_
  rw [if_neg (by omega)]
  have := congrFun (cf_replicate (l.length : Int).toNat) j
  exact this
theorem zip_sub_l0 {p : Int} {G : Int → Int → Int} (hG : ∀ x y, modular_sub_1.f x y p = some (G x y)) (f g : List Int) (hf : f.length ≤ 1073741824) (hg : g.length ≤ 1073741824) (m : Nat) (hm : m = max f.length g.length) : ∀ (d : Nat) (out : List Int) (i : Nat), m - i = d → i ≤ m → out.length = m →
    (∀ j, cf out j = if j < i then G (cf f j) (cf g j) else 0) → ∃ r, Ev (fun k => modular_zip_int_sub_1.l0 k f g p out (m : Int) (i : Int)) r ∧ r.length = m ∧ ∀ j, cf r j = if j < m then G (cf f j) (cf g j) else 0 := by
  intro d
  induction d with
  | zero =>
    intro out i hd hi ho hc
    refine ⟨out, Ev.step (f := fun _ => some out) (fun k => ?_) (Ev.now _), ho, fun j => ?_⟩
    · rw [modular_zip_int_sub_1.l0, if_neg (by omega)]
    · rw [hc, show i = m by omega]
  | succ d ih =>
    intro out i hd hi ho hc
    obtain ⟨r, h1, h2, h3⟩ := ih (out.set i (G (cf f i) (cf g i))) (i + 1) (by omega) (by omega) (by simpa using ho) fun j => by
      rw [cf_set, hc]
      by_cases h1 : j = i
      · subst h1; rw [if_pos ⟨rfl, by omega⟩, if_pos (by omega)]
      · rw [if_neg (fun h => h1 h.1)]
        by_cases h2 : j < i
        · rw [if_pos h2, if_pos (by omega)]
        · rw [if_neg h2, if_neg (by omega)]
    refine ⟨r, Ev.step (f := fun k => modular_zip_int_sub_1.l0 k f g p (out.set i (G (cf f i) (cf g i))) (m : Int) ((i + 1 : Nat) : Int)) (fun k => ?_) h1, h2, h3⟩
    rw [modular_zip_int_sub_1.l0, if_pos (by omega)]
    have hw := wsucc (i := i) (by omega)
    by_cases hif : i < f.length
    · rw [if_pos (by omega), if_pos (by omega)]
      by_cases hig : i < g.length
      · rw [if_pos (by omega), rd_cf, rd_cf, hG, Option.bind_some, if_pos (by omega), hw]; rfl
      · rw [if_neg (by omega), rd_cf, hG, Option.bind_some, if_pos (by omega), hw, cf_big (l := g) (n := i) (by omega)]; rfl
    · rw [if_neg (by omega)]
      by_cases hig : i < g.length
      · rw [if_pos (by omega), if_pos (by omega), rd_cf, hG, Option.bind_some, if_pos (by omega), hw, cf_big (l := f) (n := i) (by omega)]; rfl
      · omega
theorem zip_sub_f {p : Int} {G : Int → Int → Int} (hG : ∀ x y, modular_sub_1.f x y p = some (G x y)) (f g : List Int) (hf : f.length ≤ 1073741824) (hg : g.length ≤ 1073741824) :
    ∃ r, Ev (fun k => modular_zip_int_sub_1.f k f g p) r ∧ r.length = max f.length g.length ∧ ∀ j, cf r j = if j < max f.length g.length then G (cf f j) (cf g j) else 0 := by
  have hmx : mx (f.length : Int) (g.length : Int) = ((max f.length g.length : Nat) : Int) := by unfold mx; omega
  obtain ⟨r, h1, h2⟩ := zip_sub_l0 hG f g hf hg (max f.length g.length) rfl _ (List.replicate (max f.length g.length) 0) 0 rfl (by omega) (by simp) fun j => by
    rw [if_neg (by omega)]; exact congrFun (cf_replicate _) j
  refine ⟨r, ?_, h2⟩
  unfold modular_zip_int_sub_1.f
  rw [hmx]
  refine ev_pos (by omega) (ev_pos (by omega) (ev_some rfl ?_))
  rw [Int.toNat_natCast, List.length_replicate]
  exact h1
theorem zip_scale_l0 {p c : Int} {G : Int → Int → Int} (hG : ∀ x y, modular_scale_1.f x y p c = some (G x y)) (f g : List Int) (hf : f.length ≤ 1073741824) (hg : g.length ≤ 1073741824) (m : Nat) (hm : m = max f.length g.length) : ∀ (d : Nat) (out : List Int) (i : Nat), m - i = d → i ≤ m → out.length = m →
    (∀ j, cf out j = if j < i then G (cf f j) (cf g j) else 0) → ∃ r, Ev (fun k => modular_zip_int_scale_1.l0 k f g p c out (m : Int) (i : Int)) r ∧ r.length = m ∧ ∀ j, cf r j = if j < m then G (cf f j) (cf g j) else 0 := by
  intro d
  induction d with
  | zero =>
    intro out i hd hi ho hc
    refine ⟨out, Ev.step (f := fun _ => some out) (fun k => ?_) (Ev.now _), ho, fun j => ?_⟩
    · rw [modular_zip_int_scale_1.l0, if_neg (by omega)]
    · rw [hc, show i = m by omega]
  | succ d ih =>
    intro out i hd hi ho hc
    obtain ⟨r, h1, h2, h3⟩ := ih (out.set i (G (cf f i) (cf g i))) (i + 1) (by omega) (by omega) (by simpa using ho) fun j => by
      rw [cf_set, hc]
      by_cases h1 : j = i
      · subst h1; rw [if_pos ⟨rfl, by omega⟩, if_pos (by omega)]
      · rw [if_neg (fun h => h1 h.1)]
        by_cases h2 : j < i
        · rw [if_pos h2, if_pos (by omega)]
        · rw [if_neg h2, if_neg (by omega)]
    refine ⟨r, Ev.step (f := fun k => modular_zip_int_scale_1.l0 k f g p c (out.set i (G (cf f i) (cf g i))) (m : Int) ((i + 1 : Nat) : Int)) (fun k => ?_) h1, h2, h3⟩
    rw [modular_zip_int_scale_1.l0, if_pos (by omega)]
    have hw := wsucc (i := i) (by omega)
    by_cases hif : i < f.length
    · rw [if_pos (by omega), if_pos (by omega)]
      by_cases hig : i < g.length
      · rw [if_pos (by omega), rd_cf, rd_cf, hG, Option.bind_some, if_pos (by omega), hw]; rfl
      · rw [if_neg (by omega), rd_cf, hG, Option.bind_some, if_pos (by omega), hw, cf_big (l := g) (n := i) (by omega)]; rfl
    · rw [if_neg (by omega)]
      by_cases hig : i < g.length
      · rw [if_pos (by omega), if_pos (by omega), rd_cf, hG, Option.bind_some, if_pos (by omega), hw, cf_big (l := f) (n := i) (by omega)]; rfl
      · omega
theorem zip_scale_f {p c : Int} {G : Int → Int → Int} (hG : ∀ x y, modular_scale_1.f x y p c = some (G x y)) (f g : List Int) (hf : f.length ≤ 1073741824) (hg : g.length ≤ 1073741824) :
    ∃ r, Ev (fun k => modular_zip_int_scale_1.f k f g p c) r ∧ r.length = max f.length g.length ∧ ∀ j, cf r j = if j < max f.length g.length then G (cf f j) (cf g j) else 0 := by
  have hmx : mx (f.length : Int) (g.length : Int) = ((max f.length g.length : Nat) : Int) := by unfold mx; omega
  obtain ⟨r, h1, h2⟩ := zip_scale_l0 hG f g hf hg (max f.length g.length) rfl _ (List.replicate (max f.length g.length) 0) 0 rfl (by omega) (by simp) fun j => by
    rw [if_neg (by omega)]; exact congrFun (cf_replicate _) j
  refine ⟨r, ?_, h2⟩
  unfold modular_zip_int_scale_1.f
  rw [hmx]
  refine ev_pos (by omega) (ev_pos (by omega) (ev_some rfl ?_))
  rw [Int.toNat_natCast, List.length_replicate]
  exact h1
theorem sub1_f {p : Int} (hp : Pr p) (x y : Int) : modular_sub_1.f x y p = some ((x % p - y % p) % p) := by
  have h1 := md hp x; have h2 := md hp y; have := hp.2; have := hp.pos
  unfold modular_sub_1.f
  rw [rest_f hp.pos hp.2, rest_f hp.pos hp.2, Option.bind_some, Option.bind_some, w64 (by omega) (by omega), rest_f hp.pos hp.2]; rfl
theorem scale1_f {p c : Int} (hp : Pr p) (hc : 0 ≤ c ∧ c < p) (x y : Int) : modular_scale_1.f x y p c = some ((x % p * c) % p) := by
  have h1 := md hp x; have := hp.pos
  unfold modular_scale_1.f
  rw [rest_f hp.pos hp.2, Option.bind_some, if_neg (by omega), wmul hp h1 hc, md_nn (Int.mul_nonneg h1.1 hc.1)]
theorem wadd {p a b c : Int} (hp : Pr p) (ha : 0 ≤ a ∧ a < p) (hb : 0 ≤ b ∧ b < p) (hc : 0 ≤ c ∧ c < p) : wrap64 (c + wrap64 (a * b)) = c + a * b ∧ 0 ≤ c + a * b := by
  rw [wmul hp ha hb]
  have h1 : a * b ≤ 2147483648 * 2147483648 := Int.mul_le_mul (by have := hp.2; omega) (by have := hp.2; omega) hb.1 (by omega)
  have h2 : 0 ≤ a * b := Int.mul_nonneg ha.1 hb.1
  have := hp.2
  exact ⟨w64 (by omega) (by omega), by omega⟩
theorem wsub {p a b c : Int} (hp : Pr p) (ha : 0 ≤ a ∧ a < p) (hb : 0 ≤ b ∧ b < p) (hc : 0 ≤ c ∧ c < p) : wrap64 (c - (wrap64 (a * b)).tmod p) = c - a * b % p := by
  rw [wmul hp ha hb, md_nn (Int.mul_nonneg ha.1 hb.1)]
  have h1 := md hp (a * b)
  have := hp.2
  exact w64 (by omega) (by omega)
theorem wplus {i j : Nat} (h : i + j ≤ 4611686018427387904) : wrap64 ((i : Int) + (j : Int)) = ((i + j : Nat) : Int) := by rw [w64 (by omega) (by omega)]; omega
theorem wix1 {q i k : Nat} (h : k + 1 + i = q) (hq : q ≤ 4611686018427387904) : wrap64 (wrap64 ((q : Int) - 1) - (i : Int)) = (k : Int) := by
  rw [w64 (x := (q : Int) - 1) (by omega) (by omega), w64 (by omega) (by omega)]; omega
theorem wix2 {k n : Nat} (hn : 0 < n) (h : k + n ≤ 4611686018427387904) : wrap64 (wrap64 ((k : Int) + (n : Int)) - 1) = ((k + (n - 1) : Nat) : Int) := by
  rw [w64 (x := (k : Int) + (n : Int)) (by omega) (by omega), w64 (by omega) (by omega)]; omega
theorem wmx {a b : Nat} (ha : a ≤ 1073741824) (hb : b ≤ 1073741824) : mx 0 (wrap64 (wrap64 ((a : Int) - (b : Int)) + 1)) = ((a + 1 - b : Nat) : Int) := by
  rw [w64 (x := (a : Int) - (b : Int)) (by omega) (by omega), w64 (by omega) (by omega)]; unfold mx; omega
theorem wpred {n : Nat} (h0 : 0 < n) (h : n ≤ 4611686018427387904) : wrap64 ((n : Int) - 1) = ((n - 1 : Nat) : Int) := by rw [w64 (by omega) (by omega)]; omega
end Go.Proofs.Ytiflghgebeadiaa.Alg
end
section
namespace Go.Proofs.Ytiflghgebeadiaa.Alg
open Go.RowKit Go.Proofs.YtiflghgebeadiaaW.PrintWords Go.Proofs.YtiflghgebeadiaaW.PrintMore Go.Proofs.Ytiflghgebeadiaa.M Sq
set_option linter.unusedVariables false
set_option linter.unusedSimpArgs false
theorem mul_l1 {p : Int} (hp : Pr p) (f g : List Int) (hf : f.length ≤ 1073741824) (hg : g.length ≤ 1073741824) (hF : Rs p f) (hG : Rs p g) (i : Nat) (hi : i < f.length) (L : Nat) (hL : L + 1 = f.length + g.length) (hg0 : 0 < g.length)
    (h : ∀ out', out'.length = L → Rs p out' → Cq p (cf out') (cf (f.take (i + 1)) * cf g) → Is (fun k => modular_mul.l0 k g p out' f (f.length : Int) ((i + 1 : Nat) : Int)) p (cf f * cf g)) :
    ∀ (d : Nat) (out : List Int) (j : Nat), g.length - j = d → j ≤ g.length → out.length = L → Rs p out → Cq p (cf out) (cf (f.take i) * cf g + xn i (sm (cf f i) (cf (g.take j)))) →
    Is (fun k => modular_mul.l1 k g p out (i : Int) (cf f i) f (f.length : Int) (i : Int) g (g.length : Int) (j : Int)) p (cf f * cf g) := by
  intro d
  induction d with
  | zero =>
    intro out j hd hj ho hr hc
    refine Is.step (f := fun k => modular_mul.l0 k g p out f (f.length : Int) ((i + 1 : Nat) : Int)) (fun k => ?_) (h out ho hr (hc.trans (.of_eq ?_)))
    · rw [modular_mul.l1, if_neg (by omega), wsucc (by omega)]
    · rw [show j = g.length by omega, cf_take_all, cf_take_succ, add_mul, xn_mul, sm_mul, one_mul]
  | succ d ih =>
    intro out j hd hj ho hr hc
    have hfi := hF.at hp.pos i; have hgj := hG.at hp.pos j; have hoi := hr.at hp.pos (i + j)
    refine Is.step (f := fun k => modular_mul.l1 k g p (out.set (i + j) ((cf out (i + j) + cf f i * cf g j) % p)) (i : Int) (cf f i) f (f.length : Int) (i : Int) g (g.length : Int) ((j + 1 : Nat) : Int)) (fun k => ?_)
      (ih _ (j + 1) (by omega) (by omega) (by simpa using ho) (hr.set (md hp _)) fun n => ?_)
    · rw [modular_mul.l1, if_pos (by omega), if_pos (by omega), if_pos (by omega), wplus (by omega), if_pos (by omega), if_pos (by omega), if_neg (by have := hp.pos; omega), rd_cf, rd_cf, (wadd hp hfi hgj hoi).1, md_nn (wadd hp hfi hgj hoi).2, wsucc (by omega)]; rfl
    · rw [cf_set, Sq.add_at, xn_at, sm_at, cf_take_succ g j, Sq.add_at, xn_at]
      have hcn := hc n
      rw [Sq.add_at, xn_at, sm_at] at hcn
      by_cases hn : n = i + j
      · subst hn
        rw [if_pos ⟨rfl, by omega⟩]
        refine (Cg.mod p _).trans ?_
        rw [if_neg (by omega)] at hcn ⊢
        rw [show i + j - i = j by omega] at hcn ⊢
        rw [if_neg (by omega), Nat.sub_self, sm_at, one_at, if_pos rfl, Int.mul_one, Int.mul_add]
        have := hcn.add (Cg.refl p (cf f i * cf g j))
        exact this.trans (.of_eq (by omega))
      · rw [if_neg (fun h => hn h.1)]
        refine hcn.trans (.of_eq ?_)
        by_cases hni : n < i
        · rw [if_pos hni, if_pos hni]
        · rw [if_neg hni, if_neg hni]
          have hz : (if n - i < j then (0 : Int) else sm (cf g j) 1 (n - i - j)) = 0 := by
            split
            · rfl
            · rw [sm_at, one_at, if_neg (by omega), Int.mul_zero]
          rw [hz]; simp
theorem mul_l0 {p : Int} (hp : Pr p) (f g : List Int) (hf : f.length ≤ 1073741824) (hg : g.length ≤ 1073741824) (hF : Rs p f) (hG : Rs p g) (L : Nat) (hL : L + 1 = f.length + g.length) (hg0 : 0 < g.length) :
    ∀ (d : Nat) (out : List Int) (i : Nat), f.length - i = d → i ≤ f.length → out.length = L → Rs p out → Cq p (cf out) (cf (f.take i) * cf g) →
    Is (fun k => modular_mul.l0 k g p out f (f.length : Int) (i : Int)) p (cf f * cf g) := by
  intro d
  induction d with
  | zero =>
    intro out i hd hi ho hr hc
    refine Is.step (f := fun k => (modular_trim.f k out).bind fun t => some t) (fun k => ?_) (Is.bind (trim_is (p := p) (s := cf f * cf g) (by omega) hr ?_) (fun r h1 h2 => Is.now h1 h2))
    · rw [modular_mul.l0, if_neg (by omega)]
    · rw [show i = f.length by omega, cf_take_all] at hc; exact hc
  | succ d ih =>
    intro out i hd hi ho hr hc
    refine Is.step (f := fun k => modular_mul.l1 k g p out (i : Int) (cf f i) f (f.length : Int) (i : Int) g (g.length : Int) ((0 : Nat) : Int)) (fun k => ?_)
      (mul_l1 hp f g hf hg hF hG i (by omega) L hL hg0 (fun out' h1 h2 h3 => ih out' (i + 1) (by omega) (by omega) h1 h2 h3) _ out 0 rfl (by omega) ho hr (hc.trans (.of_eq ?_)))
    · rw [modular_mul.l0, if_pos (by omega), if_pos (by omega), if_pos (by omega), rd_cf]; rfl
    · ext n; rw [Sq.add_at, xn_at, sm_at, cf_take_at]; simp
theorem mul_is {p : Int} (hp : Pr p) (f g : List Int) (hf : f.length ≤ 1073741824) (hg : g.length ≤ 1073741824) (hF : Rs p f) (hG : Rs p g) : Is (fun k => modular_mul.f k f g p) p (cf f * cf g) := by
  unfold modular_mul.f
  by_cases h1 : f.length = 0
  · refine Is.pos (by omega) (Is.step (f := fun _ => some []) (fun k => ?_) (Is.now (.nil p) ?_))
    · rw [modular_mul.j0, if_pos rfl]
    · rw [List.length_eq_zero_iff.1 h1, cf_nil, zero_mul]; exact .refl _ _
  · refine Is.neg (by omega) ?_
    by_cases h2 : g.length = 0
    · refine Is.step (f := fun _ => some []) (fun k => ?_) (Is.now (.nil p) ?_)
      · rw [modular_mul.j0, if_pos (beq_iff_eq.2 (by omega))]
      · rw [List.length_eq_zero_iff.1 h2, cf_nil, mul_zero]; exact .refl _ _
    · refine Is.step (f := fun k => modular_mul.l0 k g p (List.replicate (f.length + (g.length - 1)) 0) f (f.length : Int) ((0 : Nat) : Int)) (fun k => ?_)
        (mul_l0 hp f g hf hg hF hG (f.length + (g.length - 1)) (by omega) (by omega) _ _ 0 rfl (by omega) (by simp) (.rep hp.pos _) ?_)
      · rw [modular_mul.j0, if_neg (by rw [beq_iff_eq]; omega), wix2 (by omega) (by omega), if_pos (by omega), if_pos (by omega), Int.toNat_natCast]; rfl
      · rw [cf_replicate, List.take_zero, cf_nil, zero_mul]; exact .refl _ _
theorem divide_l1 {p : Int} (hp : Pr p) (g : List Int) (hg : g.length ≤ 1073741824) (hG : Rs p g) (q : List Int) (inv c : Int) (hc : 0 ≤ c ∧ c < p) (kk i m L : Nat) (him : i < 1073741824) (hL : L ≤ 1073741824) (hk : kk + g.length ≤ L) (R0 : Sq) (P : List Int × List Int → Prop)
    (h : ∀ r', r'.length = L → Rs p r' → Cq p (cf r') (R0 - xn kk (sm c (cf g))) → ∃ z, Ev (fun k => modular_divide.l0 k g p q r' (g.length : Int) inv (m : Int) ((i + 1 : Nat) : Int)) z ∧ P z) :
    ∀ (d : Nat) (r : List Int) (j : Nat), g.length - j = d → j ≤ g.length → r.length = L → Rs p r → Cq p (cf r) (R0 - xn kk (sm c (cf (g.take j)))) →
    ∃ z, Ev (fun k => modular_divide.l1 k g p q r (g.length : Int) inv (kk : Int) c (m : Int) (i : Int) g (g.length : Int) (j : Int)) z ∧ P z := by
  intro d
  induction d with
  | zero =>
    intro r j hd hj hr hR hcq
    rw [show j = g.length by omega, cf_take_all] at hcq
    obtain ⟨z, h1, h2⟩ := h r hr hR hcq
    refine ⟨z, Ev.step (f := fun k => modular_divide.l0 k g p q r (g.length : Int) inv (m : Int) ((i + 1 : Nat) : Int)) (fun k => ?_) h1, h2⟩
    rw [modular_divide.l1, if_neg (by omega), wsucc (by omega)]
  | succ d ih =>
    intro r j hd hj hr hR hcq
    have hgj := hG.at hp.pos j; have hri := hR.at hp.pos (kk + j); have hpb := hp.2; have hpp := hp.pos
    obtain ⟨z, h1, h2⟩ := ih (r.set (kk + j) ((cf r (kk + j) - c * cf g j % p) % p)) (j + 1) (by omega) (by omega) (by simpa using hr) (hR.set (md hp _)) (fun n => by
      rw [cf_set, sub_at, xn_at, sm_at, cf_take_succ g j, Sq.add_at, xn_at]
      have hcn := hcq n
      rw [sub_at, xn_at, sm_at] at hcn
      by_cases hn : n = kk + j
      · subst hn
        rw [if_pos ⟨rfl, by omega⟩]
        refine (Cg.mod p _).trans ?_
        rw [if_neg (by omega)] at hcn ⊢
        rw [show kk + j - kk = j by omega] at hcn ⊢
        rw [if_neg (by omega), Nat.sub_self, sm_at, one_at, if_pos rfl, Int.mul_one, Int.mul_add]
        have := hcn.sub (Cg.mod p (c * cf g j))
        exact this.trans (.of_eq (by omega))
      · rw [if_neg (fun h => hn h.1)]
        refine hcn.trans (.of_eq ?_)
        by_cases hni : n < kk
        · rw [if_pos hni, if_pos hni]
        · rw [if_neg hni, if_neg hni]
          have hz : (if n - kk < j then (0 : Int) else sm (cf g j) 1 (n - kk - j)) = 0 := by
            split
            · rfl
            · rw [sm_at, one_at, if_neg (by omega), Int.mul_zero]
          rw [hz]; simp)
    refine ⟨z, Ev.step (f := fun k => modular_divide.l1 k g p q (r.set (kk + j) ((cf r (kk + j) - c * cf g j % p) % p)) (g.length : Int) inv (kk : Int) c (m : Int) (i : Int) g (g.length : Int) ((j + 1 : Nat) : Int)) (fun k => ?_) h1, h2⟩
    rw [modular_divide.l1, if_pos (by omega), if_pos (by omega), if_pos (by omega), wplus (by omega), if_pos (by omega), if_pos (by omega), if_neg (by omega), rd_cf, rd_cf, wsub hp hc hgj hri, rest_f hp.pos hp.2, Option.bind_some, wsucc (by omega)]; rfl
theorem divide_l0 {p : Int} (hp : Pr p) (F : Sq) (g : List Int) (hg : g.length ≤ 1073741824) (hG : PL p g) (hg0 : 0 < g.length) (inv : Int) (hi0 : 0 ≤ inv ∧ inv < p) (hinv : Cg p (cf g (g.length - 1) * inv) 1) (m L : Nat) (hm : m ≤ 1073741824) (hLb : L ≤ 1073741824)
    (hL : (m = 0 ∧ L < g.length) ∨ (0 < m ∧ L + 1 = m + g.length)) :
    ∀ (d : Nat) (q r : List Int) (i : Nat), m - i = d → i ≤ m → q.length = m → r.length = L → Rs p q → Rs p r → (∀ j, j < m - i → cf q j = 0) → (∀ j, m - i + g.length ≤ j + 1 → cf r j = 0) → Cq p F (cf q * cf g + cf r) →
    ∃ z, Ev (fun k => modular_divide.l0 k g p q r (g.length : Int) inv (m : Int) (i : Int)) z ∧ (PL p z.1 ∧ PL p z.2 ∧ Cq p F (cf z.1 * cf g + cf z.2) ∧ z.2.length < g.length) := by
  intro d
  induction d with
  | zero =>
    intro q r i hd hi hq hr hQ hR hzq hzr hcq
    obtain ⟨q', a1, a2, a3, a4⟩ := trim_f q (by omega)
    obtain ⟨r', b1, b2, b3, b4⟩ := trim_f r (by omega)
    refine ⟨(q', r'), Ev.step (f := fun k => (modular_trim.f k q).bind fun t => (modular_trim.f k r).bind fun u => some (t, u)) (fun k => ?_) (Ev.bind a1 (Ev.bind b1 (Ev.now _))), a4 p hQ, b4 p hR, by rw [a2, b2]; exact hcq, ?_⟩
    · rw [modular_divide.l0, if_neg (by omega)]
    · have := (b4 p hR).le_of (n := g.length - 1) hp.pos (.refl p _) (fun j hj => by rw [b2, hzr j (by omega)]; exact .refl _ _)
      show r'.length < g.length
      omega
  | succ d ih =>
    intro q r i hd hi hq hr hQ hR hzq hzr hcq
    have hL' : L + 1 = m + g.length := by rcases hL with h | h <;> omega
    have hpp := hp.pos
    obtain ⟨kk, hkk⟩ : ∃ kk : Nat, kk + 1 + i = m := ⟨m - 1 - i, by omega⟩
    have htop := hR.at hp.pos (kk + (g.length - 1))
    have hc := md hp (cf r (kk + (g.length - 1)) * inv)
    obtain ⟨z, h1, h2⟩ := divide_l1 hp g hg hG.1 (q.set kk (cf r (kk + (g.length - 1)) * inv % p)) inv _ hc kk i m L (by omega) (by omega) (by omega) (cf r)
      (fun z => PL p z.1 ∧ PL p z.2 ∧ Cq p F (cf z.1 * cf g + cf z.2) ∧ z.2.length < g.length) (fun r' hr' hR' hcr => by
        have hex : ∀ j, m - (i + 1) + g.length ≤ j + 1 → cf r' j = 0 := fun j hj => by
          have hb := hR'.at hp.pos j
          refine Cg.eq_of (p := p) ?_ hb.1 hb.2 (by omega) hp.pos
          refine (hcr j).trans ?_
          rw [sub_at, xn_at]
          by_cases hjt : j = kk + (g.length - 1)
          · subst hjt
            rw [if_neg (by omega), sm_at, show kk + (g.length - 1) - kk = g.length - 1 by omega]
            refine ((Cg.refl p _).sub ((Cg.mod p _).mul (Cg.refl p _))).trans ?_
            refine (((Cg.refl p _).sub ((Cg.of_eq ?_).trans ((Cg.refl p (cf r (kk + (g.length - 1)))).mul hinv)))).trans (.of_eq (by omega))
            grind
          · rw [hzr j (by omega)]
            split
            · exact .of_eq (by omega)
            · rw [sm_at, cf_big (l := g) (n := j - kk) (by omega)]; exact .of_eq (by omega)
        refine ih (q.set kk (cf r (kk + (g.length - 1)) * inv % p)) r' (i + 1) (by omega) (by omega) (by simpa using hq) hr' (hQ.set hc) hR' (fun j hj => ?_) hex ?_
        · rw [cf_set, if_neg (fun h => by omega)]; exact hzq j (by omega)
        · have hqe : cf (q.set kk (cf r (kk + (g.length - 1)) * inv % p)) = cf q + xn kk (sm (cf r (kk + (g.length - 1)) * inv % p) 1) := by
            ext j
            rw [cf_set, Sq.add_at, xn_at]
            by_cases hj : j = kk
            · subst hj; rw [if_pos ⟨rfl, by omega⟩, hzq j (by omega), if_neg (by omega), Nat.sub_self, sm_at, one_at, if_pos rfl]; omega
            · rw [if_neg (fun h => hj h.1)]
              split
              · omega
              · rw [sm_at, one_at, if_neg (by omega)]; omega
          rw [hqe, add_mul, xn_mul, sm_mul, one_mul]
          refine hcq.trans (((Cq.refl p _).add hcr.symm).symm.trans (.of_eq ?_) |>.symm)
          ext j; simp; omega) _ r 0 rfl (by omega) hr hR (.of_eq (by ext n; rw [sub_at, xn_at, sm_at, cf_take_at]; simp))
    refine ⟨z, Ev.step (f := fun k => modular_divide.l1 k g p (q.set kk (cf r (kk + (g.length - 1)) * inv % p)) r (g.length : Int) inv (kk : Int) (cf r (kk + (g.length - 1)) * inv % p) (m : Int) (i : Int) g (g.length : Int) ((0 : Nat) : Int)) (fun k => ?_) h1, h2⟩
    rw [modular_divide.l0, wix1 (q := q.length) (k := kk) (by omega) (by omega), wix2 (by omega) (by omega), if_pos (by omega), if_pos (by omega), if_pos (by omega), if_neg (by omega), if_pos (by omega), if_pos (by omega), rd_cf, wmul hp htop hi0, md_nn (Int.mul_nonneg htop.1 hi0.1)]; rfl
def Dv (g : Nat → Option (List Int × List Int)) (p : Int) (F : Sq) (d : List Int) : Prop :=
  ∃ q r, Ev g (q, r) ∧ PL p q ∧ PL p r ∧ Cq p F (cf q * cf d + cf r) ∧ r.length < d.length
theorem divide_dv {p : Int} (hp : Pr p) (f g : List Int) (hf : f.length ≤ 1073741824) (hg : g.length ≤ 1073741824) (hG : PL p g) (hg0 : 0 < g.length) : Dv (fun k => modular_divide.f k f g p) p (cf f) g := by
  obtain ⟨F, a1, a2, a3⟩ := plain_is hp f hf
  have hFl : F.length ≤ f.length := a2.le_of hp.pos a3 (cf_lt_ p f)
  obtain ⟨inv, b1, b2, b3⟩ := progInv hp (hG.last hp.pos hg0)
  obtain ⟨z, c1, c2, c3, c4, c5⟩ := divide_l0 hp (cf f) g hg hG hg0 inv b2 b3 (F.length + 1 - g.length) F.length (by omega) (by omega) (by omega) _ (List.replicate (F.length + 1 - g.length) 0) F 0 rfl (by omega) (by simp) rfl (.rep hp.pos _) a2.1
    (fun j hj => congrFun (cf_replicate _) j) (fun j hj => cf_big (by omega)) (by rw [cf_replicate, zero_mul, zero_add]; exact a3.symm)
  refine ⟨z.1, z.2, ?_, c2, c3, c4, c5⟩
  unfold modular_divide.f
  refine Ev.bind a1 ?_
  rw [wmx (by omega) (by omega), wpred (by omega) (by omega)]
  refine ev_pos (by omega) (ev_pos (by omega) (ev_some rfl (ev_pos (by omega) (ev_pos (by omega) ?_))))
  rw [Int.toNat_natCast, List.length_replicate, rd_cf]
  exact Ev.bind b1 c1
end Go.Proofs.Ytiflghgebeadiaa.Alg
end
section
namespace Go.Proofs.Ytiflghgebeadiaa.Alg
open Go.RowKit Go.Proofs.YtiflghgebeadiaaW.PrintWords Go.Proofs.YtiflghgebeadiaaW.PrintMore Go.Proofs.Ytiflghgebeadiaa.M Sq
set_option linter.unusedVariables false
set_option linter.unusedSimpArgs false
theorem Is.len {g : Nat → Option (List Int)} {p : Int} {s : Sq} (hp : 0 < p) {n : Nat} (h : Is g p s) (hl : Lt p s n) : ∃ r, Ev g r ∧ PL p r ∧ Cq p (cf r) s ∧ r.length ≤ n := by
  obtain ⟨r, h1, h2, h3⟩ := h; exact ⟨r, h1, h2, h3, h2.le_of hp h3 hl⟩
theorem Is.bind_len {g : Nat → Option (List Int)} {f : Nat → List Int → Option (List Int)} {p : Int} {s t : Sq} (hp : 0 < p) {n : Nat} (hl : Lt p s n) (h : Is g p s) (k : ∀ r, PL p r → Cq p (cf r) s → r.length ≤ n → Is (fun n => f n r) p t) : Is (fun n => (g n).bind (f n)) p t := by
  obtain ⟨r, h1, h2, h3, h4⟩ := h.len hp hl
  obtain ⟨r', k1, k2, k3⟩ := k r h2 h3 h4
  exact ⟨r', Ev.bind h1 k1, k2, k3⟩
theorem wrs {p a : Int} (hp : Pr p) (ha : 0 ≤ a ∧ a < p) : wrap64 a = a := by have := hp.2; exact w64 (by omega) (by omega)
theorem wrs2 {p a b : Int} (hp : Pr p) (ha : 0 ≤ a ∧ a < p) (hb : 0 ≤ b ∧ b < p) : wrap64 (a + b) = a + b := by have := hp.2; exact w64 (by omega) (by omega)
theorem Sq.Lt.mul' {p : Int} {a b : Sq} {m n : Nat} (h : Lt p a m) (k : Lt p b n) : Lt p (a * b) (m + n + 1) := Lt.mul (h.mono (by omega)) (k.mono (by omega))
structure QR (p : Int) (F G : Sq) (q r : List Int) : Prop where
  pq : PL p q
  pr : PL p r
  eq : Cq p F (cf q * G + cf r)
  lt : ∃ d : List Int, PL p d ∧ Cq p (cf d) G ∧ r.length < d.length
theorem QR.one {p : Int} (hp : Pr p) {F G : Sq} {q r q' r' : List Int} (h : QR p F G q r) (k : QR p F G q' r') : q = q' ∧ r = r' := by
  obtain ⟨d, hd, hdc, hdl⟩ := h.lt
  obtain ⟨d', hd', hdc', hdl'⟩ := k.lt
  have hdd : d' = d := hd'.ext hd hp.pos (hdc'.trans hdc.symm)
  subst hdd
  obtain ⟨h1, h2⟩ := divide_one (m := max q.length q'.length) (n := d'.length - 1) hp.1 (q := cf q) (q' := cf q') (r := cf r) (r' := cf r') (g := G)
    ((cf_lt_ p q).mono (by omega)) ((cf_lt_ p q').mono (by omega)) ((cf_lt_ p r).mono (by omega)) ((cf_lt_ p r').mono (by omega))
    (fun hc => hd.last hp.pos (by omega) ((hdc _).trans hc)) (((cf_lt_ p d').cq hdc.symm).mono (by omega)) (h.eq.symm.trans k.eq)
  exact ⟨h.pq.ext k.pq hp.pos h1, h.pr.ext k.pr hp.pos h2⟩
theorem QR.cq {p : Int} {F G F' G' : Sq} {q r : List Int} (h : QR p F G q r) (hF : Cq p F F') (hG : Cq p G G') : QR p F' G' q r :=
  ⟨h.pq, h.pr, hF.symm.trans (h.eq.trans (((Cq.refl p _).mul hG).add (.refl _ _))), by obtain ⟨d, h1, h2, h3⟩ := h.lt; exact ⟨d, h1, h2.trans hG, h3⟩⟩
theorem QR.len {p : Int} (hp : Pr p) {F G : Sq} {q r : List Int} (h : QR p F G q r) {n m : Nat} (hF : Lt p F n) (hG : Lt p G m) : q.length ≤ max n m ∧ r.length ≤ m := by
  obtain ⟨d, hd, hdc, hdl⟩ := h.lt
  have hdm : d.length ≤ m := hd.le_of hp.pos hdc hG
  refine ⟨Nat.le_of_not_lt fun hlt => ?_, by omega⟩
  have ht := (top (p := p) (a := cf q) (b := G) (m := q.length - 1) (e := d.length - 1) (fun i hi => cf_lt_ p q i (by omega)) (fun j hj => (hdc j).symm.trans (cf_lt_ p d j (by omega)))).1
  have h0 := h.eq (q.length - 1 + (d.length - 1))
  rw [Sq.add_at, cf_big (l := r) (by omega), Int.add_zero] at h0
  rcases hp.1.cg_mul (ht.symm.trans (h0.symm.trans (hF _ (by omega)))) with hc | hc
  · exact h.pq.last hp.pos (by omega) hc
  · exact hd.last hp.pos (by omega) ((hdc _).trans hc)
theorem prog_dm {p : Int} (hp : Pr p) (f g : List Int) (hf : f.length ≤ 1073741824) (hg : g.length ≤ 1073741824) (hz : ¬ Cq p (cf g) 0) : ∃ q r, Ev (fun k => modular_DivMod.f k f g p) (q, r, 0) ∧ QR p (cf f) (cf g) q r := by
  obtain ⟨G, h1, h2, h3, h4⟩ := (plain_is hp g hg).len hp.pos (cf_lt_ p g)
  have h0 : G.length ≠ 0 := fun h => hz (h3.symm.trans ((h2.len_iff hp.pos).1 h))
  obtain ⟨q, r, k1, k2, k3, k4, k5⟩ := divide_dv hp f G hf (by omega) h2 (by omega)
  refine ⟨q, r, ?_, k2, k3, k4.trans (((Cq.refl p _).mul h3).add (.refl _ _)), G, h2, h3, k5⟩
  unfold modular_DivMod.f
  exact Ev.bind (progIs p) (ev_pos (isB_true hp) (Ev.bind h1 (ev_neg (by omega) (Ev.bind k1 (Ev.now _)))))
end Go.Proofs.Ytiflghgebeadiaa.Alg
end
section
namespace Go.Proofs.Ytiflghgebeadiaa.Alg
open Go.RowKit Go.Proofs.YtiflghgebeadiaaW.PrintWords Go.Proofs.YtiflghgebeadiaaW.PrintMore Go.Proofs.Ytiflghgebeadiaa.M Sq
set_option linter.unusedVariables false
set_option linter.unusedSimpArgs false
theorem Is.same {g h : Nat → Option (List Int)} {p : Int} {s t : Sq} (hp : 0 < p) {n : Nat} (hn : n ≤ 1073741824) (hg : Is g p s) (hh : Is h p t) (e : Cq p s t) (hl : Lt p s n) : ∃ r, Ev g r ∧ Ev h r ∧ PL p r ∧ Cq p (cf r) s ∧ r.length ≤ n := by
  obtain ⟨r, h1, h2, h3, h4⟩ := hg.len hp hl
  obtain ⟨r', k1, k2, k3⟩ := hh
  have : r' = r := k2.ext h2 hp (k3.trans (e.symm.trans h3.symm))
  subst this
  exact ⟨_, h1, k1, h2, h3, h4⟩
theorem isP_dec {n m : Nat} (h2 : 2 ≤ n) (hm : n < m * m) (h : (List.range m).all (fun d => decide (d < 2) || decide (n % d ≠ 0)) = true) : IsP n := by
  refine isP_of_sqrt (by omega) fun d hd hdn hdv => ?_
  obtain ⟨e, rfl⟩ := Int.eq_ofNat_of_zero_le (show 0 ≤ d by omega)
  have hem : e < m := Nat.lt_of_not_ge fun hge => by
    have h1 : m * m ≤ e * e := Nat.mul_le_mul hge hge
    have h2 : ((e * e : Nat) : Int) ≤ n := by push_cast; exact hdn
    omega
  have := List.all_eq_true.1 h e (List.mem_range.2 hem)
  rw [Bool.or_eq_true, decide_eq_true_eq, decide_eq_true_eq] at this
  rcases this with h | h
  · omega
  · exact h (Nat.mod_eq_zero_of_dvd (Int.natCast_dvd_natCast.1 hdv))
theorem i64_and7 (n : Int) : Go.bits .and .i64 n 7 = n % 8 := by
  have h127 : (BitVec.ofInt 64 7).toNat = 2 ^ 3 - 1 := by decide
  have key : (BitVec.ofInt 64 n &&& BitVec.ofInt 64 7).toNat = (n % ((2 ^ 64 : Nat) : Int)).toNat % 2 ^ 3 := by
    rw [BitVec.toNat_and, BitVec.toNat_ofInt, h127, Nat.and_two_pow_sub_one_eq_mod]
  show IntKind.i64.wrap ((BitVec.ofInt 64 n &&& BitVec.ofInt 64 7).toNat : Nat) = n % 8
  rw [key, IntKind.wrap_i64]
  omega
theorem i64_and1 (n : Int) : Go.bits .and .i64 n 1 = n % 2 := by
  have h127 : (BitVec.ofInt 64 1).toNat = 2 ^ 1 - 1 := by decide
  have key : (BitVec.ofInt 64 n &&& BitVec.ofInt 64 1).toNat = (n % ((2 ^ 64 : Nat) : Int)).toNat % 2 ^ 1 := by
    rw [BitVec.toNat_and, BitVec.toNat_ofInt, h127, Nat.and_two_pow_sub_one_eq_mod]
  show IntKind.i64.wrap ((BitVec.ofInt 64 n &&& BitVec.ofInt 64 1).toNat : Nat) = n % 2
  rw [key, IntKind.wrap_i64]
  omega
theorem pick_pr : ∀ i : Nat, i < 8 → Pr (cf [2, 3, 5, 7, 11, 101, 65537, 1048573] i) := by
  intro i hi
  have h : ∀ j, j < 8 → cf [2, 3, 5, 7, 11, 101, 65537, 1048573] j = ([2, 3, 5, 7, 11, 101, 65537, 1048573] : List Int).getD j 0 := fun j _ => cf_at _ _
  rw [h i hi]
  rcases (show i = 0 ∨ i = 1 ∨ i = 2 ∨ i = 3 ∨ i = 4 ∨ i = 5 ∨ i = 6 ∨ i = 7 by omega) with h | h | h | h | h | h | h | h <;> subst h
  · exact ⟨isP_dec (n := 2) (m := 2) (by decide) (by decide) (by decide), by decide⟩
  · exact ⟨isP_dec (n := 3) (m := 2) (by decide) (by decide) (by decide), by decide⟩
  · exact ⟨isP_dec (n := 5) (m := 3) (by decide) (by decide) (by decide), by decide⟩
  · exact ⟨isP_dec (n := 7) (m := 3) (by decide) (by decide) (by decide), by decide⟩
  · exact ⟨isP_dec (n := 11) (m := 4) (by decide) (by decide) (by decide), by decide⟩
  · exact ⟨isP_dec (n := 101) (m := 11) (by decide) (by decide) (by decide), by decide⟩
  · exact ⟨isP_dec (n := 65537) (m := 257) (by decide) (by decide) (by decide +kernel), by decide⟩
  · exact ⟨isP_dec (n := 1048573) (m := 1024) (by decide) (by decide) (by decide +kernel), by decide⟩
theorem pick (a : Int) : ∃ p, Ev (fun k => primroselaw10_Pick.f k a) p ∧ Pr p := by
  have hb : 0 ≤ a % 8 := Int.emod_nonneg a (by omega)
  have hb2 : a % 8 < 8 := Int.emod_lt_of_pos a (by omega)
  have hl : Ev (fun _ : Nat => ((some (([2, 3, 5, 7, 11, 101, 65537, 1048573] : List Int) : List Int)).bind fun y299 => (if 0 ≤ (Go.bits .and .i64 a 7) then (if (Go.bits .and .i64 a 7) < (y299.length : Int) then (some (rd y299 (Go.bits .and .i64 a 7))) else (none)) else (none)))) (cf [2, 3, 5, 7, 11, 101, 65537, 1048573] (a % 8).toNat) := by
    refine ev_some rfl ?_
    rw [i64_and7]
    refine ev_pos hb (ev_pos hb2 ?_)
    rw [rd_cf']
    exact Ev.now _
  have hp := pick_pr (a % 8).toNat (by omega)
  unfold primroselaw10_Pick.f
  by_cases h : a < 1048576
  · by_cases hpr : Pr a
    · exact ⟨a, ev_pos h (Ev.bind (refIs a) (ev_pos (isB_true hpr) (Ev.now _))), hpr⟩
    · exact ⟨_, ev_pos h (Ev.bind (refIs a) (ev_neg (by rw [isB_false hpr]; decide) hl)), hp⟩
  · exact ⟨_, ev_neg h hl, hp⟩
theorem progPlain_is {p : Int} (hp : Pr p) (f : List Int) (hf : f.length ≤ 1073741824) : Is (fun k => modular_Plain.f k f p) p (cf f) := by
  unfold modular_Plain.f
  exact Is.evb (progIs p) (Is.pos (isB_true hp) (Is.bind (plain_is hp f hf) fun r h1 h2 => Is.now h1 h2))
theorem zip_is {z : Nat → Option (List Int)} {p : Int} (hp : Pr p) {f g : List Int} {n : Nat} (hn : n ≤ 1073741824) {G : Int → Int → Int} (h : ∃ r, Ev z r ∧ r.length = n ∧ ∀ j, cf r j = if j < n then G (cf f j) (cf g j) else 0)
    (hG : ∀ x y, 0 ≤ G x y ∧ G x y < p) {s : Sq} (hs : ∀ j, j < n → Cg p (G (cf f j) (cf g j)) (s j)) (hz : Lt p s n) : Is (fun k => (z k).bind fun t => (modular_trim.f k t).bind fun u => some u) p s := by
  obtain ⟨r, h1, h2, h3⟩ := h
  refine Is.evb h1 (Is.bind (trim_is (p := p) (s := s) (by omega) ?_ fun j => ?_) fun r h1 h2 => Is.now h1 h2)
  · refine mem_cf (P := fun a => 0 ≤ a ∧ a < p) fun n hn => ?_
    rw [h3]; split
    · exact hG _ _
    · exact ⟨by omega, hp.pos⟩
  · rw [h3]; split
    · rename_i hj; exact hs j hj
    · rename_i hj; exact (hz j (by omega)).symm
theorem progsub_is {p : Int} (hp : Pr p) (f g : List Int) (hf : f.length ≤ 1073741824) (hg : g.length ≤ 1073741824) : Is (fun k => modular_sub.f k f g p) p (cf f - cf g) := by
  unfold modular_sub.f
  refine zip_is hp (f := f) (g := g) (G := fun x y => (x % p - y % p) % p) (n := max f.length g.length) (by omega) (zip_sub_f (sub1_f hp) f g hf hg) (fun x y => md hp _) (fun j hj => ?_) (((cf_lt_ p f).mono (by omega)).sub ((cf_lt_ p g).mono (by omega)))
  exact (Cg.mod p _).trans ((Cg.mod p _).sub (Cg.mod p _))
theorem progSub_is {p : Int} (hp : Pr p) (f g : List Int) (hf : f.length ≤ 1073741824) (hg : g.length ≤ 1073741824) : Is (fun k => modular_Sub.f k f g p) p (cf f - cf g) := by
  unfold modular_Sub.f
  exact Is.evb (progIs p) (Is.pos (isB_true hp) (Is.bind (progsub_is hp f g hf hg) fun r h1 h2 => Is.now h1 h2))
theorem progscale_is {p : Int} (hp : Pr p) (f : List Int) (c : Int) (hf : f.length ≤ 1073741824) : Is (fun k => modular_scale.f k f c p) p (sm c (cf f)) := by
  unfold modular_scale.f
  refine Is.some_ (rest_f hp.pos hp.2) (zip_is hp (f := f) (g := []) (G := fun x _ => (x % p * (c % p)) % p) (n := max f.length ([] : List Int).length) (by simp; omega) (zip_scale_f (c := c % p) (G := fun x _ => (x % p * (c % p)) % p) (fun x y => scale1_f hp (md hp c) x y) f [] hf (by simp)) (fun x y => md hp _) (fun j hj => ?_) (fun j hj => ?_))
  · refine (Cg.mod p _).trans (((Cg.mod p _).mul (Cg.mod p _)).trans (.of_eq ?_))
    rw [sm_at, Int.mul_comm]
  · rw [sm_at, cf_big (l := f) (by simp at hj; omega)]; exact .of_eq (by omega)
theorem Lt.sm {p : Int} {a : Sq} {n : Nat} (c : Int) (h : Lt p a n) : Lt p (sm c a) n := fun i hi => by
  have := (Cg.refl p c).mul (h i hi); rw [Int.mul_zero] at this; exact this
end Go.Proofs.Ytiflghgebeadiaa.Alg
end
section
namespace Go.Proofs.Ytiflghgebeadiaa.Alg
open Go.RowKit Go.Proofs.YtiflghgebeadiaaW.PrintWords Go.Proofs.YtiflghgebeadiaaW.PrintMore Go.Proofs.Ytiflghgebeadiaa.M Sq
set_option linter.unusedVariables false
set_option linter.unusedSimpArgs false
structure Mn (p : Int) (F : Sq) (m : List Int) : Prop where
  pl : PL p m
  eq : (Cq p F 0 ∧ m = []) ∨ (0 < m.length ∧ cf m (m.length - 1) = 1 ∧ ∃ v, ¬ Cg p v 0 ∧ Cq p (cf m) (sm v F))
theorem unit_inv {p v w : Int} (hp : IsP p) (h : Cg p (v * w) 1) : ¬ Cg p w 0 := fun hw => by
  have := ((Cg.refl p v).mul hw).symm.trans h
  rw [Int.mul_zero] at this; exact hp.one_ne this.symm
theorem sm_zero_iff {p v : Int} (hp : IsP p) (hv : ¬ Cg p v 0) {F : Sq} (h : Cq p (sm v F) 0) : Cq p F 0 := fun n => by
  have := h n
  rw [sm_at, zero_at] at this
  rcases hp.cg_mul this with h | h
  · exact absurd h hv
  · exact h
theorem monic_one {p : Int} (hp : Pr p) {F : Sq} {m m' : List Int} {v v' : Int} (h : PL p m) (h' : PL p m') (hl : 0 < m.length) (hl' : 0 < m'.length) (ht : cf m (m.length - 1) = 1) (ht' : cf m' (m'.length - 1) = 1)
    (hv : ¬ Cg p v 0) (hv' : ¬ Cg p v' 0) (hc : Cq p (cf m) (sm v F)) (hc' : Cq p (cf m') (sm v' F)) : m = m' := by
  have hx : Cq p (sm v' (cf m)) (sm v (cf m')) := fun n => by
    refine ((Cg.refl p v').mul (hc n)).trans (Cg.trans (.of_eq ?_) ((Cg.refl p v).mul (hc' n)).symm)
    rw [sm_at, sm_at]; grind
  have hlen : m.length = m'.length := by
    rcases Nat.lt_trichotomy m.length m'.length with h1 | h1 | h1
    · have h2 := hx (m'.length - 1)
      rw [sm_at, sm_at, ht', cf_big (l := m) (by omega), Int.mul_zero, Int.mul_one] at h2
      exact absurd h2.symm hv
    · exact h1
    · have h2 := hx (m.length - 1)
      rw [sm_at, sm_at, ht, cf_big (l := m') (by omega), Int.mul_zero, Int.mul_one] at h2
      exact absurd h2 hv'
  have hvv : Cg p v' v := by
    have h2 := hx (m.length - 1)
    rw [sm_at, sm_at, ht, hlen, ht', Int.mul_one, Int.mul_one] at h2
    exact h2
  refine h.ext h' hp.pos fun n => hp.1.cancel hv' ?_
  have h2 := hx n
  rw [sm_at, sm_at] at h2
  rw [Int.mul_comm (cf m n), Int.mul_comm (cf m' n)]
  exact h2.trans (hvv.symm.mul (.refl _ _))
theorem Mn.one {p : Int} (hp : Pr p) {F : Sq} {m m' : List Int} (h : Mn p F m) (k : Mn p F m') : m = m' := by
  rcases h.eq with ⟨hz, h1⟩ | ⟨hl, ht, v, hv, hc⟩
  · rcases k.eq with ⟨_, k1⟩ | ⟨kl, kt, w, hw, kc⟩
    · rw [h1, k1]
    · have := (kc.trans ((Cq.sm (.refl p w) hz).trans (Cq.of_eq (show sm w 0 = 0 by ext n; simp)))) (m'.length - 1)
      rw [kt] at this; exact absurd this hp.1.one_ne
  · rcases k.eq with ⟨hz, _⟩ | ⟨kl, kt, w, hw, kc⟩
    · have := (hc.trans ((Cq.sm (.refl p v) hz).trans (Cq.of_eq (show sm v 0 = 0 by ext n; simp)))) (m.length - 1)
      rw [ht] at this; exact absurd this hp.1.one_ne
    · exact monic_one hp h.pl k.pl hl kl ht kt hv hw hc kc
theorem Mn.len {p : Int} (hp : Pr p) {F : Sq} {m : List Int} (h : Mn p F m) {n : Nat} (hF : Lt p F n) : m.length ≤ n := by
  rcases h.eq with ⟨_, h1⟩ | ⟨hl, ht, v, hv, hc⟩
  · rw [h1]; simp
  · exact h.pl.le_of hp.pos hc (Lt.sm v hF)
theorem Mn.cq {p : Int} {F G : Sq} {m : List Int} (h : Mn p F m) (hF : Cq p F G) : Mn p G m :=
  ⟨h.pl, by
    rcases h.eq with ⟨hz, h1⟩ | ⟨hl, ht, v, hv, hc⟩
    · exact .inl ⟨hF.symm.trans hz, h1⟩
    · exact .inr ⟨hl, ht, v, hv, hc.trans (Cq.sm (.refl _ _) hF)⟩⟩
theorem Mn.sm {p : Int} (hp : Pr p) {F : Sq} {m : List Int} {c : Int} (hc : ¬ Cg p c 0) (h : Mn p (Sq.sm c F) m) : Mn p F m :=
  ⟨h.pl, by
    rcases h.eq with ⟨hz, h1⟩ | ⟨hl, ht, v, hv, hcq⟩
    · exact .inl ⟨sm_zero_iff hp.1 hc hz, h1⟩
    · refine .inr ⟨hl, ht, v * c, fun hz => ?_, hcq.trans (.of_eq (sm_sm _ _ _))⟩
      rcases hp.1.cg_mul hz with h | h
      · exact hv h
      · exact hc h⟩
theorem mn_of {p : Int} (hp : Pr p) {F : List Int} (hF : PL p F) (h0 : 0 < F.length) {v : Int} (hv : Cg p (cf F (F.length - 1) * v) 1) {m : List Int} (hm : PL p m) (hc : Cq p (cf m) (sm v (cf F))) : Mn p (cf F) m := by
  have hvu := unit_inv hp.1 hv
  have htop : Cg p (cf m (F.length - 1)) 1 := (hc _).trans ((Cg.of_eq (by rw [sm_at, Int.mul_comm])).trans hv)
  have hle : m.length ≤ F.length := hm.le_of hp.pos hc (Lt.sm v (cf_lt_ p F))
  have hge : F.length ≤ m.length := Nat.le_of_not_lt fun hlt => by
    rw [cf_big (l := m) (by omega)] at htop; exact hp.1.one_ne htop.symm
  have hlen : m.length = F.length := by omega
  refine ⟨hm, .inr ⟨by omega, ?_, v, hvu, hc⟩⟩
  have hb := hm.at hp.pos (F.length - 1)
  rw [hlen]
  exact htop.eq_of hb.1 hb.2 (by omega) (by have := hp.two; omega)
theorem progMonic {p : Int} (hp : Pr p) (f : List Int) (hf : f.length ≤ 1073741824) : ∃ m, Ev (fun k => modular_Monic.f k f p) m ∧ Mn p (cf f) m := by
  obtain ⟨F, a1, a2, a3, a4⟩ := (progPlain_is hp f hf).len hp.pos (cf_lt_ p f)
  by_cases h0 : F.length = 0
  · refine ⟨F, ?_, a2, .inl ⟨a3.symm.trans ((a2.len_iff hp.pos).1 h0), List.length_eq_zero_iff.1 h0⟩⟩
    unfold modular_Monic.f
    exact Ev.bind a1 (ev_pos (by omega) (Ev.now _))
  · obtain ⟨v, b1, b2, b3⟩ := progInv hp (a2.last hp.pos (by omega))
    obtain ⟨m, c1, c2, c3⟩ := progscale_is hp F v (by omega)
    refine ⟨m, ?_, (mn_of hp a2 (by omega) b3 c2 c3).cq a3⟩
    unfold modular_Monic.f
    refine Ev.bind a1 (ev_neg (by omega) ?_)
    rw [wpred (by omega) (by omega)]
    refine ev_pos (by omega) (ev_pos (by omega) ?_)
    rw [rd_cf]
    exact Ev.bind b1 (Ev.bind c1 (Ev.now _))
inductive Eu (p : Int) : List Int → List Int → List Int → Prop
  | done (f : List Int) : Eu p f [] f
  | step {f g q r d : List Int} : g ≠ [] → QR p (cf f) (cf g) q r → Eu p g r d → Eu p f g d
theorem plz {p : Int} (hp : Pr p) {g : List Int} (hg : PL p g) (h : g ≠ []) : ¬ Cq p (cf g) 0 := fun hz => h ((hg.nil_iff hp.pos).2 hz)
theorem progGcd_l0 {p : Int} (hp : Pr p) : ∀ (n : Nat) (f g : List Int), g.length ≤ n → PL p f → PL p g → f.length ≤ 1073741824 → g.length ≤ 1073741824 →
    ∃ d m, Eu p f g d ∧ PL p d ∧ Ev (fun k => modular_Gcd.l0 k f g p) m ∧ Mn p (cf d) m := by
  intro n
  induction n with
  | zero =>
    intro f g hn hf hg hfl hgl
    have h0 : g = [] := List.length_eq_zero_iff.1 (by omega)
    subst h0
    obtain ⟨m, h1, h2⟩ := progMonic hp f hfl
    refine ⟨f, m, .done f, hf, Ev.step (f := fun k => (modular_Monic.f k f p).bind fun t => some t) (fun k => ?_) (Ev.bind h1 (Ev.now _)), h2⟩
    rw [modular_Gcd.l0, if_neg (by simp)]
  | succ n ih =>
    intro f g hn hf hg hfl hgl
    by_cases h0 : g = []
    · subst h0; exact ih f [] (by simp) hf hg hfl hgl
    · have hpos : 0 < g.length := List.length_pos_iff.2 h0
      obtain ⟨q, r, k1, k2, k3, k4, k5⟩ := divide_dv hp f g hfl hgl hg hpos
      obtain ⟨d, m, h1, h2, h3, h4⟩ := ih g r (by omega) hg k3 hgl (by omega)
      refine ⟨d, m, .step h0 ⟨k2, k3, k4, g, hg, .refl _ _, k5⟩ h1, h2, Ev.step (f := fun k => (modular_divide.f k f g p).bind fun b => modular_Gcd.l0 k g b.2 p) (fun k => ?_) (Ev.bind k1 h3), h4⟩
      rw [modular_Gcd.l0, if_pos (by omega)]
theorem Eu.one {p : Int} (hp : Pr p) {f g d d' : List Int} (h : Eu p f g d) (k : Eu p f g d') : d = d' := by
  induction h with
  | done f =>
    cases k with
    | done => rfl
    | step h0 => exact absurd rfl h0
  | step h0 hq _ ih =>
    cases k with
    | done => exact absurd rfl h0
    | step _ kq ke =>
      obtain ⟨_, hr⟩ := hq.one hp kq
      subst hr; exact ih ke
theorem progGcd {p : Int} (hp : Pr p) (f g : List Int) (hf : f.length ≤ 1073741824) (hg : g.length ≤ 1073741824) : ∃ F G d m, PL p F ∧ PL p G ∧ Cq p (cf F) (cf f) ∧ Cq p (cf G) (cf g) ∧ Eu p F G d ∧ PL p d ∧ Ev (fun k => modular_Gcd.f k f g p) m ∧ Mn p (cf d) m := by
  obtain ⟨F, a1, a2, a3, a4⟩ := (progPlain_is hp f hf).len hp.pos (cf_lt_ p f)
  obtain ⟨G, b1, b2, b3, b4⟩ := (progPlain_is hp g hg).len hp.pos (cf_lt_ p g)
  obtain ⟨d, m, h1, h2, h3, h4⟩ := progGcd_l0 hp G.length F G (Nat.le_refl _) a2 b2 (by omega) (by omega)
  exact ⟨F, G, d, m, a2, b2, a3, b3, h1, h2, by unfold modular_Gcd.f; exact Ev.bind a1 (Ev.bind b1 h3), h4⟩
end Go.Proofs.Ytiflghgebeadiaa.Alg
end
section
namespace Go.Proofs.Ytiflghgebeadiaa.Alg
open Go.RowKit Go.Proofs.YtiflghgebeadiaaW.PrintWords Go.Proofs.YtiflghgebeadiaaW.PrintMore Go.Proofs.Ytiflghgebeadiaa.M Sq
set_option linter.unusedVariables false
set_option linter.unusedSimpArgs false
def Fin_ (p : Int) (a : Sq) : Prop := ∃ n, Lt p a n
theorem fin_cf (p : Int) (l : List Int) : Fin_ p (cf l) := ⟨_, cf_lt_ p l⟩
theorem Fin_.add {p : Int} {a b : Sq} (h : Fin_ p a) (k : Fin_ p b) : Fin_ p (a + b) := by
  obtain ⟨m, h⟩ := h; obtain ⟨n, k⟩ := k
  exact ⟨max m n, (h.mono (by omega)).add (k.mono (by omega))⟩
theorem Fin_.mul {p : Int} {a b : Sq} (h : Fin_ p a) (k : Fin_ p b) : Fin_ p (a * b) := by
  obtain ⟨m, h⟩ := h; obtain ⟨n, k⟩ := k
  exact ⟨_, h.mul' k⟩
theorem Fin_.neg {p : Int} {a : Sq} (h : Fin_ p a) : Fin_ p (-a) := by
  obtain ⟨m, h⟩ := h
  exact ⟨m, fun i hi => by have := (h i hi).neg; simpa using this⟩
theorem fin_zero (p : Int) : Fin_ p 0 := ⟨0, fun _ _ => .refl _ _⟩
theorem fin_one (p : Int) : Fin_ p 1 := ⟨1, fun i hi => by rw [one_at, if_neg (by omega)]; exact .refl _ _⟩
theorem Fin_.pow {p : Int} {a : Sq} (h : Fin_ p a) : ∀ n : Nat, Fin_ p (a ^ n)
  | 0 => fin_one p
  | n + 1 => (Fin_.pow h n).mul h
def Cm (p : Int) (M A B : Sq) : Prop := ∃ q, Fin_ p q ∧ Cq p A (q * M + B)
theorem Cm.of_cq {p : Int} {M A B : Sq} (h : Cq p A B) : Cm p M A B := ⟨0, fin_zero p, by rw [zero_mul, zero_add]; exact h⟩
theorem Cm.refl (p : Int) (M A : Sq) : Cm p M A A := .of_cq (.refl _ _)
theorem Cm.symm {p : Int} {M A B : Sq} (h : Cm p M A B) : Cm p M B A := by
  obtain ⟨q, hq, h⟩ := h
  refine ⟨-q, hq.neg, fun n => ?_⟩
  obtain ⟨c, hc⟩ := h n
  rw [neg_mul]
  exact ⟨-c, by simp at hc ⊢; grind⟩
theorem Cm.trans {p : Int} {M A B C : Sq} (h : Cm p M A B) (k : Cm p M B C) : Cm p M A C := by
  obtain ⟨q, hq, h⟩ := h; obtain ⟨q', hq', k⟩ := k
  refine ⟨q + q', hq.add hq', fun n => ?_⟩
  obtain ⟨c, hc⟩ := h n; obtain ⟨d, hd⟩ := k n
  rw [add_mul]
  exact ⟨c + d, by simp at hc hd ⊢; grind⟩
theorem Cm.add {p : Int} {M A B C D : Sq} (h : Cm p M A B) (k : Cm p M C D) : Cm p M (A + C) (B + D) := by
  obtain ⟨q, hq, h⟩ := h; obtain ⟨q', hq', k⟩ := k
  refine ⟨q + q', hq.add hq', fun n => ?_⟩
  obtain ⟨c, hc⟩ := h n; obtain ⟨d, hd⟩ := k n
  rw [add_mul]
  exact ⟨c + d, by simp at hc hd ⊢; grind⟩
theorem Cm.mul_right {p : Int} {M A B C : Sq} (h : Cm p M A B) (hC : Fin_ p C) : Cm p M (A * C) (B * C) := by
  obtain ⟨q, hq, h⟩ := h
  refine ⟨q * C, hq.mul hC, (h.mul_right C).trans (.of_eq ?_)⟩
  rw [add_mul, mul_assoc, mul_comm M, ← mul_assoc]
theorem Cm.mul {p : Int} {M A B C D : Sq} (h : Cm p M A B) (k : Cm p M C D) (hB : Fin_ p B) (hC : Fin_ p C) : Cm p M (A * C) (B * D) := by
  refine (h.mul_right hC).trans ?_
  rw [mul_comm B C, mul_comm B D]; exact k.mul_right hB
theorem Cm.pow {p : Int} {M A B : Sq} (h : Cm p M A B) (hA : Fin_ p A) (hB : Fin_ p B) : ∀ n : Nat, Cm p M (A ^ n) (B ^ n)
  | 0 => .refl _ _ _
  | n + 1 => (Cm.pow h hA hB n).mul h (hB.pow n) hA
structure Rm (p : Int) (M A : Sq) (r : List Int) : Prop where
  pl : PL p r
  eq : Cm p M A (cf r)
  lt : ∃ d : List Int, PL p d ∧ Cq p (cf d) M ∧ r.length < d.length
theorem Rm.one {p : Int} (hp : Pr p) {M A B : Sq} {r s : List Int} (h : Rm p M A r) (k : Rm p M B s) (e : Cm p M A B) : r = s := by
  obtain ⟨d, hd, hdc, hdl⟩ := h.lt
  obtain ⟨d', hd', hdc', hdl'⟩ := k.lt
  have hdd : d' = d := hd'.ext hd hp.pos (hdc'.trans hdc.symm)
  subst hdd
  obtain ⟨q, ⟨n, hq⟩, hc⟩ := h.eq.symm.trans (e.trans k.eq)
  refine h.pl.ext k.pl hp.pos ?_
  exact (divide_one (m := n) (n := d'.length - 1) hp.1 (q := 0) (q' := q) (r := cf r) (r' := cf s) (g := M)
    (fun i _ => .refl _ _) hq ((cf_lt_ p r).mono (by omega)) ((cf_lt_ p s).mono (by omega))
    (fun hc => hd.last hp.pos (by omega) ((hdc _).trans hc)) (((cf_lt_ p d').cq hdc.symm).mono (by omega)) (by rw [zero_mul, zero_add]; exact hc)).2
theorem Rm.cm {p : Int} {M A B : Sq} {r : List Int} (h : Rm p M A r) (e : Cm p M B A) : Rm p M B r := ⟨h.pl, e.trans h.eq, h.lt⟩
theorem QR.rm {p : Int} {F G : Sq} {q r : List Int} (h : QR p F G q r) : Rm p G F r := ⟨h.pr, ⟨cf q, fin_cf p q, h.eq⟩, h.lt⟩
theorem Rm.len {p : Int} (hp : Pr p) {M A : Sq} {r : List Int} (h : Rm p M A r) {n : Nat} (hM : Lt p M n) : r.length ≤ n := by
  obtain ⟨d, hd, hdc, hdl⟩ := h.lt
  have := hd.le_of hp.pos hdc hM; omega
theorem sq_pow (X : Sq) (j : Nat) : (X * X) ^ j = X ^ (2 * j) := by
  rw [pow_mul]; congr 1; rw [pow_succ, pow_succ, pow_zero, one_mul]
theorem cf_1 : cf [1] = 1 := by
  ext n; rw [cf_at, one_at]
  match n with
  | 0 => rfl
  | n + 1 => rfl
theorem mul_rest {p : Int} (hp : Pr p) (M : List Int) (hM : PL p M) (hM0 : 0 < M.length) (hMl : M.length ≤ 1000000) {O X : Sq} {a b : List Int} (ha : Rm p (cf M) O a) (hb : Rm p (cf M) X b) (hX : Fin_ p X) :
    ∃ u q r, Ev (fun k => modular_mul.f k a b p) u ∧ Ev (fun k => modular_divide.f k u M p) (q, r) ∧ Rm p (cf M) (O * X) r := by
  have hal := ha.len hp (cf_lt_ p M); have hbl := hb.len hp (cf_lt_ p M)
  obtain ⟨u, u1, u2, u3, u4⟩ := (mul_is hp a b (by omega) (by omega) ha.pl.1 hb.pl.1).len hp.pos ((cf_lt_ p a).mul' (cf_lt_ p b))
  obtain ⟨q, r, k1, k2, k3, k4, k5⟩ := divide_dv hp u M (by omega) (by omega) hM hM0
  refine ⟨u, q, r, u1, k1, (QR.rm ⟨k2, k3, k4, M, hM, .refl _ _, k5⟩).cm ?_⟩
  exact (ha.eq.mul hb.eq (fin_cf p a) hX).trans (.of_cq u3.symm)
theorem progPow_l0 {p : Int} (hp : Pr p) (M : List Int) (hM : PL p M) (hM0 : 0 < M.length) (hMl : M.length ≤ 1000000) : ∀ (m : Nat) (n : Int) (out x : List Int) (O X : Sq), 0 ≤ n → n ≤ m → Rm p (cf M) O out → Rm p (cf M) X x → Fin_ p O → Fin_ p X →
    ∃ r, Ev (fun k => modular_Pow.l0 k n M p out x) (r, 0) ∧ Rm p (cf M) (O * X ^ n.toNat) r := by
  intro m
  induction m with
  | zero =>
    intro n out x O X hn hm ho hx hO hX
    have h0 : n = 0 := by omega
    subst h0
    refine ⟨out, Ev.step (f := fun _ => some (out, 0)) (fun k => ?_) (Ev.now _), ho.cm (.of_cq (.of_eq ?_))⟩
    · rw [modular_Pow.l0, if_neg (by omega)]
    · rw [Int.toNat_zero, pow_zero, mul_one]
  | succ m ih =>
    intro n out x O X hn hm ho hx hO hX
    by_cases h0 : n = 0
    · exact ih n out x O X hn (by omega) ho hx hO hX
    · obtain ⟨u, q, x', u1, u2, u3⟩ := mul_rest hp M hM hM0 hMl hx hx hX
      by_cases h1 : n % 2 = 1
      · obtain ⟨v, q', o', v1, v2, v3⟩ := mul_rest hp M hM hM0 hMl ho hx hX
        obtain ⟨r, r1, r2⟩ := ih (n / 2) o' x' (O * X) (X * X) (by omega) (by omega) v3 u3 (hO.mul hX) (hX.mul hX)
        refine ⟨r, Ev.step (f := fun k => (modular_mul.f k out x p).bind fun t219 => ((modular_divide.f k t219 M p).bind fun bt222 => ((modular_mul.f k x x p).bind fun t228 => ((modular_divide.f k t228 M p).bind fun bt231 => (modular_Pow.l0 k (n / 2) M p bt222.2 bt231.2))))) (fun k => ?_)
          (Ev.bind v1 (Ev.bind v2 (Ev.bind u1 (Ev.bind u2 r1)))), r2.cm (.of_cq (.of_eq ?_))⟩
        · rw [modular_Pow.l0, if_pos (by omega), if_pos (by rw [i64_and1]; exact h1)]
        · rw [sq_pow, show n.toNat = 2 * (n / 2).toNat + 1 by omega, pow_succ, mul_assoc, mul_comm (X ^ _) X]
      · obtain ⟨r, r1, r2⟩ := ih (n / 2) out x' O (X * X) (by omega) (by omega) ho u3 hO (hX.mul hX)
        refine ⟨r, Ev.step (f := fun k => (modular_mul.f k x x p).bind fun t237 => ((modular_divide.f k t237 M p).bind fun bt240 => (modular_Pow.l0 k (n / 2) M p out bt240.2))) (fun k => ?_)
          (Ev.bind u1 (Ev.bind u2 r1)), r2.cm (.of_cq (.of_eq ?_))⟩
        · rw [modular_Pow.l0, if_pos (by omega), if_neg (by rw [i64_and1]; exact h1)]
        · rw [sq_pow, show n.toNat = 2 * (n / 2).toNat by omega]
theorem progPow {p : Int} (hp : Pr p) (f : List Int) (hf : f.length ≤ 1000000) {n : Int} (hn : 0 ≤ n) (m : List Int) (hm : m.length ≤ 1000000) (hz : ¬ Cq p (cf m) 0) :
    ∃ r, Ev (fun k => modular_Pow.f k f n m p) (r, 0) ∧ Rm p (cf m) (cf f ^ n.toNat) r := by
  obtain ⟨M, h1, h2, h3, h4⟩ := (plain_is hp m (by omega)).len hp.pos (cf_lt_ p m)
  have h0 : M.length ≠ 0 := fun h => hz (h3.symm.trans ((h2.len_iff hp.pos).1 h))
  obtain ⟨qa, a, a1, a2, a3, a4, a5⟩ := divide_dv hp [1] M (by simp) (by omega) h2 (by omega)
  obtain ⟨qb, b, b1, b2, b3, b4, b5⟩ := divide_dv hp f M (by omega) (by omega) h2 (by omega)
  obtain ⟨r, r1, r2⟩ := progPow_l0 hp M h2 (by omega) (by omega) n.toNat n a b (cf [1]) (cf f) hn (by omega) (QR.rm ⟨a2, a3, a4, M, h2, .refl _ _, a5⟩) (QR.rm ⟨b2, b3, b4, M, h2, .refl _ _, b5⟩) (fin_cf p _) (fin_cf p _)
  refine ⟨r, ?_, r2.pl, ?_, ?_⟩
  · unfold modular_Pow.f
    exact Ev.bind (progIs p) (ev_pos (isB_true hp) (ev_neg (by omega) (Ev.bind h1 (ev_neg (by omega) (Ev.bind a1 (Ev.bind b1 r1))))))
  · obtain ⟨q, hq, hc⟩ := r2.eq
    rw [cf_1, one_mul] at hc
    exact ⟨q, hq, hc.trans (((Cq.refl p q).mul h3).add (.refl _ _))⟩
  · obtain ⟨d, d1, d2, d3⟩ := r2.lt
    exact ⟨d, d1, d2.trans h3, d3⟩
end Go.Proofs.Ytiflghgebeadiaa.Alg
end
section
namespace Go.Proofs.Ytiflghgebeadiaa.Alg
open Go.RowKit Go.Proofs.YtiflghgebeadiaaW.PrintWords Go.Proofs.YtiflghgebeadiaaW.PrintMore Go.Proofs.Ytiflghgebeadiaa.M Sq
set_option linter.unusedVariables false
set_option linter.unusedSimpArgs false
def Dd (p : Int) (c a : Sq) : Prop := ∃ s, Fin_ p s ∧ Cq p a (s * c)
theorem Dd.refl (p : Int) (a : Sq) : Dd p a a := ⟨1, fin_one p, by rw [one_mul]; exact .refl _ _⟩
theorem Dd.zero {p : Int} {c a : Sq} (h : Cq p a 0) : Dd p c a := ⟨0, fin_zero p, by rw [zero_mul]; exact h⟩
theorem Dd.add {p : Int} {c a b : Sq} (h : Dd p c a) (k : Dd p c b) : Dd p c (a + b) := by
  obtain ⟨s, hs, h⟩ := h; obtain ⟨t, ht, k⟩ := k
  exact ⟨s + t, hs.add ht, by rw [add_mul]; exact h.add k⟩
theorem Dd.sub {p : Int} {c a b : Sq} (h : Dd p c a) (k : Dd p c b) : Dd p c (a - b) := by
  obtain ⟨s, hs, h⟩ := h; obtain ⟨t, ht, k⟩ := k
  refine ⟨s + -t, hs.add ht.neg, ?_⟩
  rw [add_mul, neg_mul, ← sub_eq]; exact h.sub k
theorem Dd.mul {p : Int} {c a : Sq} (b : Sq) (hb : Fin_ p b) (h : Dd p c a) : Dd p c (b * a) := by
  obtain ⟨s, hs, h⟩ := h
  exact ⟨b * s, hb.mul hs, by rw [mul_assoc]; exact (Cq.refl p b).mul h⟩
theorem Dd.cq {p : Int} {c d a b : Sq} (h : Dd p c a) (hc : Cq p c d) (ha : Cq p a b) : Dd p d b := by
  obtain ⟨s, hs, h⟩ := h
  exact ⟨s, hs, ha.symm.trans (h.trans ((Cq.refl p s).mul hc))⟩
theorem Dd.trans {p : Int} {a b c : Sq} (h : Dd p a b) (k : Dd p b c) : Dd p a c := by
  obtain ⟨s, hs, h⟩ := h; obtain ⟨t, ht, k⟩ := k
  exact ⟨t * s, ht.mul hs, by rw [mul_assoc]; exact k.trans ((Cq.refl p t).mul h)⟩
theorem fin_sm {p : Int} {a : Sq} (c : Int) (h : Fin_ p a) : Fin_ p (sm c a) := by obtain ⟨n, h⟩ := h; exact ⟨n, Lt.sm c h⟩
theorem inv_ex {p v : Int} (hp : Pr p) (hv : ¬ Cg p v 0) : ∃ w, Cg p (v * w) 1 := by
  obtain ⟨w, _, _, h⟩ := progInv hp hv; exact ⟨w, h⟩
theorem Dd.unit {p v : Int} (hp : Pr p) (hv : ¬ Cg p v 0) {m c a : Sq} (hm : Cq p m (sm v c)) (h : Dd p c a) : Dd p m a := by
  obtain ⟨w, hw⟩ := inv_ex hp hv
  refine Dd.trans ⟨sm w 1, fin_sm w (fin_one p), ?_⟩ h
  rw [sm_mul, one_mul]
  refine Cq.symm ((Cq.sm (.refl p w) hm).trans ?_)
  intro n; rw [sm_at, sm_at]
  refine (Cg.of_eq (show w * (v * c n) = v * w * c n by grind)).trans ((hw.mul (.refl p (c n))).trans (.of_eq (by omega)))
theorem Eu.dvd {p : Int} {f g d : List Int} (h : Eu p f g d) : Dd p (cf d) (cf f) ∧ Dd p (cf d) (cf g) := by
  induction h with
  | done f => exact ⟨.refl _ _, .zero (by rw [cf_nil]; exact .refl _ _)⟩
  | @step f g q r d h0 hq _ ih => exact ⟨((ih.1.mul (cf q) (fin_cf p q)).add ih.2).cq (.refl _ _) hq.eq.symm, ih.1⟩
theorem Eu.great {p : Int} {f g d : List Int} {c : Sq} (h : Eu p f g d) (hf : Dd p c (cf f)) (hg : Dd p c (cf g)) : Dd p c (cf d) := by
  induction h with
  | done f => exact hf
  | @step f g q r d h0 hq _ ih =>
    refine ih hg ((hf.sub (hg.mul (cf q) (fin_cf p q))).cq (.refl _ _) fun n => ?_)
    obtain ⟨c, hc⟩ := hq.eq n
    exact ⟨c, by simp at hc ⊢; omega⟩
theorem unit_const {p : Int} (hp : Pr p) {s t : Sq} (hs : Fin_ p s) (ht : Fin_ p t) (h : Cq p (s * t) 1) : ∃ c, ¬ Cg p c 0 ∧ Cq p s (sm c 1) := by
  obtain ⟨m, hs⟩ := hs; obtain ⟨n, ht⟩ := ht
  have one_ne : ¬ Cq p (1 : Sq) 0 := fun h0 => hp.1.one_ne (by have := h0 0; rwa [one_at, if_pos rfl] at this)
  have hsz : ¬ Cq p s 0 := fun h0 => one_ne (h.symm.trans (by have := h0.mul_right t; rwa [zero_mul] at this))
  have htz : ¬ Cq p t 0 := fun h0 => one_ne (h.symm.trans (by have := h0.mul_right s; rw [zero_mul, mul_comm] at this; exact this))
  obtain ⟨i, _, hi, hi'⟩ := last hs hsz
  obtain ⟨j, _, hj, hj'⟩ := last ht htz
  have htop := (top (p := p) (a := s) (b := t) (m := i) (e := j) (fun z hz => hi' z (by omega)) (fun z hz => hj' z (by omega))).1
  have h0 : i + j = 0 := by
    refine Classical.byContradiction fun hne => ?_
    have h1 := h (i + j)
    rw [one_at, if_neg hne] at h1
    rcases hp.1.cg_mul (htop.symm.trans h1) with h | h
    · exact hi h
    · exact hj h
  have hi0 : i = 0 := by omega
  subst hi0
  refine ⟨s 0, hi, fun k => ?_⟩
  rw [sm_at, one_at]
  by_cases hk : k = 0
  · rw [hk]; exact .of_eq (by simp)
  · rw [if_neg hk]; exact (hi' k (by omega)).trans (.of_eq (by omega))
theorem assoc {p : Int} (hp : Pr p) {a b : Sq} (ha : Fin_ p a) (h : Dd p a b) (k : Dd p b a) (hz : ¬ Cq p a 0) : ∃ c, ¬ Cg p c 0 ∧ Cq p b (sm c a) := by
  obtain ⟨s, hs, h⟩ := h; obtain ⟨t, ht, k⟩ := k
  have h1 : Cq p ((s * t - 1) * a) 0 := by
    rw [sub_mul, one_mul]
    refine Cq.zero_of (Cq.symm ?_)
    rw [mul_comm s t, mul_assoc]
    exact k.trans ((Cq.refl p t).mul h)
  obtain ⟨na, hna⟩ := ha
  have hst : Fin_ p (s * t - 1) := by rw [sub_eq]; exact (hs.mul ht).add (fin_one p).neg
  obtain ⟨nst, hnst⟩ := hst
  rcases mul_ne hp.1 hnst hna h1 with h2 | h2
  · obtain ⟨c, hc, hcs⟩ := unit_const hp hs ht h2.of_zero
    refine ⟨c, hc, h.trans ((hcs.mul_right a).trans (.of_eq ?_))⟩
    rw [sm_mul, one_mul]
  · exact absurd h2 hz
theorem Mn.dvd {p : Int} (hp : Pr p) {F A : Sq} {m : List Int} (hm : Mn p F m) (h : Dd p F A) : Dd p (cf m) A := by
  rcases hm.eq with ⟨hz, h1⟩ | ⟨hl, htop, v, hv, hcq⟩
  · exact h.cq (hz.trans (by rw [h1, cf_nil]; exact .refl _ _)) (.refl _ _)
  · exact h.unit hp hv hcq
theorem rest_nil {p : Int} (hp : Pr p) {F : Sq} {m : List Int} (hm : PL p m) (hm0 : 0 < m.length) {q r : List Int} (h : QR p F (cf m) q r) (hd : Dd p (cf m) F) : r = [] := by
  obtain ⟨s, hs, hc⟩ := hd
  exact h.rm.one hp (⟨.nil p, .refl _ _ _, m, hm, .refl _ _, hm0⟩ : Rm p (cf m) (cf []) []) ⟨s, hs, by rw [cf_nil, add_zero]; exact hc⟩
end Go.Proofs.Ytiflghgebeadiaa.Alg
end
section
namespace Go.Proofs.Ytiflghgebeadiaa.Alg
open Go.RowKit Go.Proofs.YtiflghgebeadiaaW.PrintWords Go.Proofs.YtiflghgebeadiaaW.PrintMore Go.Proofs.Ytiflghgebeadiaa.M Sq
set_option linter.unusedVariables false
set_option linter.unusedSimpArgs false
theorem refPow_l0 {p : Int} (hp : Pr p) : ∀ (m : Nat) (n out x : Int), 0 ≤ n → n ≤ m → n ≤ 9223372036854775807 → (0 ≤ out ∧ out < p) → (0 ≤ x ∧ x < p) →
    ∃ v, Ev (fun k => primroseref05_Pow.l0 k n p out x) v ∧ (0 ≤ v ∧ v < p) ∧ Cg p v (out * x ^ n.toNat) := by
  intro m
  induction m with
  | zero =>
    intro n out x hn hm hb ho hx
    have : n = 0 := by omega
    subst this
    refine ⟨out, Ev.step (f := fun _ => some out) (fun k => ?_) (Ev.now _), ho, .of_eq (by simp)⟩
    rw [primroseref05_Pow.l0, if_neg (by omega)]
  | succ m ih =>
    intro n out x hn hm hb ho hx
    by_cases h0 : n = 0
    · exact ih n out x hn (by omega) hb ho hx
    · have ed : wrap64 (n.tdiv 2) = n / 2 := by rw [Int.tdiv_eq_ediv_of_nonneg hn]; exact w64 (by omega) (by omega)
      have em : n.tmod 2 = n % 2 := Int.tmod_eq_emod_of_nonneg hn
      have ex : (x * x) ^ (n / 2).toNat = x ^ (2 * (n / 2).toNat) := by
        generalize (n / 2).toNat = j
        induction j with
        | zero => simp
        | succ j ihj => rw [Int.pow_succ, ihj, show 2 * (j + 1) = 2 * j + 1 + 1 by omega, Int.pow_succ, Int.pow_succ]; grind
      by_cases h1 : n % 2 = 1
      · obtain ⟨v, hv, hv0, hvc⟩ := ih (n / 2) ((out * x) % p) ((x * x) % p) (by omega) (by omega) (by omega) (md hp _) (md hp _)
        refine ⟨v, Ev.step (f := fun k => primroseref05_Pow.l0 k (n / 2) p ((out * x) % p) ((x * x) % p)) (fun k => ?_) hv, hv0, hvc.trans ?_⟩
        · rw [primroseref05_Pow.l0, if_pos (by omega), em, if_pos h1, wmul hp ho hx, rrest_f hp.pos hp.2, wmul hp hx hx, rrest_f hp.pos hp.2, ed]; rfl
        · refine ((Cg.mod p _).mul ((Cg.mod p _).pow _)).trans (.of_eq ?_)
          rw [ex, show n.toNat = 2 * (n / 2).toNat + 1 by omega, Int.pow_succ]; grind
      · obtain ⟨v, hv, hv0, hvc⟩ := ih (n / 2) out ((x * x) % p) (by omega) (by omega) (by omega) ho (md hp _)
        refine ⟨v, Ev.step (f := fun k => primroseref05_Pow.l0 k (n / 2) p out ((x * x) % p)) (fun k => ?_) hv, hv0, hvc.trans ?_⟩
        · rw [primroseref05_Pow.l0, if_pos (by omega), em, if_neg h1, wmul hp hx hx, rrest_f hp.pos hp.2, ed]; rfl
        · refine ((Cg.refl p _).mul ((Cg.mod p _).pow _)).trans (.of_eq ?_)
          rw [ex, show n.toNat = 2 * (n / 2).toNat by omega]
theorem refPow {p a n : Int} (hp : Pr p) (hn : 0 ≤ n) (hb : n ≤ 9223372036854775807) : ∃ v, Ev (fun k => primroseref05_Pow.f k a n p) v ∧ (0 ≤ v ∧ v < p) ∧ Cg p v (a ^ n.toNat) := by
  obtain ⟨v, hv, hv0, hvc⟩ := refPow_l0 hp n.toNat n (1 % p) (a % p) hn (by omega) hb (md hp _) (md hp _)
  refine ⟨v, ?_, hv0, hvc.trans (((Cg.mod p 1).mul ((Cg.mod p a).pow _)).trans (.of_eq (by omega)))⟩
  unfold primroseref05_Pow.f
  refine Ev.bind (refIs p) (ev_pos (isB_true hp) ?_)
  refine Ev.step (f := fun k => primroseref05_Pow.l0 k n p (1 % p) (a % p)) (fun k => ?_) hv
  rw [primroseref05_Pow.j0, if_neg (by simpa using hn), rrest_f hp.pos hp.2, rrest_f hp.pos hp.2]; rfl
theorem refInv {p a : Int} (hp : Pr p) (ha : ¬ Cg p a 0) : ∃ v, Ev (fun k => primroseref05_Inv.f k a p) v ∧ (0 ≤ v ∧ v < p) ∧ Cg p (a * v) 1 := by
  have hne : a % p ≠ 0 := fun h => ha ((Cg.mod p a).symm.trans (.of_eq h))
  have hp2 := hp.two
  have hpb := hp.2
  obtain ⟨v, hv, hv0, hvc⟩ := refPow (a := a) (n := p - 2) hp (by omega) (by omega)
  refine ⟨v, ?_, hv0, ((Cg.refl p a).mul hvc).trans (fermat_inv hp.1 ha)⟩
  unfold primroseref05_Inv.f
  refine Ev.bind (refIs p) (ev_pos (isB_true hp) ?_)
  refine ev_some (rrest_f hp.pos hp.2) (ev_neg hne ?_)
  rw [w64 (x := p - 2) (by omega) (by omega)]
  exact Ev.bind hv (Ev.now _)
theorem refPlain_l1 : ∀ (k : Nat) (l : List Int) (n : Int), primroseref10_Plain.l1 k l n = modular_trim.l0 k l n := by
  intro k
  induction k with
  | zero => intro l n; rfl
  | succ k ih => intro l n; rw [primroseref10_Plain.l1, modular_trim.l0, ih]
theorem refPlain_l0 {p : Int} (hp : Pr p) (l : List Int) (hl : l.length ≤ 1073741824) : ∀ (d : Nat) (out : List Int) (i : Nat), l.length - i = d → i ≤ l.length → out.length = i → Rs p out →
    (∀ j, j < i → Cg p (cf out j) (cf l j)) → Is (fun k => primroseref10_Plain.l0 k l p out (i : Int)) p (cf l) := by
  intro d
  induction d with
  | zero =>
    intro out i hd hi ho hr hc
    refine Is.step (f := fun k => modular_trim.f k out) (fun k => ?_) (trim_is (by omega) hr fun j => ?_)
    · rw [primroseref10_Plain.l0, if_neg (by omega), refPlain_l1]; rfl
    · by_cases hj : j < i
      · exact hc j hj
      · rw [cf_big (l := out) (by omega), cf_big (l := l) (by omega)]; exact .refl _ _
  | succ d ih =>
    intro out i hd hi ho hr hc
    refine Is.step (f := fun k => primroseref10_Plain.l0 k l p (out ++ [cf l i % p]) ((i + 1 : Nat) : Int)) (fun k => ?_) (ih _ (i + 1) (by omega) (by omega) (by simp; omega) ?_ fun j hj => ?_)
    · rw [primroseref10_Plain.l0, if_pos (by omega), if_pos (by omega), rd_cf, rrest_f hp.pos hp.2, Option.bind_some, if_pos (by omega), wsucc (by omega)]
    · intro a ha
      rcases List.mem_append.1 ha with h | h
      · exact hr a h
      · rw [List.mem_singleton.1 h]; exact md hp _
    · rw [cf_snoc]
      by_cases h1 : j = out.length
      · rw [if_pos h1, h1, ho]; exact Cg.mod p _
      · rw [if_neg h1]; exact hc j (by omega)
theorem refPlain_is {p : Int} (hp : Pr p) (l : List Int) (hl : l.length ≤ 1073741824) : Is (fun k => primroseref10_Plain.f k l p) p (cf l) := by
  unfold primroseref10_Plain.f
  exact Is.evb (refIs p) (Is.pos (isB_true hp) (refPlain_l0 hp l hl _ [] 0 rfl (by omega) rfl (rs_nil p) (fun j hj => by omega)))
theorem refAdd_l0 {p : Int} (hp : Pr p) (F G : List Int) (hf : F.length ≤ 536870912) (hg : G.length ≤ 536870912) (hF : Rs p F) (hG : Rs p G) : ∀ (d : Nat) (out : List Int) (i : Nat), max F.length G.length - i = d → i ≤ max F.length G.length → out.length = i →
    (∀ j, j < i → cf out j = cf F j + cf G j) → Is (fun k => primroseref10_Add.l0 k F G p out (i : Int)) p (cf F + cf G) := by
  intro d
  induction d with
  | zero =>
    intro out i hd hi ho hc
    have he : cf out = cf F + cf G := by
      ext j
      rw [Sq.add_at]
      by_cases hj : j < i
      · exact hc j hj
      · rw [cf_big (l := out) (by omega), cf_big (l := F) (by omega), cf_big (l := G) (by omega)]; rfl
    refine Is.step (f := fun k => primroseref10_Add.j1 k F G p out (i : Int) false) (fun k => ?_) (Is.step (f := fun k => (primroseref10_Plain.f k out p).bind fun t => some t) (fun k => ?_) (Is.bind ((refPlain_is hp out (by omega)).cq (.of_eq he)) (fun r h1 h2 => Is.now h1 h2)))
    · rw [primroseref10_Add.l0, if_neg (by omega), decide_eq_false (by omega)]
    · rw [primroseref10_Add.j1, if_neg (by decide)]
  | succ d ih =>
    intro out i hd hi ho hc
    have hfi := hF.at hp.pos i; have hgi := hG.at hp.pos i
    have key := ih (out ++ [cf F i + cf G i]) (i + 1) (by omega) (by omega) (by simp; omega) fun j hj => by
      rw [cf_snoc]
      by_cases h1 : j = out.length
      · rw [if_pos h1, h1, ho]
      · rw [if_neg h1]; exact hc j (by omega)
    refine Is.step (f := fun k => primroseref10_Add.j1 k F G p out (i : Int) true) (fun k => ?_) (Is.step (f := fun k => primroseref10_Add.l0 k F G p (out ++ [cf F i + cf G i]) ((i + 1 : Nat) : Int)) (fun k => ?_) key)
    · rw [primroseref10_Add.l0]
      by_cases h : i < F.length
      · rw [if_pos (by omega)]
      · rw [if_neg (by omega), decide_eq_true (by omega)]
    · rw [primroseref10_Add.j1, if_pos rfl]
      by_cases h : i < F.length
      · rw [if_pos (by omega), if_pos (by omega)]
        by_cases h2 : i < G.length
        · rw [if_pos (by omega), if_pos (by omega), rd_cf, rd_cf, wrs hp hfi, wrs2 hp hfi hgi, wsucc (by omega)]
        · rw [if_neg (by omega), if_pos (by omega), rd_cf, wrs hp hfi, cf_big (l := G) (by omega), Int.add_zero, wsucc (by omega)]
      · rw [if_neg (by omega), if_pos (by omega), if_pos (by omega), if_pos (by omega), rd_cf, wrs hp hgi, cf_big (l := F) (by omega), Int.zero_add, wsucc (by omega)]
theorem refAdd_is {p : Int} (hp : Pr p) (f g : List Int) (hf : f.length ≤ 536870912) (hg : g.length ≤ 536870912) : Is (fun k => primroseref10_Add.f k f g p) p (cf f + cf g) := by
  unfold primroseref10_Add.f
  refine Is.bind_len hp.pos (cf_lt_ p f) (refPlain_is hp f (by omega)) fun F hF hFc hFl => Is.bind_len hp.pos (cf_lt_ p g) (refPlain_is hp g (by omega)) fun G hG hGc hGl => ?_
  exact (refAdd_l0 hp F G (by omega) (by omega) hF.1 hG.1 _ [] 0 rfl (by omega) rfl (fun j hj => by omega)).cq (hFc.add hGc)
theorem refScale_l0 {p : Int} (hp : Pr p) (F : List Int) (c : Int) (hf : F.length ≤ 1073741824) (hF : Rs p F) : ∀ (d : Nat) (out : List Int) (i : Nat), F.length - i = d → i ≤ F.length → out.length = i →
    (∀ j, j < i → cf out j = cf F j * (c % p)) → Is (fun k => primroseref10_Scale.l0 k F c p out (i : Int)) p (sm c (cf F)) := by
  intro d
  induction d with
  | zero =>
    intro out i hd hi ho hc
    have he : Cq p (cf out) (sm c (cf F)) := fun j => by
      rw [sm_at]
      by_cases hj : j < i
      · rw [hc j hj, Int.mul_comm]; exact (Cg.mod p c).mul (.refl _ _)
      · rw [cf_big (l := out) (by omega), cf_big (l := F) (by omega)]; exact .of_eq (by omega)
    refine Is.step (f := fun k => (primroseref10_Plain.f k out p).bind fun t => some t) (fun k => ?_) (Is.bind ((refPlain_is hp out (by omega)).cq he) (fun r h1 h2 => Is.now h1 h2))
    rw [primroseref10_Scale.l0, if_neg (by omega)]
  | succ d ih =>
    intro out i hd hi ho hc
    refine Is.step (f := fun k => primroseref10_Scale.l0 k F c p (out ++ [cf F i * (c % p)]) ((i + 1 : Nat) : Int)) (fun k => ?_) (ih _ (i + 1) (by omega) (by omega) (by simp; omega) fun j hj => ?_)
    · rw [primroseref10_Scale.l0, if_pos (by omega), if_pos (by omega), rrest_f hp.pos hp.2, Option.bind_some, if_pos (by omega), rd_cf, wmul hp (hF.at hp.pos i) (md hp c), wsucc (by omega)]
    · rw [cf_snoc]
      by_cases h1 : j = out.length
      · rw [if_pos h1, h1, ho]
      · rw [if_neg h1]; exact hc j (by omega)
theorem refScale_is {p : Int} (hp : Pr p) (f : List Int) (c : Int) (hf : f.length ≤ 1073741824) : Is (fun k => primroseref10_Scale.f k f c p) p (sm c (cf f)) := by
  unfold primroseref10_Scale.f
  refine Is.bind_len hp.pos (cf_lt_ p f) (refPlain_is hp f hf) fun F hF hFc hFl => ?_
  exact (refScale_l0 hp F c (by omega) hF.1 _ [] 0 rfl (by omega) rfl (fun j hj => by omega)).cq (Cq.sm (.refl _ _) hFc)
theorem up_l0 (l : List Int) (hl : l.length ≤ 1073741824) : ∀ (n : Nat) (out : List Int), out.length + n ≤ 1073741824 → Ev (fun k => primroseref10_up.l0 k l (n : Int) out) (out ++ (List.replicate n 0 ++ l)) := by
  intro n
  induction n with
  | zero =>
    intro out hb
    refine Ev.step (f := fun _ => some (out ++ l)) (fun k => ?_) (Ev.now _)
    rw [primroseref10_up.l0, if_neg (by omega), if_pos (by omega)]
  | succ n ih =>
    intro out hb
    have h := ih (out ++ [0]) (by simp; omega)
    refine Ev.step (f := fun k => primroseref10_up.l0 k l (n : Int) (out ++ [0])) (fun k => ?_) (ev_eq h ?_)
    · rw [primroseref10_up.l0, if_pos (by omega), if_pos (by omega), wpred (n := n + 1) (by omega) (by omega)]; rfl
    · rw [List.append_assoc, List.replicate_succ]; rfl
theorem up_f (l : List Int) (n : Nat) (hl : l.length ≤ 1073741824) (hn : n ≤ 1073741824) : Ev (fun k => primroseref10_up.f k l (n : Int)) (List.replicate n 0 ++ l) := by
  have := up_l0 l hl n [] (by simpa using hn)
  unfold primroseref10_up.f; exact this
theorem cf_up (l : List Int) (n : Nat) : cf (List.replicate n 0 ++ l) = xn n (cf l) := by
  ext j
  rw [cf_append, xn_at, List.length_replicate]
  split
  · exact congrFun (cf_replicate n) j
  · rfl
theorem refMul_l0 {p : Int} (hp : Pr p) (f G : List Int) (hf : f.length ≤ 134217728) (hg : G.length ≤ 134217728) : ∀ (d : Nat) (out : List Int) (i : Nat), G.length - i = d → i ≤ G.length → PL p out → Cq p (cf out) (cf f * cf (G.take i)) →
    Is (fun k => primroseref10_Mul.l0 k f G p out (i : Int)) p (cf f * cf G) := by
  intro d
  induction d with
  | zero =>
    intro out i hd hi ho hc
    rw [show i = G.length by omega, cf_take_all] at hc
    refine Is.step (f := fun _ => some out) (fun k => ?_) (Is.now ho hc)
    rw [primroseref10_Mul.l0, if_neg (by omega)]
  | succ d ih =>
    intro out i hd hi ho hc
    have hol : out.length ≤ f.length + G.length + 1 := ho.le_of hp.pos hc ((cf_lt_ p f).mul' ((cf_lt_ p (G.take i)).mono (by rw [List.length_take]; omega)))
    refine Is.step (f := fun k => (primroseref10_Scale.f k f (cf G i) p).bind fun t365 => ((primroseref10_up.f k t365 (i : Int)).bind fun t368 => ((primroseref10_Add.f k out t368 p).bind fun t371 => (primroseref10_Mul.l0 k f G p t371 ((i + 1 : Nat) : Int))))) (fun k => ?_) ?_
    · rw [primroseref10_Mul.l0, if_pos (by omega), if_pos (by omega), rd_cf, wsucc (by omega)]
    · refine Is.bind_len (n := f.length) hp.pos ?_ (refScale_is hp f (cf G i) (by omega)) fun t ht htc htl => Is.evb (up_f t i (by omega) (by omega)) (Is.bind (refAdd_is hp out (List.replicate i 0 ++ t) (by omega) (by simp; omega)) fun u hu huc => ?_)
      · intro j hj; rw [sm_at, cf_big (l := f) hj]; exact .of_eq (by omega)
      · refine ih u (i + 1) (by omega) (by omega) hu (huc.trans ?_)
        rw [cf_up, cf_take_succ, mul_add]
        refine hc.add ((xn_cq i htc).trans (.of_eq ?_))
        rw [mul_comm (cf f), xn_mul, sm_mul, one_mul]
theorem refMul_is {p : Int} (hp : Pr p) (f g : List Int) (hf : f.length ≤ 134217728) (hg : g.length ≤ 134217728) : Is (fun k => primroseref10_Mul.f k f g p) p (cf f * cf g) := by
  unfold primroseref10_Mul.f
  refine Is.bind_len hp.pos (cf_lt_ p g) (refPlain_is hp g (by omega)) fun G hG hGc hGl => ?_
  exact (refMul_l0 hp f G (by omega) (by omega) _ [] 0 rfl (by omega) (.nil p) (by rw [List.take_zero, cf_nil, mul_zero]; exact .refl _ _)).cq ((Cq.refl p _).mul hGc)
theorem refSub_is {p : Int} (hp : Pr p) (f g : List Int) (hf : f.length ≤ 536870912) (hg : g.length ≤ 536870912) : Is (fun k => primroseref10_Sub.f k f g p) p (cf f - cf g) := by
  unfold primroseref10_Sub.f
  refine Is.bind_len (n := g.length) hp.pos ?_ (refScale_is hp g (-1) (by omega)) fun t ht htc htl => Is.bind (refAdd_is hp f t (by omega) (by omega)) fun u hu huc => Is.now hu (huc.trans ?_)
  · intro j hj; rw [sm_at, cf_big (l := g) hj]; exact .of_eq (by omega)
  · refine ((Cq.refl p _).add htc).trans (.of_eq ?_)
    ext j; rw [Sq.add_at, Sq.sub_at, sm_at]; omega
theorem refDivMod_l0 {p : Int} (hp : Pr p) (F : Sq) (G : List Int) (hG : PL p G) (hG0 : 0 < G.length) (inv : Int) (hi0 : 0 ≤ inv ∧ inv < p) (hinv : Cg p (cf G (G.length - 1) * inv) 1) (L : Nat) (hL : L ≤ 134217728) (hGl : G.length ≤ 134217728) :
    ∀ (m : Nat) (f q : List Int), f.length ≤ m → f.length ≤ L → PL p f → PL p q → q.length ≤ L + 1 → Cq p F (cf q * cf G + cf f) →
    ∃ q' r', Ev (fun k => primroseref10_DivMod.l0 k f G p inv q) (q', r', 0) ∧ QR p F (cf G) q' r' := by
  intro m
  induction m with
  | zero =>
    intro f q hm hfL hf hq hqL hc
    refine ⟨q, f, Ev.step (f := fun _ => some (q, f, 0)) (fun k => ?_) (Ev.now _), hq, hf, hc, G, hG, .refl _ _, by omega⟩
    rw [primroseref10_DivMod.l0, if_neg (by omega)]
  | succ m ih =>
    intro f q hm hfL hf hq hqL hc
    by_cases hge : G.length ≤ f.length
    · have hft := hf.at hp.pos (f.length - 1)
      have hpp := hp.pos
      have hcf1 : cf ([] ++ [cf f (f.length - 1) * inv]) = sm (cf f (f.length - 1) * inv) 1 := by
        ext j; rw [cf_snoc, sm_at, one_at]; simp only [List.length_nil]; split
        · omega
        · rw [congrFun cf_nil j]; simp
      obtain ⟨t, t1, t2, t3, t4⟩ := ((refPlain_is hp (List.replicate (f.length - G.length) 0 ++ ([] ++ [cf f (f.length - 1) * inv])) (by simp; omega)).cq (.of_eq (cf_up _ _))).len (n := f.length - G.length + 1) hp.pos (fun j hj => by
        rw [xn_at, if_neg (by omega), hcf1, sm_at, one_at, if_neg (by omega)]; exact .of_eq (by omega))
      rw [hcf1] at t3
      obtain ⟨q1, a1, a2, a3, a4⟩ := (refAdd_is hp q t (by omega) (by omega)).len (n := L + 1) hp.pos (((cf_lt_ p q).mono (by omega)).add ((cf_lt_ p t).mono (by omega)))
      obtain ⟨u, b1, b2, b3, b4⟩ := (refMul_is hp G t (by omega) (by omega)).len (n := G.length + t.length + 1) hp.pos ((cf_lt_ p G).mul' (cf_lt_ p t))
      have hsub : Cq p (cf f - cf u) (cf f - xn (f.length - G.length) (sm (cf f (f.length - 1) * inv) (cf G))) := (Cq.refl p _).sub (b3.trans (((Cq.refl p (cf G)).mul t3).trans (.of_eq (by rw [mul_comm, xn_mul, sm_mul, one_mul]))))
      obtain ⟨f1, c1, c2, c3, c4⟩ := (refSub_is hp f u (by omega) (by omega)).len (n := f.length - 1) hp.pos (by
        refine Lt.cq (fun j hj => ?_) hsub
        rw [Sq.sub_at, xn_at, if_neg (by omega), sm_at]
        by_cases hj1 : j = f.length - 1
        · subst hj1
          rw [show f.length - 1 - (f.length - G.length) = G.length - 1 by omega]
          refine ((Cg.refl p _).sub ((Cg.of_eq ?_).trans ((Cg.refl p (cf f (f.length - 1))).mul hinv))).trans (.of_eq (by omega))
          grind
        · rw [cf_big (l := f) (by omega), cf_big (l := G) (by omega)]; exact .of_eq (by omega))
      obtain ⟨q', r', d1, d2⟩ := ih f1 q1 (by omega) (by omega) c2 a2 (by omega) (by
        refine hc.trans (Cq.trans ?_ ((a3.symm.mul_right (cf G)).add c3.symm))
        rw [add_mul]
        refine (Cq.of_eq ?_).trans (((Cq.refl p _).add ((Cq.of_eq (mul_comm _ _)).trans b3.symm |>.symm |>.symm)).add (.refl p (cf f - cf u)) |>.symm)
        · ext j; simp only [Sq.add_at, Sq.sub_at]; omega)
      refine ⟨q', r', Ev.step (f := fun k => (primroseref10_up.f k ([] ++ [cf f (f.length - 1) * inv]) ((f.length - G.length : Nat) : Int)).bind fun t402 => ((primroseref10_Plain.f k t402 p).bind fun t405 => ((primroseref10_Add.f k q t405 p).bind fun t408 => ((primroseref10_Mul.f k G t405 p).bind fun t411 => ((primroseref10_Sub.f k f t411 p).bind fun t414 => (primroseref10_DivMod.l0 k t414 G p inv t408)))))) (fun k => ?_)
        (Ev.bind (up_f _ _ (by simp) (by omega)) (Ev.bind t1 (Ev.bind a1 (Ev.bind b1 (Ev.bind c1 d1))))), d2⟩
      rw [primroseref10_DivMod.l0, if_pos (by omega), wpred (by omega) (by omega), if_pos (by omega), if_pos (by omega), if_pos (by simp), rd_cf, wmul hp hft hi0, wn (n := f.length - G.length) (by omega) (by omega)]
    · refine ⟨q, f, Ev.step (f := fun _ => some (q, f, 0)) (fun k => ?_) (Ev.now _), hq, hf, hc, G, hG, .refl _ _, by omega⟩
      rw [primroseref10_DivMod.l0, if_neg (by omega)]
theorem ref_dm {p : Int} (hp : Pr p) (f g : List Int) (hf : f.length ≤ 134217728) (hg : g.length ≤ 134217728) (hz : ¬ Cq p (cf g) 0) : ∃ q r, Ev (fun k => primroseref10_DivMod.f k f g p) (q, r, 0) ∧ QR p (cf f) (cf g) q r := by
  obtain ⟨F, a1, a2, a3, a4⟩ := (refPlain_is hp f (by omega)).len hp.pos (cf_lt_ p f)
  obtain ⟨G, h1, h2, h3, h4⟩ := (refPlain_is hp g (by omega)).len hp.pos (cf_lt_ p g)
  have h0 : G.length ≠ 0 := fun h => hz (h3.symm.trans ((h2.len_iff hp.pos).1 h))
  obtain ⟨inv, b1, b2, b3⟩ := refInv hp (h2.last hp.pos (by omega))
  obtain ⟨q, r, k1, k2⟩ := refDivMod_l0 hp (cf f) G h2 (by omega) inv b2 b3 F.length (by omega) (by omega) F.length F [] (by omega) (by omega) a2 (.nil p) (by simp) (by rw [cf_nil, zero_mul, zero_add]; exact a3.symm)
  refine ⟨q, r, ?_, k2.cq (.refl _ _) h3⟩
  unfold primroseref10_DivMod.f
  refine Ev.bind (refIs p) (ev_pos (isB_true hp) (Ev.bind a1 (Ev.bind h1 (ev_neg (by omega) ?_))))
  rw [wpred (by omega) (by omega)]
  refine ev_pos (by omega) (ev_pos (by omega) ?_)
  rw [rd_cf]
  exact Ev.bind b1 k1
theorem refRest {p : Int} (hp : Pr p) (f g : List Int) (hf : f.length ≤ 134217728) (hg : g.length ≤ 134217728) (hz : ¬ Cq p (cf g) 0) : ∃ q r, Ev (fun k => primroseref10_Rest.f k f g p) r ∧ QR p (cf f) (cf g) q r := by
  obtain ⟨q, r, h1, h2⟩ := ref_dm hp f g hf hg hz
  exact ⟨q, r, Ev.bind h1 (Ev.now _), h2⟩
end Go.Proofs.Ytiflghgebeadiaa.Alg
end
section
namespace Go.Proofs.Ytiflghgebeadiaa.Alg
open Go.RowKit Go.Proofs.YtiflghgebeadiaaW.PrintWords Go.Proofs.YtiflghgebeadiaaW.PrintMore Go.Proofs.Ytiflghgebeadiaa.M Sq
set_option linter.unusedVariables false
set_option linter.unusedSimpArgs false
theorem refMonic {p : Int} (hp : Pr p) (f : List Int) (hf : f.length ≤ 1073741824) : ∃ m, Ev (fun k => primroseref10_Monic.f k f p) m ∧ Mn p (cf f) m := by
  obtain ⟨F, a1, a2, a3, a4⟩ := (refPlain_is hp f hf).len hp.pos (cf_lt_ p f)
  by_cases h0 : F.length = 0
  · refine ⟨F, ?_, a2, .inl ⟨a3.symm.trans ((a2.len_iff hp.pos).1 h0), List.length_eq_zero_iff.1 h0⟩⟩
    unfold primroseref10_Monic.f
    exact Ev.bind a1 (ev_pos (by omega) (Ev.now _))
  · obtain ⟨v, b1, b2, b3⟩ := refInv hp (a2.last hp.pos (by omega))
    obtain ⟨m, c1, c2, c3⟩ := refScale_is hp F v (by omega)
    refine ⟨m, ?_, (mn_of hp a2 (by omega) b3 c2 c3).cq a3⟩
    unfold primroseref10_Monic.f
    refine Ev.bind a1 (ev_neg (by omega) ?_)
    rw [wpred (by omega) (by omega)]
    refine ev_pos (by omega) (ev_pos (by omega) ?_)
    rw [rd_cf]
    exact Ev.bind b1 (Ev.bind c1 (Ev.now _))
theorem refGcd_l0 {p : Int} (hp : Pr p) : ∀ (n : Nat) (f g : List Int), g.length ≤ n → PL p f → PL p g → f.length ≤ 134217728 → g.length ≤ 134217728 →
    ∃ d m, Eu p f g d ∧ PL p d ∧ Ev (fun k => primroseref10_Gcd.l0 k f g p) m ∧ Mn p (cf d) m := by
  intro n
  induction n with
  | zero =>
    intro f g hn hf hg hfl hgl
    have h0 : g = [] := List.length_eq_zero_iff.1 (by omega)
    subst h0
    obtain ⟨m, h1, h2⟩ := refMonic hp f (by omega)
    refine ⟨f, m, .done f, hf, Ev.step (f := fun k => (primroseref10_Monic.f k f p).bind fun t => some t) (fun k => ?_) (Ev.bind h1 (Ev.now _)), h2⟩
    rw [primroseref10_Gcd.l0, if_neg (by simp)]
  | succ n ih =>
    intro f g hn hf hg hfl hgl
    by_cases h0 : g = []
    · subst h0; exact ih f [] (by simp) hf hg hfl hgl
    · have hpos : 0 < g.length := List.length_pos_iff.2 h0
      obtain ⟨q, r, k1, k2⟩ := refRest hp f g hfl hgl (plz hp hg h0)
      have hrl : r.length < g.length := by
        obtain ⟨e, he, hec, hel⟩ := k2.lt
        rwa [he.ext hg hp.pos hec] at hel
      obtain ⟨d, m, h1, h2, h3, h4⟩ := ih g r (by omega) hg k2.pr hgl (by omega)
      refine ⟨d, m, .step h0 k2 h1, h2, Ev.step (f := fun k => (primroseref10_Rest.f k f g p).bind fun b => primroseref10_Gcd.l0 k g b p) (fun k => ?_) (Ev.bind k1 h3), h4⟩
      rw [primroseref10_Gcd.l0, if_pos (by omega)]
theorem refGcd {p : Int} (hp : Pr p) (f g : List Int) (hf : f.length ≤ 134217728) (hg : g.length ≤ 134217728) : ∃ F G d m, PL p F ∧ PL p G ∧ Cq p (cf F) (cf f) ∧ Cq p (cf G) (cf g) ∧ Eu p F G d ∧ PL p d ∧ Ev (fun k => primroseref10_Gcd.f k f g p) m ∧ Mn p (cf d) m := by
  obtain ⟨F, a1, a2, a3, a4⟩ := (refPlain_is hp f (by omega)).len hp.pos (cf_lt_ p f)
  obtain ⟨G, b1, b2, b3, b4⟩ := (refPlain_is hp g (by omega)).len hp.pos (cf_lt_ p g)
  obtain ⟨d, m, h1, h2, h3, h4⟩ := refGcd_l0 hp G.length F G (Nat.le_refl _) a2 b2 (by omega) (by omega)
  exact ⟨F, G, d, m, a2, b2, a3, b3, h1, h2, by unfold primroseref10_Gcd.f; exact Ev.bind a1 (Ev.bind b1 h3), h4⟩
end Go.Proofs.Ytiflghgebeadiaa.Alg
end
section
namespace Go.Proofs.Ytiflghgebeadiaa.Alg
open Go.RowKit Go.Proofs.YtiflghgebeadiaaW.PrintWords Go.Proofs.YtiflghgebeadiaaW.PrintMore Go.Proofs.Ytiflghgebeadiaa.M Sq
set_option linter.unusedVariables false
set_option linter.unusedSimpArgs false
structure Gd (p : Int) (A B : Sq) (m : List Int) : Prop where
  pl : PL p m
  dl : Dd p (cf m) A
  dr : Dd p (cf m) B
  great : ∀ C, Dd p C A → Dd p C B → Dd p C (cf m)
  top : 0 < m.length → cf m (m.length - 1) = 1
theorem Dd.sm {p : Int} {c a : Sq} (v : Int) (h : Dd p c a) : Dd p c (Sq.sm v a) := by
  obtain ⟨s, hs, h⟩ := h
  exact ⟨Sq.sm v s, fin_sm v hs, (Cq.sm (.refl p v) h).trans (.of_eq (by rw [sm_mul]))⟩
theorem Gd.of_eu {p : Int} (hp : Pr p) {F G d m : List Int} {A B : Sq} (hF : Cq p (cf F) A) (hG : Cq p (cf G) B) (h : Eu p F G d) (hm : Mn p (cf d) m) : Gd p A B m := by
  refine ⟨hm.pl, (hm.dvd hp h.dvd.1).cq (.refl _ _) hF, (hm.dvd hp h.dvd.2).cq (.refl _ _) hG, fun C hA hB => ?_, fun h0 => ?_⟩
  · have h1 := h.great (hA.cq (.refl _ _) hF.symm) (hB.cq (.refl _ _) hG.symm)
    rcases hm.eq with ⟨hz, e⟩ | ⟨_, _, v, _, hc⟩
    · rw [e, cf_nil]; exact Dd.zero (.refl _ _)
    · exact (h1.sm v).cq (.refl _ _) hc.symm
  · rcases hm.eq with ⟨_, e⟩ | ⟨_, ht, _⟩
    · rw [e] at h0; simp at h0
    · exact ht
theorem progGcd_gd {p : Int} (hp : Pr p) (f g : List Int) (hf : f.length ≤ 1073741824) (hg : g.length ≤ 1073741824) : ∃ m, Ev (fun k => modular_Gcd.f k f g p) m ∧ Gd p (cf f) (cf g) m := by
  obtain ⟨F, G, d, m, _, _, h1, h2, h3, _, h4, h5⟩ := progGcd hp f g hf hg
  exact ⟨m, h4, .of_eu hp h1 h2 h3 h5⟩
theorem refGcd_gd {p : Int} (hp : Pr p) (f g : List Int) (hf : f.length ≤ 134217728) (hg : g.length ≤ 134217728) : ∃ m, Ev (fun k => primroseref10_Gcd.f k f g p) m ∧ Gd p (cf f) (cf g) m := by
  obtain ⟨F, G, d, m, _, _, h1, h2, h3, _, h4, h5⟩ := refGcd hp f g hf hg
  exact ⟨m, h4, .of_eu hp h1 h2 h3 h5⟩
theorem Gd.cq {p : Int} {A B A' B' : Sq} {m : List Int} (h : Gd p A B m) (hA : Cq p A A') (hB : Cq p B B') : Gd p A' B' m :=
  ⟨h.pl, h.dl.cq (.refl _ _) hA, h.dr.cq (.refl _ _) hB, fun C a b => h.great C (a.cq (.refl _ _) hA.symm) (b.cq (.refl _ _) hB.symm), h.top⟩
theorem Gd.ne {p : Int} (hp : Pr p) {A B : Sq} {m : List Int} (h : Gd p A B m) (hB : ¬ Cq p B 0) : m ≠ [] := fun e => by
  obtain ⟨s, _, hs⟩ := h.dr
  rw [e, cf_nil, mul_zero] at hs
  exact hB hs
theorem listOf {p : Int} (hp : Pr p) {s : Sq} (h : Fin_ p s) : ∃ S, PL p S ∧ Cq p (cf S) s := by
  by_cases hz : Cq p s 0
  · exact ⟨[], .nil p, by rw [cf_nil]; exact hz.symm⟩
  · obtain ⟨n, hn⟩ := h
    obtain ⟨m, _, h1, h2⟩ := last hn hz
    have hc : Cq p (cf ((List.range (m + 1)).map (fun j => s j % p))) s := fun i => by
      have := cf_ofFn (fun j => s j % p) (m + 1) i
      rw [this]
      split
      · exact Cg.mod p _
      · exact (h2 i (by omega)).symm
    refine ⟨_, ⟨fun a ha => ?_, fun _ h0 => ?_⟩, hc⟩
    · obtain ⟨j, _, rfl⟩ := List.mem_map.1 ha
      exact ⟨Int.emod_nonneg _ (by have := hp.pos; omega), Int.emod_lt_of_pos _ hp.pos⟩
    · have h3 := hc m
      have h4 : ((List.range (m + 1)).map (fun j => s j % p)).length - 1 = m := by simp
      rw [h4] at h0
      rw [h0] at h3
      exact h1 h3.symm
theorem pl_ne {p : Int} (hp : Pr p) {a : List Int} (ha : PL p a) (h0 : a ≠ []) : ¬ Cq p (cf a) 0 := plz hp ha h0
theorem len_mul {p : Int} (hp : Pr p) {a b t : List Int} (ha : PL p a) (hb : PL p b) (ht : PL p t) (ha0 : a ≠ []) (hb0 : b ≠ []) (h : Cq p (cf t) (cf a * cf b)) : t.length + 1 = a.length + b.length ∧ Cg p (cf t (t.length - 1)) (cf a (a.length - 1) * cf b (b.length - 1)) := by
  have h1 := List.length_pos_iff.2 ha0
  have h2 := List.length_pos_iff.2 hb0
  have ht1 := top (p := p) (a := cf a) (b := cf b) (m := a.length - 1) (e := b.length - 1) (fun i hi => cf_lt_ p a i (by omega)) (fun j hj => cf_lt_ p b j (by omega))
  have hge : a.length - 1 + (b.length - 1) < t.length := Nat.lt_of_not_le fun hle => by
    have h3 := h (a.length - 1 + (b.length - 1))
    rw [cf_big (l := t) hle] at h3
    rcases hp.1.cg_mul (ht1.1.symm.trans h3.symm) with h4 | h4
    · exact ha.last hp.pos h1 h4
    · exact hb.last hp.pos h2 h4
  have hle : t.length ≤ a.length - 1 + (b.length - 1) + 1 := ht.le_of hp.pos h (fun i hi => ht1.2 i (by omega))
  refine ⟨by omega, ?_⟩
  rw [show t.length - 1 = a.length - 1 + (b.length - 1) by omega]
  exact (h _).trans ht1.1
theorem Dd.list {p : Int} (hp : Pr p) {c a : Sq} (h : Dd p c a) : ∃ S, PL p S ∧ Cq p a (cf S * c) := by
  obtain ⟨s, hs, h⟩ := h
  obtain ⟨S, h1, h2⟩ := listOf hp hs
  exact ⟨S, h1, h.trans (h2.symm.mul (.refl _ _))⟩
theorem Dd.len {p : Int} (hp : Pr p) {a b : List Int} (ha : PL p a) (hb : PL p b) (hb0 : b ≠ []) (h : Dd p (cf a) (cf b)) : a ≠ [] ∧ a.length ≤ b.length := by
  obtain ⟨S, h1, h2⟩ := h.list hp
  have hz := pl_ne hp hb hb0
  have ha0 : a ≠ [] := fun e => hz (by rw [e, cf_nil, mul_zero] at h2; exact h2)
  have hS0 : S ≠ [] := fun e => hz (by rw [e, cf_nil, zero_mul] at h2; exact h2)
  have := (len_mul hp h1 ha hb hS0 ha0 h2).1
  have := List.length_pos_iff.2 hS0
  exact ⟨ha0, by omega⟩
structure Mo (p : Int) (m : List Int) : Prop where
  pl : PL p m
  pos : 0 < m.length
  top : cf m (m.length - 1) = 1
theorem Mo.ne {p : Int} {m : List Int} (h : Mo p m) : m ≠ [] := List.length_pos_iff.1 h.pos
theorem Mo.nz {p : Int} (hp : Pr p) {m : List Int} (h : Mo p m) : ¬ Cq p (cf m) 0 := pl_ne hp h.pl h.ne
theorem Gd.mo {p : Int} (hp : Pr p) {A B : Sq} {m : List Int} (h : Gd p A B m) (hB : ¬ Cq p B 0) : Mo p m :=
  ⟨h.pl, List.length_pos_iff.2 (h.ne hp hB), h.top (List.length_pos_iff.2 (h.ne hp hB))⟩
theorem Mn.mo {p : Int} (hp : Pr p) {F : Sq} {m : List Int} (h : Mn p F m) (h0 : m ≠ []) : Mo p m := by
  rcases h.eq with ⟨_, e⟩ | ⟨h1, h2, _⟩
  · exact absurd e h0
  · exact ⟨h.pl, h1, h2⟩
theorem pl_one (p : Int) (hp : Pr p) : PL p [1] := ⟨fun a ha => by have := hp.two; simp at ha; omega, fun _ => by simp [cf]⟩
theorem Mo.one_of {p : Int} {m : List Int} (h : Mo p m) (hl : m.length ≤ 1) : m = [1] := by
  have h1 := h.pos
  have h2 := h.top
  match m, h1, hl with
  | [a], _, _ =>
    have : a = 1 := by simpa [cf] using h2
    rw [this]
theorem Mo.mul_one_of {p : Int} (hp : Pr p) {a b : List Int} (ha : Mo p a) (hb : Mo p b) (h : Dd p (cf a) (cf b)) (k : Dd p (cf b) (cf a)) : a = b := by
  have h1 := (h.len hp ha.pl hb.pl hb.ne).2
  have h2 := (k.len hp hb.pl ha.pl ha.ne).2
  obtain ⟨c, hc, hcq⟩ := assoc hp (fin_cf p a) h k (ha.nz hp)
  have h3 := hcq (b.length - 1)
  rw [hb.top, sm_at, show b.length - 1 = a.length - 1 by omega, ha.top] at h3
  refine ha.pl.ext hb.pl hp.pos ?_
  refine Cq.symm (hcq.trans fun i => ?_)
  rw [sm_at]
  have h4 : Cg p c 1 := (Cg.of_eq (by omega)).trans h3.symm
  exact (h4.mul (.refl p _)).trans (.of_eq (by omega))
theorem Dd.fin {p : Int} {c a : Sq} (h : Dd p c a) (hc : Fin_ p c) : Fin_ p a := by
  obtain ⟨s, hs, h⟩ := h
  obtain ⟨n, hn⟩ := hs.mul hc
  exact ⟨n, hn.cq h⟩
def Cop (p : Int) (A B : Sq) : Prop := ∀ C, Dd p C A → Dd p C B → Dd p C 1
theorem Gd.cop {p : Int} (hp : Pr p) {A B : Sq} {m : List Int} (h : Gd p A B m) (hB : ¬ Cq p B 0) : m.length ≤ 1 ↔ Cop p A B := by
  constructor
  · intro hl C a b
    have := h.great C a b
    rwa [(h.mo hp hB).one_of hl, cf_1] at this
  · intro hc
    have h1 := hc (cf m) h.dl h.dr
    rw [← cf_1] at h1
    exact (h1.len hp h.pl (pl_one p hp) (by simp)).2
theorem Cm.dd {p : Int} {M A B C : Sq} (h : Cm p M A B) (hM : Dd p C M) (hB : Dd p C B) : Dd p C A := by
  obtain ⟨q, hq, hc⟩ := h
  exact ((hM.mul q hq).add hB).cq (.refl _ _) hc.symm
theorem Cop.cm {p : Int} {M A B : Sq} (h : Cm p M A B) (k : Cop p A M) : Cop p B M := fun C a b => k C (h.dd b a) b
theorem Dd.cm {p : Int} {M A : Sq} : Dd p M A ↔ Cm p M A 0 := by
  constructor
  · rintro ⟨s, hs, h⟩; exact ⟨s, hs, by rw [add_zero]; exact h⟩
  · rintro ⟨s, hs, h⟩; exact ⟨s, hs, by rw [add_zero] at h; exact h⟩
theorem prog_over {p : Int} (hp : Pr p) (a h : List Int) (ha : PL p a) (ha0 : a ≠ []) (hh : PL p h) (hal : a.length ≤ 1000000) (hd : Dd p (cf h) (cf a)) :
    ∃ q, Ev (fun k => modular_DivMod.f k a h p) (q, [], 0) ∧ PL p q ∧ q ≠ [] ∧ Cq p (cf a) (cf q * cf h) ∧ q.length + h.length = a.length + 1 := by
  obtain ⟨hh0, hhl⟩ := hd.len hp hh ha ha0
  obtain ⟨q, r, h1, h2⟩ := prog_dm hp a h (by omega) (by omega) (pl_ne hp hh hh0)
  have hr : r = [] := rest_nil hp hh (List.length_pos_iff.2 hh0) h2 hd
  subst hr
  have h3 : Cq p (cf a) (cf q * cf h) := by have := h2.eq; rw [cf_nil, add_zero] at this; exact this
  have hq0 : q ≠ [] := fun e => pl_ne hp ha ha0 (by rw [e, cf_nil, zero_mul] at h3; exact h3)
  exact ⟨q, h1, h2.pq, hq0, h3, (len_mul hp h2.pq hh ha hq0 hh0 h3).1.symm⟩
structure Prm (p : Int) (Q : Sq) : Prop where
  fin : Fin_ p Q
  parts : ∀ A B, Fin_ p A → Fin_ p B → Dd p Q (A * B) → Dd p Q A ∨ Dd p Q B
end Go.Proofs.Ytiflghgebeadiaa.Alg
end
section
namespace Go.Proofs.Ytiflghgebeadiaa.Alg
open Go.RowKit Go.Proofs.YtiflghgebeadiaaW.PrintWords Go.Proofs.YtiflghgebeadiaaW.PrintMore Go.Proofs.Ytiflghgebeadiaa.M Sq
set_option linter.unusedVariables false
set_option linter.unusedSimpArgs false
structure L1 (p : Int) (left h lf : List Int) : Prop where
  pl : PL p lf
  ne : lf ≠ []
  dv : Dd p (cf lf) (cf left)
  same : h.length ≤ 1 → lf = left
  less : 1 < h.length → lf.length < left.length
  cop : Cop p (cf lf) (cf h)
  kept : ∀ Q, Prm p Q → Dd p Q (cf left) → ¬ Dd p Q (cf h) → Dd p Q (cf lf)
theorem over_is {p : Int} (hp : Pr p) (a h : List Int) (ha : PL p a) (ha0 : a ≠ []) (hh : PL p h) (hal : a.length ≤ 1000000) (hd : Dd p (cf h) (cf a)) :
    ∃ q, Ev (fun k => split_splitter_over.f k p a h) q ∧ PL p q ∧ q ≠ [] ∧ Cq p (cf a) (cf q * cf h) ∧ q.length + h.length = a.length + 1 := by
  obtain ⟨q, h1, h2⟩ := prog_over hp a h ha ha0 hh hal hd
  exact ⟨q, by unfold split_splitter_over.f; exact Ev.bind h1 (Ev.now _), h2⟩
theorem l1_is {p : Int} (hp : Pr p) : ∀ (N : Nat) (left h : List Int), left.length ≤ N → PL p left → left ≠ [] → Mo p h → Dd p (cf h) (cf left) → left.length ≤ 100000 →
    ∃ lf, Ev (fun k => split_splitter_degrees.l1 k p left h) lf ∧ L1 p left h lf := by
  intro N
  induction N with
  | zero => intro left h hl _ h0; exact absurd (List.length_eq_zero_iff.1 (by omega)) h0
  | succ N ih =>
    intro left h hl hpl hne hm hd hb
    by_cases h1 : 1 < h.length
    · obtain ⟨q, q1, q2, q3, q4, q5⟩ := over_is hp left h hpl hne hm.pl (by omega) hd
      obtain ⟨h2, k1, k2⟩ := progGcd_gd hp q h (by omega) (by omega)
      have hm2 := k2.mo hp (hm.nz hp)
      obtain ⟨lf, e1, e2⟩ := ih q h2 (by omega) q2 q3 hm2 k2.dl (by omega)
      have hql : Dd p (cf q) (cf left) := ⟨cf h, fin_cf p h, by rw [mul_comm]; exact q4⟩
      refine ⟨lf, Ev.step (f := fun k => (split_splitter_over.f k p left h).bind fun left' => (modular_Gcd.f k left' h p).bind fun h' => split_splitter_degrees.l1 k p left' h') (fun k => ?_) (Ev.bind q1 (Ev.bind k1 e1)), e2.pl, e2.ne, e2.dv.trans hql, fun hc => by omega, fun _ => ?_, fun C a b => ?_, fun Q hQ a b => ?_⟩
      · rw [split_splitter_degrees.l1, if_pos h1]
      · have := (e2.dv.len hp e2.pl q2 q3).2; omega
      · exact e2.cop C a (k2.great C (a.trans e2.dv) b)
      · refine e2.kept Q hQ ?_ (fun hc => b (hc.trans k2.dr))
        rcases hQ.parts _ _ (fin_cf p q) (fin_cf p h) (a.cq (.refl _ _) q4) with c | c
        · exact c
        · exact absurd c b
    · have e := hm.one_of (by omega)
      refine ⟨left, Ev.step (f := fun _ => some left) (fun k => ?_) (Ev.now _), hpl, hne, .refl _ _, fun _ => rfl, fun h => absurd h h1, fun C a b => ?_, fun Q hQ a _ => a⟩
      · rw [split_splitter_degrees.l1, if_neg h1]
      · rwa [e, cf_1] at b
abbrev Xv : Sq := cf [0, 1]
def fr (p : Int) (i : Nat) : Sq := Xv ^ (p.toNat ^ i)
theorem fin_fr (p : Int) (i : Nat) : Fin_ p (fr p i) := (fin_cf p _).pow _
theorem fr_zero (p : Int) : fr p 0 = Xv := by unfold fr; rw [Nat.pow_zero, pow_one]
theorem fr_succ (p : Int) (i : Nat) : fr p (i + 1) = fr p i ^ p.toNat := by unfold fr; rw [Nat.pow_succ, pow_mul]
theorem fr_add (p : Int) (i j : Nat) : fr p (i + j) = fr p i ^ (p.toNat ^ j) := by unfold fr; rw [Nat.pow_add, pow_mul]
theorem Cm.mono {p : Int} {M N A B : Sq} (h : Cm p M A B) (k : Dd p N M) : Cm p N A B := by
  obtain ⟨q, hq, h⟩ := h; obtain ⟨s, hs, k⟩ := k
  refine ⟨q * s, hq.mul hs, h.trans ?_⟩
  rw [mul_assoc]
  exact (((Cq.refl p q).mul k)).add (.refl _ _)
theorem Cm.neg {p : Int} {M A B : Sq} (h : Cm p M A B) : Cm p M (-A) (-B) := by
  obtain ⟨q, hq, h⟩ := h
  refine ⟨-q, hq.neg, ?_⟩
  have : -(q * M + B) = -q * M + -B := by rw [neg_mul]; ext n; simp; omega
  rw [← this]; exact h.neg
theorem Cm.sub {p : Int} {M A B C D : Sq} (h : Cm p M A B) (k : Cm p M C D) : Cm p M (A - C) (B - D) := by
  rw [sub_eq, sub_eq]; exact h.add k.neg
theorem Gd.cm {p : Int} {A A' B : Sq} {m : List Int} (h : Gd p A B m) (e : Cm p B A A') : Gd p A' B m :=
  ⟨h.pl, e.symm.dd h.dr h.dl, h.dr, fun C a b => h.great C (e.dd b a) b, h.top⟩
inductive Run (p : Int) (M : List Int) : Nat → List Int → List (List Int) → Prop
  | done {i : Nat} {left : List Int} : M.length - 1 ≤ i → Run p M i left []
  | step {i : Nat} {left g lf : List Int} {gs : List (List Int)} : i < M.length - 1 → Gd p (fr p (i + 1) - Xv) (cf left) g → Mo p g → L1 p left g lf → Run p M (i + 1) lf gs → Run p M i left (g :: gs)
theorem raise_is {p : Int} (hp : Pr p) (M : List Int) (hM : Mo p M) (hl : M.length ≤ 1000000) {f : List Int} (hf : f.length ≤ 1000000) {n : Int} (hn : 0 ≤ n) : ∃ r, Ev (fun k => split_splitter_raise.f k p f n M) r ∧ Rm p (cf M) (cf f ^ n.toNat) r := by
  obtain ⟨r, h1, h2⟩ := progPow hp f hf hn M hl (hM.nz hp)
  exact ⟨r, by unfold split_splitter_raise.f; exact Ev.bind h1 (Ev.now _), h2⟩
theorem rest_is {p : Int} (hp : Pr p) (M : List Int) (hM : Mo p M) (hl : M.length ≤ 1000000) {f : List Int} (hf : f.length ≤ 1000000) : ∃ r, Ev (fun k => split_splitter_rest.f k p f M) r ∧ Rm p (cf M) (cf f) r := by
  obtain ⟨q, r, h1, h2⟩ := prog_dm hp f M (by omega) (by omega) (hM.nz hp)
  exact ⟨r, by unfold split_splitter_rest.f; exact Ev.bind h1 (Ev.now _), h2.rm⟩
theorem l0_is {p : Int} (hp : Pr p) (M : List Int) (hM : Mo p M) (hl : M.length ≤ 100000) : ∀ (d i : Nat) (out : List (List Int)) (left power : List Int), i + d = M.length - 1 → out.length = i → PL p left → left ≠ [] → Dd p (cf left) (cf M) → Rm p (cf M) (fr p i) power →
    ∃ gs, Ev (fun k => split_splitter_degrees.l0 k p M out left power (i : Int)) (out ++ gs) ∧ Run p M i left gs := by
  intro d
  induction d with
  | zero =>
    intro i out left power hi ho hpl hne hdv hpw
    refine ⟨[], Ev.step (f := fun _ => some (out ++ [])) (fun k => ?_) (Ev.now _), .done (by omega)⟩
    rw [split_splitter_degrees.l0, if_neg (by omega), List.append_nil]
  | succ d ih =>
    intro i out left power hi ho hpl hne hdv hpw
    have hpos := hp.pos
    have hll := (hdv.len hp hpl hM.pl hM.ne).2
    obtain ⟨pw, w1, w2⟩ := raise_is hp M hM (by omega) (f := power) (by have := hpw.len hp (cf_lt_ p M); omega) (n := p) (by omega)
    have hfr : Rm p (cf M) (fr p (i + 1)) pw := by
      refine w2.cm ?_
      rw [fr_succ]
      exact hpw.eq.pow (fin_fr p i) (fin_cf p _) _
    have hpwl := hfr.len hp (cf_lt_ p M)
    obtain ⟨s, s1, s2, s3⟩ := progSub_is hp pw [0, 1] (by omega) (by simp)
    have hsl : s.length ≤ max pw.length 2 := s2.le_of hp.pos s3 (Lt.sub ((cf_lt_ p pw).mono (by omega)) ((cf_lt_ p [0, 1]).mono (by simp; omega)))
    obtain ⟨g, g1, g2⟩ := progGcd_gd hp s left (by omega) (by omega)
    have hgd : Gd p (fr p (i + 1) - Xv) (cf left) g := by
      refine (g2.cq s3 (.refl _ _)).cm ?_
      exact (hfr.eq.symm.mono hdv).sub (.refl _ _ _)
    have hmo := hgd.mo hp (pl_ne hp hpl hne)
    obtain ⟨lf, f1, f2⟩ := l1_is hp left.length left g (Nat.le_refl _) hpl hne hmo hgd.dr (by omega)
    obtain ⟨gs, e1, e2⟩ := ih (i + 1) (out ++ [g]) lf pw (by omega) (by simp [ho]) f2.pl f2.ne (f2.dv.trans hdv) hfr
    refine ⟨g :: gs, Ev.step (f := fun k => (split_splitter_raise.f k p power p M).bind fun power' => (modular_Sub.f k power' [0, 1] p).bind fun s => (modular_Gcd.f k s left p).bind fun g => if out.length < 5864062014805 then (split_splitter_degrees.l1 k p left g).bind fun left' => split_splitter_degrees.l0 k p M (out ++ [g]) left' power' ((i + 1 : Nat) : Int) else none) (fun k => ?_)
      (Ev.bind w1 (Ev.bind s1 (Ev.bind g1 (ev_pos (by omega) (Ev.bind f1 (ev_eq e1 (by simp))))))), .step (by omega) hgd hmo f2 e2⟩
    rw [split_splitter_degrees.l0, if_pos (by omega), w64 (x := (i : Int) + 1) (by omega) (by omega)]
    rfl
theorem degrees_is {p : Int} (hp : Pr p) (M : List Int) (hM : Mo p M) (hl : M.length ≤ 100000) : ∃ gs, Ev (fun k => split_splitter_degrees.f k p M) gs ∧ Run p M 0 M gs := by
  obtain ⟨x0, h1, h2⟩ := rest_is hp M hM (by omega) (f := [0, 1]) (by simp)
  obtain ⟨gs, e1, e2⟩ := l0_is hp M hM hl (M.length - 1) 0 [] M x0 (by omega) rfl hM.pl hM.ne (.refl _ _) (by rw [fr_zero]; exact h2)
  exact ⟨gs, by unfold split_splitter_degrees.f; exact Ev.bind h1 (by simpa using e1), e2⟩
theorem Run.len {p : Int} {M : List Int} {i : Nat} {left : List Int} {gs : List (List Int)} (h : Run p M i left gs) : i ≤ M.length - 1 → gs.length + i = M.length - 1 := by
  induction h with
  | done h => intro h2; simp; omega
  | step h _ _ _ _ ih => intro _; have := ih (by omega); simp; omega
end Go.Proofs.Ytiflghgebeadiaa.Alg
end
section
namespace Go.Proofs.Ytiflghgebeadiaa.Alg
open Go.RowKit Go.Proofs.YtiflghgebeadiaaW.PrintWords Go.Proofs.YtiflghgebeadiaaW.PrintMore Go.Proofs.Ytiflghgebeadiaa.M Sq
set_option linter.unusedVariables false
set_option linter.unusedSimpArgs false
theorem awake11 : Ev (fun k => primroselaw11_awake.f k) true := by
  have h : ∀ m, primroselaw11_awake.f (m + 40) = some true := fun m => by kernel_rfl
  exact ⟨40, fun k hk => by rw [show k = (k - 40) + 40 by omega]; exact h _⟩
theorem asked_no {p : Int} (hp : ¬ Pr p) (f : List Int) : Ev (fun k => split_asked.f k f p) ([], 50) := by
  unfold split_asked.f
  exact Ev.bind (progIs p) (ev_neg (by rw [isB_false hp]; decide) (Ev.now _))
theorem asked_any {p : Int} (hp : Pr p) (f : List Int) (hf : f.length ≤ 1073741824) : ∃ m, Mn p (cf f) m ∧ Ev (fun k => split_asked.f k f p) (if m.length = 0 then ([], 30) else (m, 0)) := by
  obtain ⟨m, h1, h2⟩ := progMonic hp f hf
  refine ⟨m, h2, ?_⟩
  unfold split_asked.f
  refine Ev.bind (progIs p) (ev_pos (isB_true hp) (Ev.bind h1 ?_))
  by_cases h : m.length = 0
  · rw [if_pos h]; exact ev_pos (by omega) (Ev.now _)
  · rw [if_neg h]; exact ev_neg (by omega) (Ev.now _)
theorem degrees_err {p e : Int} {f : List Int} (he : e ≠ 0) (h : Ev (fun k => split_asked.f k f p) ([], e)) : Ev (fun k => split_Degrees.f k f p) ([], e) := by
  unfold split_Degrees.f
  exact Ev.bind h (ev_neg he (Ev.now _))
end Go.Proofs.Ytiflghgebeadiaa.Alg
end
section
namespace Go.Proofs.Ytiflghgebeadiaa.Alg
open Go.RowKit Go.Proofs.YtiflghgebeadiaaW.PrintWords Go.Proofs.YtiflghgebeadiaaW.PrintMore Go.Proofs.Ytiflghgebeadiaa.M Sq
set_option linter.unusedVariables false
set_option linter.unusedSimpArgs false
theorem ref_mul_rest {p : Int} (hp : Pr p) (m : List Int) (hm : m.length ≤ 1000000) (hz : ¬ Cq p (cf m) 0) {O X : Sq} {a b : List Int} (hal : a.length ≤ 1000000) (hbl : b.length ≤ 1000000) (ha : Cm p (cf m) O (cf a)) (hb : Cm p (cf m) X (cf b)) (hX : Fin_ p X) :
    ∃ u r, Ev (fun k => primroseref10_Mul.f k a b p) u ∧ Ev (fun k => primroseref10_Rest.f k u m p) r ∧ Rm p (cf m) (O * X) r := by
  obtain ⟨u, u1, u2, u3, u4⟩ := (refMul_is hp a b (by omega) (by omega)).len hp.pos ((cf_lt_ p a).mul' (cf_lt_ p b))
  obtain ⟨q, r, k1, k2⟩ := refRest hp u m (by omega) (by omega) hz
  exact ⟨u, r, u1, k1, k2.rm.cm ((ha.mul hb (fin_cf p a) hX).trans (.of_cq u3.symm))⟩
theorem refPowL_l0 {p : Int} (hp : Pr p) (m : List Int) (hm : m.length ≤ 1000000) (hz : ¬ Cq p (cf m) 0) : ∀ (j : Nat) (n : Int) (out f : List Int) (O X : Sq), 0 ≤ n → n ≤ j → n ≤ 9223372036854775807 → f.length ≤ 1000000 → Rm p (cf m) O out → Cm p (cf m) X (cf f) → Fin_ p O → Fin_ p X →
    ∃ r, Ev (fun k => primroseref10_Pow.l0 k f n m p out) (r, 0) ∧ Rm p (cf m) (O * X ^ n.toNat) r := by
  intro j
  induction j with
  | zero =>
    intro n out f O X hn hj hb hf ho hx hO hX
    have h0 : n = 0 := by omega
    subst h0
    refine ⟨out, Ev.step (f := fun _ => some (out, 0)) (fun k => ?_) (Ev.now _), ho.cm (.of_cq (.of_eq ?_))⟩
    · rw [primroseref10_Pow.l0, if_neg (by omega)]
    · rw [Int.toNat_zero, pow_zero, mul_one]
  | succ j ih =>
    intro n out f O X hn hj hb hf ho hx hO hX
    by_cases h0 : n = 0
    · exact ih n out f O X hn (by omega) hb hf ho hx hO hX
    · have hol := ho.len hp (cf_lt_ p m)
      obtain ⟨u, f', u1, u2, u3⟩ := ref_mul_rest hp m hm hz hf hf hx hx hX
      have hfl := u3.len hp (cf_lt_ p m)
      by_cases h1 : n % 2 = 1
      · obtain ⟨v, o', v1, v2, v3⟩ := ref_mul_rest hp m hm hz (by omega) hf ho.eq hx hX
        obtain ⟨r, r1, r2⟩ := ih (n / 2) o' f' (O * X) (X * X) (by omega) (by omega) (by omega) (by omega) v3 u3.eq (hO.mul hX) (hX.mul hX)
        refine ⟨r, Ev.step (f := fun k => (primroseref10_Mul.f k out f p).bind fun t434 => ((primroseref10_Rest.f k t434 m p).bind fun t437 => ((primroseref10_Mul.f k f f p).bind fun t440 => ((primroseref10_Rest.f k t440 m p).bind fun t443 => (primroseref10_Pow.l0 k t443 (n / 2) m p t437))))) (fun k => ?_)
          (Ev.bind v1 (Ev.bind v2 (Ev.bind u1 (Ev.bind u2 r1)))), r2.cm (.of_cq (.of_eq ?_))⟩
        · rw [primroseref10_Pow.l0, if_pos (by omega), if_pos (by rw [Int.tmod_eq_emod_of_nonneg hn]; exact h1), Int.tdiv_eq_ediv_of_nonneg hn, w64 (by omega) (by omega)]
        · rw [sq_pow, show n.toNat = 2 * (n / 2).toNat + 1 by omega, pow_succ, mul_assoc, mul_comm (X ^ _) X]
      · obtain ⟨r, r1, r2⟩ := ih (n / 2) out f' O (X * X) (by omega) (by omega) (by omega) (by omega) ho u3.eq hO (hX.mul hX)
        refine ⟨r, Ev.step (f := fun k => (primroseref10_Mul.f k f f p).bind fun t446 => ((primroseref10_Rest.f k t446 m p).bind fun t449 => (primroseref10_Pow.l0 k t449 (n / 2) m p out))) (fun k => ?_)
          (Ev.bind u1 (Ev.bind u2 r1)), r2.cm (.of_cq (.of_eq ?_))⟩
        · rw [primroseref10_Pow.l0, if_pos (by omega), if_neg (by rw [Int.tmod_eq_emod_of_nonneg hn]; exact h1), Int.tdiv_eq_ediv_of_nonneg hn, w64 (by omega) (by omega)]
        · rw [sq_pow, show n.toNat = 2 * (n / 2).toNat by omega]
theorem refPowL {p : Int} (hp : Pr p) (f : List Int) (hf : f.length ≤ 1000000) {n : Int} (hn : 0 ≤ n) (hb : n ≤ 9223372036854775807) (m : List Int) (hm : m.length ≤ 1000000) (hz : ¬ Cq p (cf m) 0) :
    ∃ r, Ev (fun k => primroseref10_Pow.f k f n m p) (r, 0) ∧ Rm p (cf m) (cf f ^ n.toNat) r := by
  obtain ⟨M, h1, h2, h3, h4⟩ := (refPlain_is hp m (by omega)).len hp.pos (cf_lt_ p m)
  have h0 : M.length ≠ 0 := fun h => hz (h3.symm.trans ((h2.len_iff hp.pos).1 h))
  obtain ⟨q, a, a1, a2⟩ := refRest hp ([] ++ [1]) m (by simp) (by omega) hz
  obtain ⟨r, r1, r2⟩ := refPowL_l0 hp m hm hz n.toNat n a f (cf [1]) (cf f) hn (by omega) hb hf a2.rm (.refl _ _ _) (fin_cf p _) (fin_cf p _)
  refine ⟨r, ?_, r2.cm (.of_cq (.of_eq (by rw [cf_1, one_mul])))⟩
  unfold primroseref10_Pow.f
  exact Ev.bind (refIs p) (ev_pos (isB_true hp) (ev_neg (by omega) (Ev.bind h1 (ev_neg (by omega) (ev_pos (by simp) (Ev.bind a1 r1))))))
end Go.Proofs.Ytiflghgebeadiaa.Alg
end
section
namespace Go.Proofs.Ytiflghgebeadiaa.Alg
open Go.RowKit Go.Proofs.YtiflghgebeadiaaW.PrintWords Go.Proofs.YtiflghgebeadiaaW.PrintMore Go.Proofs.Ytiflghgebeadiaa.M Sq
set_option linter.unusedVariables false
set_option linter.unusedSimpArgs false
theorem Mo.same_len {p : Int} (hp : Pr p) {a b : List Int} (ha : Mo p a) (hb : Mo p b) (h : Dd p (cf a) (cf b)) (hl : a.length = b.length) : a = b := by
  obtain ⟨S, h1, h2⟩ := h.list hp
  have hS0 : S ≠ [] := fun e => hb.nz hp (by rw [e, cf_nil, zero_mul] at h2; exact h2)
  have h3 := len_mul hp h1 ha.pl hb.pl hS0 ha.ne h2
  have hl1 : S.length = 1 := by omega
  have h4 : Cg p 1 (cf S 0) := by
    have := h3.2
    rw [hb.top, ha.top, hl1] at this
    exact this.trans (.of_eq (by simp))
  refine ha.pl.ext hb.pl hp.pos (Cq.symm (h2.trans fun i => ?_))
  match S, hl1 with
  | [c], _ =>
    have hc : cf [c] = sm c 1 := by
      ext n; rw [cf_at, sm_at, one_at]
      match n with
      | 0 => simp
      | n + 1 => simp
    rw [hc, sm_mul, one_mul, sm_at]
    have h5 : Cg p c 1 := by have := h4.symm; simpa [cf] using this
    exact (h5.mul (.refl p _)).trans (.of_eq (by omega))
theorem Run.short {p : Int} (hp : Pr p) {M : List Int} {i : Nat} {left : List Int} {gs : List (List Int)} (h : Run p M i left gs) : PL p left → left ≠ [] → ∀ g ∈ gs, g.length ≤ left.length := by
  induction h with
  | done _ => intro _ _ g hg; cases hg
  | step _ hgd hmo hl1 _ ih =>
    intro hpl hne g hg
    rcases List.mem_cons.1 hg with e | hg
    · subst e; exact (hgd.dr.len hp hmo.pl hpl hne).2
    · exact Nat.le_trans (ih hl1.pl hl1.ne g hg) (hl1.dv.len hp hl1.pl hpl hne).2
def CopAt (p : Int) (M : List Int) (j : Nat) : Prop := Cop p (fr p j - Xv) (cf M)
def DivAt (p : Int) (M : List Int) : Prop := Dd p (cf M) (fr p (M.length - 1) - Xv)
theorem Run.last {p : Int} (hp : Pr p) {M : List Int} (hM : Mo p M) {i : Nat} {left : List Int} {gs : List (List Int)} (h : Run p M i left gs) : left = M → i < M.length - 1 →
    ((gs.getD (M.length - 1 - 1 - i) []).length = M.length ↔ (∀ j, i < j → j < M.length - 1 → CopAt p M j) ∧ DivAt p M) := by
  induction h with
  | done h => intro _ h2; omega
  | @step i left g lf gs hi hgd hmo hl1 hr ih =>
    intro e _
    subst e
    by_cases hlast : i + 1 = left.length - 1
    · rw [show left.length - 1 - 1 - i = 0 by omega]
      constructor
      · intro hl
        have e := hmo.same_len hp hM hgd.dr hl
        refine ⟨fun j h1 h2 => by omega, ?_⟩
        have := hgd.dl
        rw [e, hlast] at this
        exact this
      · rintro ⟨_, hd⟩
        unfold DivAt at hd
        rw [← hlast] at hd
        have := hgd.great _ hd (.refl _ _)
        rw [hmo.mul_one_of hp hM hgd.dr this]
        rfl
    · rw [show left.length - 1 - 1 - i = (left.length - 1 - 1 - (i + 1)) + 1 by omega, List.getD_cons_succ]
      have hcop := hgd.cop hp (hM.nz hp)
      by_cases hg : 1 < g.length
      · constructor
        · intro hl
          exfalso
          have hlt := hl1.less hg
          have hlen := hr.len (by omega)
          have hmem : gs.getD (left.length - 1 - 1 - (i + 1)) [] ∈ gs := by
            rw [List.getD_eq_getElem?_getD, List.getElem?_eq_getElem (by omega)]
            exact List.getElem_mem _
          have := hr.short hp hl1.pl hl1.ne _ hmem
          omega
        · rintro ⟨hc, _⟩
          have := hcop.2 (hc (i + 1) (by omega) (by omega))
          omega
      · have e := hl1.same (by omega)
        rw [ih e (by omega)]
        constructor
        · rintro ⟨hc, hd⟩
          refine ⟨fun j h1 h2 => ?_, hd⟩
          by_cases hj : j = i + 1
          · rw [hj]; exact hcop.1 (by omega)
          · exact hc j (by omega) h2
        · rintro ⟨hc, hd⟩
          exact ⟨fun j h1 h2 => hc j (by omega) h2, hd⟩
theorem fr_mul {p : Int} {C : Sq} {a : Nat} (h : Cm p C (fr p a) Xv) (t : Nat) : ∀ q : Nat, Cm p C (fr p (a * q + t)) (fr p t)
  | 0 => by rw [Nat.mul_zero, Nat.zero_add]; exact .refl _ _ _
  | q + 1 => by
    rw [show a * (q + 1) + t = a + (a * q + t) by rw [Nat.mul_succ]; omega, fr_add]
    refine Cm.trans (h.pow (fin_fr p a) (fin_cf p _) _) ?_
    exact fr_mul h t q
theorem fr_gcd {p : Int} {C : Sq} : ∀ a b : Nat, Cm p C (fr p a) Xv → Cm p C (fr p b) Xv → Cm p C (fr p (Nat.gcd a b)) Xv := by
  intro a b
  induction a, b using Nat.gcd.induction with
  | H0 n => intro _ h; rw [Nat.gcd_zero_left]; exact h
  | H1 m n hm ih =>
    intro h1 h2
    rw [Nat.gcd_rec]
    refine ih ?_ h1
    have h3 := fr_mul h1 (n % m) (n / m)
    rw [Nat.div_add_mod] at h3
    exact h3.symm.trans h2
theorem sub_cm {p : Int} {C A B : Sq} (hC : True) : Dd p C (A - B) ↔ Cm p C A B := by
  constructor
  · rintro ⟨s, hs, h⟩
    refine ⟨s, hs, fun n => ?_⟩
    obtain ⟨c, hc⟩ := h n
    exact ⟨c, by simp at hc ⊢; omega⟩
  · rintro ⟨s, hs, h⟩
    refine ⟨s, hs, fun n => ?_⟩
    obtain ⟨c, hc⟩ := h n
    exact ⟨c, by simp at hc ⊢; omega⟩
theorem rabin_all {p : Int} {M : List Int} (hd : DivAt p M) (hn : 0 < M.length - 1) (h : ∀ j, 0 < j → j < M.length - 1 → (M.length - 1) % j = 0 → CopAt p M j) : ∀ j, 0 < j → j < M.length - 1 → CopAt p M j := by
  intro j h0 hj C a b
  have h1 := (sub_cm trivial).1 a
  have h2 := (sub_cm trivial).1 (b.trans hd)
  have h3 := fr_gcd j (M.length - 1) h1 h2
  have hpos : 0 < Nat.gcd j (M.length - 1) := Nat.gcd_pos_of_pos_left _ h0
  have hle := Nat.le_of_dvd h0 (Nat.gcd_dvd_left j (M.length - 1))
  exact h _ hpos (by omega) (Nat.mod_eq_zero_of_dvd (Nat.gcd_dvd_right j (M.length - 1))) C ((sub_cm trivial).2 h3) b
def Yes (p : Int) (M : List Int) : Prop := 1 < M.length ∧ (∀ j, 0 < j → j < M.length - 1 → CopAt p M j) ∧ DivAt p M
theorem irr_err {p e : Int} {f : List Int} (he : e ≠ 0) (h : Ev (fun k => split_asked.f k f p) ([], e)) : Ev (fun k => split_Irreducible.f k f p) false := by
  unfold split_Irreducible.f
  exact Ev.bind (degrees_err he h) (ev_neg he (Ev.now _))
theorem progIrr {p : Int} (hp : Pr p) (f : List Int) (hf : f.length ≤ 1000) : ∃ M b, Mn p (cf f) M ∧ Ev (fun k => split_Irreducible.f k f p) b ∧ (b = true ↔ Yes p M) := by
  obtain ⟨M, hM, ha⟩ := asked_any hp f (by omega)
  have hl := hM.len hp (cf_lt_ p f)
  by_cases h0 : M.length = 0
  · rw [if_pos h0] at ha
    exact ⟨M, false, hM, irr_err (by decide) ha, by simp [Yes, h0]⟩
  · rw [if_neg h0] at ha
    have hmo := hM.mo hp (fun e => h0 (by rw [e]; rfl))
    obtain ⟨gs, g1, g2⟩ := degrees_is hp M hmo (by omega)
    have hlen := g2.len (by omega)
    have hdeg : Ev (fun k => split_Degrees.f k f p) (gs, 0) := by
      unfold split_Degrees.f
      exact Ev.bind ha (ev_pos rfl (Ev.bind g1 (Ev.now _)))
    by_cases h1 : M.length = 1
    · refine ⟨M, false, hM, ?_, by simp [Yes, h1]⟩
      unfold split_Irreducible.f
      exact Ev.bind hdeg (ev_pos rfl (ev_pos (show (gs.length : Int) = 0 by omega) (Ev.now _)))
    · have hgl : gs.length = M.length - 1 := by omega
      have hw : wrap64 ((gs.length : Int) - 1) = ((gs.length - 1 : Nat) : Int) := by rw [w64 (by omega) (by omega)]; omega
      have hrd : rd_L1 gs ((gs.length - 1 : Nat) : Int) = gs.getD (gs.length - 1) [] := by simp [rd_L1]
      have hsh : (gs.getD (gs.length - 1) []).length ≤ M.length := by
        refine g2.short hp hmo.pl hmo.ne _ ?_
        rw [List.getD_eq_getElem?_getD, List.getElem?_eq_getElem (by omega)]
        exact List.getElem_mem _
      refine ⟨M, (wrap64 (((gs.getD (gs.length - 1) []).length : Int) - 1) == (gs.length : Int)), hM, ?_, ?_⟩
      · unfold split_Irreducible.f
        refine Ev.bind hdeg (ev_pos rfl (ev_neg (show ¬ ((gs.length : Int) = 0) by omega) ?_))
        simp only [hw]
        refine ev_pos (by omega) (ev_pos (by omega) ?_)
        rw [hrd]
        exact Ev.now _
      · have hlast := g2.last hp hmo rfl (by omega)
        rw [show M.length - 1 - 1 - 0 = gs.length - 1 by omega] at hlast
        rw [beq_iff_eq, w64 (by omega) (by omega)]
        constructor
        · intro h
          have h2 : (gs.getD (gs.length - 1) []).length = M.length := by omega
          exact ⟨by omega, hlast.1 h2⟩
        · rintro ⟨_, h⟩
          have := hlast.2 h
          omega
theorem Rm.short {p : Int} (hp : Pr p) {M : List Int} {A : Sq} {r : List Int} (hM : PL p M) (h : Rm p (cf M) A r) : r.length < M.length := by
  obtain ⟨d, h1, h2, h3⟩ := h.lt
  rwa [h1.ext hM hp.pos h2] at h3
theorem refIrr_l0 {p : Int} (hp : Pr p) (M : List Int) (hM : Mo p M) (hl : M.length ≤ 1000) (x : List Int) (hx : Rm p (cf M) Xv x) : ∀ (e d : Nat) (y : List Int), d + e = M.length → 0 < d → Rm p (cf M) (fr p (d - 1)) y →
    ∃ b, Ev (fun k => primroseref11_Irreducible.l0 k p M ((M.length : Int) - 1) x y (d : Int)) b ∧ (b = true ↔ (∀ j, d ≤ j → j < M.length - 1 → (M.length - 1) % j = 0 → CopAt p M j) ∧ (d ≤ M.length - 1 → DivAt p M)) := by
  intro e
  have hpos := hp.pos
  have hp2 := hp.2
  induction e with
  | zero =>
    intro d y hd h0 hy
    refine ⟨true, Ev.step (f := fun _ => some true) (fun k => ?_) (Ev.now _), ?_⟩
    · rw [primroseref11_Irreducible.l0, if_neg (by omega)]
    · exact ⟨fun _ => ⟨fun j h1 h2 => by omega, fun h => by omega⟩, fun _ => rfl⟩
  | succ e ih =>
    intro d y hd h0 hy
    have hys := hy.short hp hM.pl
    have hxs := hx.short hp hM.pl
    obtain ⟨y2, a1, a2⟩ := refPowL hp y (by omega) (n := p) (by omega) (by omega) M (by omega) (hM.nz hp)
    have hfr : Rm p (cf M) (fr p d) y2 := by
      refine a2.cm ?_
      rw [show d = d - 1 + 1 by omega, fr_succ]
      exact hy.eq.pow (fin_fr p _) (fin_cf p _) _
    have hy2s := hfr.short hp hM.pl
    obtain ⟨z, z1, z2, z3⟩ := refSub_is hp y2 x (by omega) (by omega)
    have hzl : z.length < M.length := by
      have := z2.le_of hp.pos z3 (n := max y2.length x.length) (Lt.sub ((cf_lt_ p y2).mono (by omega)) ((cf_lt_ p x).mono (by omega)))
      omega
    have hzc : Cm p (cf M) (cf z) (fr p d - Xv) := (Cm.of_cq z3).trans ((hfr.eq.symm).sub hx.eq.symm)
    have hfr' : Rm p (cf M) (fr p (d + 1 - 1)) y2 := by rw [Nat.add_sub_cancel]; exact hfr
    obtain ⟨b, b1, b2⟩ := ih (d + 1) y2 (by omega) (by omega) hfr'
    have hM1 : (M.length : Int) - 1 = ((M.length - 1 : Nat) : Int) := by have := hM.pos; omega
    have hmodI : ((M.length : Int) - 1) % (d : Int) = (((M.length - 1) % d : Nat) : Int) := by rw [hM1]; exact (Int.natCast_emod _ _).symm
    have hd1 : ((d + 1 : Nat) : Int) = (d : Int) + 1 := by omega
    by_cases hlt : d < M.length - 1
    · by_cases hdv : (M.length - 1) % d = 0
      · obtain ⟨g, g1, g2⟩ := refGcd_gd hp z M (by omega) (by omega)
        have hcop := (g2.cm hzc).cop hp (hM.nz hp)
        have hgm := g2.mo hp (hM.nz hp)
        have hgpos := hgm.pos
        by_cases hg : g.length = 1
        · refine ⟨b, Ev.step (f := fun k => (primroseref10_Pow.f k y p M p).bind fun b => (primroseref10_Sub.f k b.1 x p).bind fun z => (primroseref10_Gcd.f k z M p).bind fun g => if g.length = 1 then primroseref11_Irreducible.l0 k p M ((M.length : Int) - 1) x b.1 ((d + 1 : Nat) : Int) else some false) (fun k => ?_) (Ev.bind a1 (Ev.bind z1 (Ev.bind g1 (ev_pos hg b1)))), ?_⟩
          · rw [primroseref11_Irreducible.l0, if_pos (by omega), hd1]
            simp only [if_pos (show (d : Int) < (M.length : Int) - 1 by omega), if_pos (show ((M.length : Int) - 1) % (d : Int) = 0 by omega)]
          · rw [b2]
            constructor
            · rintro ⟨h1, h2⟩
              refine ⟨fun j h3 h4 h5 => ?_, fun _ => h2 (by omega)⟩
              by_cases hj : j = d
              · rw [hj]; exact hcop.1 (by omega)
              · exact h1 j (by omega) h4 h5
            · rintro ⟨h1, h2⟩
              exact ⟨fun j h3 h4 h5 => h1 j (by omega) h4 h5, fun _ => h2 (by omega)⟩
        · refine ⟨false, Ev.step (f := fun k => (primroseref10_Pow.f k y p M p).bind fun b => (primroseref10_Sub.f k b.1 x p).bind fun z => (primroseref10_Gcd.f k z M p).bind fun g => if g.length = 1 then primroseref11_Irreducible.l0 k p M ((M.length : Int) - 1) x b.1 ((d + 1 : Nat) : Int) else some false) (fun k => ?_) (Ev.bind a1 (Ev.bind z1 (Ev.bind g1 (ev_neg hg (Ev.now _))))), ?_⟩
          · rw [primroseref11_Irreducible.l0, if_pos (by omega), hd1]
            simp only [if_pos (show (d : Int) < (M.length : Int) - 1 by omega), if_pos (show ((M.length : Int) - 1) % (d : Int) = 0 by omega)]
          · refine ⟨fun h => (by cases h), fun ⟨h1, _⟩ => ?_⟩
            have := hcop.2 (h1 d (Nat.le_refl _) hlt hdv)
            omega
      · refine ⟨b, Ev.step (f := fun k => (primroseref10_Pow.f k y p M p).bind fun b => (primroseref10_Sub.f k b.1 x p).bind fun z => primroseref11_Irreducible.l0 k p M ((M.length : Int) - 1) x b.1 ((d + 1 : Nat) : Int)) (fun k => ?_) (Ev.bind a1 (Ev.bind z1 b1)), ?_⟩
        · have hne : ¬ ((M.length : Int) - 1) % (d : Int) = 0 := fun h => hdv (by omega)
          rw [primroseref11_Irreducible.l0, if_pos (by omega), hd1]
          simp only [if_pos (show (d : Int) < (M.length : Int) - 1 by omega), if_neg hne]
        · rw [b2]
          constructor
          · rintro ⟨h1, h2⟩
            refine ⟨fun j h3 h4 h5 => ?_, fun _ => h2 (by omega)⟩
            by_cases hj : j = d
            · rw [hj] at h5; exact absurd h5 hdv
            · exact h1 j (by omega) h4 h5
          · rintro ⟨h1, h2⟩
            exact ⟨fun j h3 h4 h5 => h1 j (by omega) h4 h5, fun _ => h2 (by omega)⟩
    · have hdn : d = M.length - 1 := by omega
      have hdiv : z.length = 0 ↔ DivAt p M := by
        unfold DivAt
        rw [← hdn]
        constructor
        · intro h
          have h1 : Cq p (cf z) 0 := (z2.len_iff hp.pos).1 h
          exact hzc.symm.dd (.refl _ _) (Dd.zero h1)
        · intro h
          have h1 := hzc.dd (.refl _ _) h
          refine Classical.byContradiction fun hne => ?_
          have := (h1.len hp hM.pl z2 (fun e => hne (by rw [e]; rfl))).2
          omega
      by_cases hz : z.length = 0
      · refine ⟨b, Ev.step (f := fun k => (primroseref10_Pow.f k y p M p).bind fun b => (primroseref10_Sub.f k b.1 x p).bind fun z => if z.length = 0 then primroseref11_Irreducible.l0 k p M ((M.length : Int) - 1) x b.1 ((d + 1 : Nat) : Int) else some false) (fun k => ?_) (Ev.bind a1 (Ev.bind z1 (ev_pos hz b1))), ?_⟩
        · rw [primroseref11_Irreducible.l0, if_pos (by omega), hd1]
          simp only [if_neg (show ¬ (d : Int) < (M.length : Int) - 1 by omega)]
        · rw [b2]
          constructor
          · rintro ⟨h1, h2⟩
            exact ⟨fun j h3 h4 h5 => by omega, fun _ => hdiv.1 hz⟩
          · rintro ⟨h1, h2⟩
            exact ⟨fun j h3 h4 h5 => by omega, fun h => by omega⟩
      · refine ⟨false, Ev.step (f := fun k => (primroseref10_Pow.f k y p M p).bind fun b => (primroseref10_Sub.f k b.1 x p).bind fun z => if z.length = 0 then primroseref11_Irreducible.l0 k p M ((M.length : Int) - 1) x b.1 ((d + 1 : Nat) : Int) else some false) (fun k => ?_) (Ev.bind a1 (Ev.bind z1 (ev_neg hz (Ev.now _)))), ?_⟩
        · rw [primroseref11_Irreducible.l0, if_pos (by omega), hd1]
          simp only [if_neg (show ¬ (d : Int) < (M.length : Int) - 1 by omega)]
        · exact ⟨fun h => (by cases h), fun ⟨_, h2⟩ => absurd (hdiv.2 (h2 (by omega))) hz⟩
theorem refIrr {p : Int} (hp : Pr p) (f : List Int) (hf : f.length ≤ 1000) {M : List Int} (hM : Mn p (cf f) M) : ∃ b, Ev (fun k => primroseref11_Irreducible.f k f p) b ∧ (b = true ↔ Yes p M) := by
  obtain ⟨M', h1, h2⟩ := refMonic hp f (by omega)
  have e := h2.one hp hM
  subst e
  have hl := hM.len hp (cf_lt_ p f)
  by_cases h3 : M'.length ≤ 1
  · refine ⟨false, ?_, by simp [Yes]; omega⟩
    unfold primroseref11_Irreducible.f
    exact Ev.bind h1 (ev_pos (by omega) (Ev.now _))
  · have hmo := hM.mo hp (fun e => h3 (by rw [e]; simp))
    obtain ⟨q, x, x1, x2⟩ := refRest hp [0, 1] M' (by simp) (by omega) (hmo.nz hp)
    obtain ⟨b, b1, b2⟩ := refIrr_l0 hp M' hmo (by omega) x x2.rm (M'.length - 1) 1 x (by omega) (by omega) (by rw [Nat.sub_self, fr_zero]; exact x2.rm)
    refine ⟨b, ?_, ?_⟩
    · unfold primroseref11_Irreducible.f
      exact Ev.bind h1 (ev_neg (by omega) (Ev.bind x1 b1))
    · rw [b2]
      unfold Yes
      constructor
      · rintro ⟨h4, h5⟩
        exact ⟨by omega, rabin_all (h5 (by omega)) (by omega) (fun j a b c => h4 j a b c), h5 (by omega)⟩
      · rintro ⟨_, h4, h5⟩
        exact ⟨fun j a b _ => h4 j a b, fun _ => h5⟩
end Go.Proofs.Ytiflghgebeadiaa.Alg
end
section
namespace Go.Proofs.Ytiflghgebeadiaa.Pure
open Go.RowKit Go.Proofs.Ytiflghgebeadiaa.M Go.Proofs.YtiflghgebeadiaaW.PrintWords Go.Proofs.YtiflghgebeadiaaW.PrintLast Go.Proofs.Ytiflghgebeadiaa.Alg
set_option linter.unusedVariables false
theorem SplitTests : primroselaw11_SplitTests.Pure := by
  intro f a _ _ _ _
  refine Ev.rounds (g := fun k => primroselaw11_SplitTests.f k f a) ?_
  unfold primroselaw11_SplitTests.f
  by_cases h1 : (f.length : Int) > 7
  · exact ev_pos h1 (Ev.bind awake11 (Ev.now _))
  refine ev_neg h1 ?_
  obtain ⟨p, hpick, hp⟩ := pick a
  obtain ⟨M, b, hM, b1, b2⟩ := progIrr hp f (by omega)
  obtain ⟨b', c1, c2⟩ := refIrr hp f (by omega) hM
  have e : b' = b := by
    cases b <;> cases b' <;> simp_all
  subst e
  refine Ev.bind hpick (Ev.bind awake11 (ev_pos rfl (Ev.bind b1 (Ev.bind c1 (ev_pos (by simp) (Ev.bind (refIs a) ?_))))))
  by_cases hpa : Pr a
  · exact ev_pos (isB_true hpa) (Ev.now _)
  · exact ev_neg (by rw [isB_false hpa]; decide) (Ev.bind (irr_err (by decide) (asked_no hpa f)) (Ev.now _))
end Go.Proofs.Ytiflghgebeadiaa.Pure
end
