/- Part 11 of this claim's texts, written by slim.py, a program of this claim's writer, out of its own texts and of what the kit's print wrote for this seat: rows that this claim does not need are left out. -/
import Derived.Laws.BitsLemmas
import Derived.KernelRfl
import Derived.Test.YtiflghgebeadiaaSr3
import Derived.Test.YtiflghgebeadiaaSr4
import Derived.Test.YtiflghgebeadiaaSr9
import Derived.Test.YtiflghgebeadiaaSr10
section
namespace Go.Proofs.Ytiflghgebeadiaa.Alg
open Go.RowKit Go.Proofs.YtiflghgebeadiaaW.PrintWords Go.Proofs.Ytiflghgebeadiaa.M Sq
set_option linter.unusedVariables false
set_option linter.unusedSimpArgs false
def Pr (p : Int) : Prop := IsP p ∧ p < 2147483648
theorem Pr.pos {p : Int} (h : Pr p) : 0 < p := h.1.pos
theorem Pr.two {p : Int} (h : Pr p) : 2 ≤ p := h.1.two
theorem rest_f {a p : Int} (hp : 0 < p) (hb : p < 2147483648) : modular_rest.f a p = some (a % p) := by
  unfold modular_rest.f
  rw [if_neg (show ¬ p = 0 by omega)]
  have h2 := Int.emod_nonneg a (show p ≠ 0 by omega)
  have h3 := Int.emod_lt_of_pos a hp
  by_cases h : a.tmod p < 0
  · rw [if_pos h, tmod_neg hp h, w64 (by omega) (by omega)]
  · rw [if_neg h, tmod_pos hp h]
theorem prest_f {a p : Int} (hp : 0 < p) (hb : p < 2147483648) : prime_rest.f a p = some (a % p) := rest_f hp hb
noncomputable def isB (n : Int) : Bool := @decide (Pr n) (Classical.propDecidable _)
theorem isB_iff {n : Int} : isB n = true ↔ Pr n := by unfold isB; simp
theorem isB_true {n : Int} (h : Pr n) : isB n = true := isB_iff.2 h
theorem isB_false {n : Int} (h : ¬ Pr n) : isB n = false := by
  cases hb : isB n with
  | false => rfl
  | true => exact absurd (isB_iff.1 hb) h
theorem sq_big {n d : Int} (hn : n < 2147483648) (h : d * d ≤ n) (hd : 2 ≤ d) : d < 46341 := by
  refine Int.lt_of_not_ge fun hge => ?_
  have : 46341 * 46341 ≤ d * d := Int.mul_le_mul hge hge (by omega) (by omega)
  omega
theorem lt_sq {n d : Int} (h : d * d ≤ n) (hd : 2 ≤ d) : d < n := by
  have : 2 * d ≤ d * d := Int.mul_le_mul_of_nonneg_right hd (by omega)
  omega
theorem wsq {d : Int} (h0 : 2 ≤ d) (h : d ≤ 46400) : wrap64 (d * d) = d * d := by
  have h1 : d * d ≤ 46400 * 46400 := Int.mul_le_mul h h (by omega) (by omega)
  have h2 : 0 ≤ d * d := Int.mul_nonneg (by omega) (by omega)
  exact w64 (by omega) (by omega)
theorem refIs_l0 {n : Int} (hn : n < 2147483648) (h2 : 2 ≤ n) : ∀ (m : Nat) (d : Int), 2 ≤ d → d ≤ 46341 → 46341 - d ≤ m → (∀ e, 2 ≤ e → e < d → ¬ e ∣ n) → Ev (fun k => primroseref05_Is.l0 k n d) (isB n) := by
  intro m
  induction m with
  | zero =>
    intro d hd hd2 hm hno
    refine Ev.step (f := fun _ => some (isB n)) (fun k => ?_) (Ev.now _)
    have hsq : ¬ d * d ≤ n := fun h => by have := sq_big hn h hd; omega
    simp only [primroseref05_Is.l0]
    rw [wsq hd (by omega), if_neg hsq, isB_true ⟨isP_of_sqrt h2 fun e he hee => hno e he ?_, hn⟩]
    exact Int.lt_of_not_ge fun hge => hsq (Int.le_trans (Int.mul_le_mul hge hge (by omega) (by omega)) hee)
  | succ m ih =>
    intro d hd hd2 hm hno
    by_cases hsq : d * d ≤ n
    · have hlt := sq_big hn hsq hd
      by_cases hdv : d ∣ n
      · refine Ev.step (f := fun _ => some (isB n)) (fun k => ?_) (Ev.now _)
        simp only [primroseref05_Is.l0]
        rw [wsq hd (by omega), if_pos hsq, if_neg (by omega), if_pos ((tmod_zero (by omega)).2 hdv), isB_false fun h => h.1.2 d hd (lt_sq hsq hd) hdv]
      · refine Ev.step (f := fun k => primroseref05_Is.l0 k n (d + 1)) (fun k => ?_) (ih (d + 1) (by omega) (by omega) (by omega) fun e he hee => ?_)
        · rw [primroseref05_Is.l0, wsq hd (by omega), if_pos hsq, if_neg (by omega), if_neg (fun h => hdv ((tmod_zero (by omega)).1 h)), w64 (by omega) (by omega)]
        · rcases Int.lt_or_le e d with h | h
          · exact hno e he h
          · rw [show e = d by omega]; exact hdv
    · refine Ev.step (f := fun _ => some (isB n)) (fun k => ?_) (Ev.now _)
      simp only [primroseref05_Is.l0]
      rw [wsq hd (by omega), if_neg hsq, isB_true ⟨isP_of_sqrt h2 fun e he hee => hno e he ?_, hn⟩]
      exact Int.lt_of_not_ge fun hge => hsq (Int.le_trans (Int.mul_le_mul hge hge (by omega) (by omega)) hee)
theorem refIs (n : Int) : Ev (fun k => primroseref05_Is.f k n) (isB n) := by
  unfold primroseref05_Is.f
  by_cases h2 : n < 2
  · refine ev_pos h2 (Ev.step (f := fun _ => some (isB n)) (fun k => ?_) (Ev.now _))
    rw [primroseref05_Is.j0, if_pos rfl, isB_false fun h => by have := h.two; omega]
  · refine ev_neg h2 ?_
    by_cases hb : n ≥ 2147483648
    · refine Ev.step (f := fun _ => some (isB n)) (fun k => ?_) (Ev.now _)
      simp only [primroseref05_Is.j0]
      rw [if_pos (decide_eq_true hb), isB_false fun h => by have := h.2; omega]
    · refine Ev.step (f := fun k => primroseref05_Is.l0 k n 2) (fun k => ?_) (refIs_l0 (by omega) (by omega) 46341 2 (by omega) (by omega) (by omega) fun e he hee => by omega)
      simp only [primroseref05_Is.j0]
      rw [if_neg (by simpa using hb)]
theorem progIs_l0 {n : Int} (hn : n < 2147483648) (h2 : 2 ≤ n) (hn2 : ¬ n % 2 = 0) (hn3 : ¬ n % 3 = 0) : ∀ (m : Nat) (d : Int), 5 ≤ d → d % 6 = 5 → d ≤ 46347 → 46347 - d ≤ 6 * m → (∀ e, 2 ≤ e → e < d → ¬ e ∣ n) → Ev (fun k => prime_Is.l0 k n d) (isB n) := by
  have two : ∀ e : Int, e % 2 = 0 → ¬ e ∣ n := fun e he hd => hn2 (by
    have : (2 : Int) ∣ n := Int.dvd_trans (by omega) hd
    omega)
  have three : ∀ e : Int, e % 3 = 0 → ¬ e ∣ n := fun e he hd => hn3 (by
    have : (3 : Int) ∣ n := Int.dvd_trans (by omega) hd
    omega)
  intro m
  induction m with
  | zero =>
    intro d hd hd6 hd2 hm hno
    refine Ev.step (f := fun _ => some (isB n)) (fun k => ?_) (Ev.now _)
    have hsq : ¬ d * d ≤ n := fun h => by have := sq_big hn h (by omega); omega
    simp only [prime_Is.l0]
    rw [wsq (by omega) (by omega), if_neg hsq, isB_true ⟨isP_of_sqrt h2 fun e he hee => hno e he ?_, hn⟩]
    exact Int.lt_of_not_ge fun hge => hsq (Int.le_trans (Int.mul_le_mul hge hge (by omega) (by omega)) hee)
  | succ m ih =>
    intro d hd hd6 hd2 hm hno
    by_cases hsq : d * d ≤ n
    · have hlt := sq_big hn hsq (by omega)
      by_cases hdv : d ∣ n
      · refine Ev.step (f := fun _ => some (isB n)) (fun k => ?_) (Ev.now _)
        simp only [prime_Is.l0]
        rw [wsq (by omega) (by omega), if_pos hsq, if_neg (by omega), if_pos ((tmod_zero (by omega)).2 hdv), isB_false fun h => h.1.2 d (by omega) (lt_sq hsq (by omega)) hdv]
      · by_cases hdv2 : (d + 2) ∣ n
        · refine Ev.step (f := fun _ => some (isB n)) (fun k => ?_) (Ev.now _)
          simp only [prime_Is.l0]
          rw [wsq (by omega) (by omega), if_pos hsq, if_neg (by omega), if_neg (fun h => hdv ((tmod_zero (by omega)).1 h)), w64 (x := d + 2) (by omega) (by omega), if_neg (by omega), if_pos ((tmod_zero (by omega)).2 hdv2), isB_false fun h => h.1.2 (d + 2) (by omega) ?_ hdv2]
          have : 5 * d ≤ d * d := Int.mul_le_mul_of_nonneg_right (by omega) (by omega)
          omega
        · refine Ev.step (f := fun k => prime_Is.l0 k n (d + 6)) (fun k => ?_) (ih (d + 6) (by omega) (by omega) (by omega) (by omega) fun e he hee => ?_)
          · rw [prime_Is.l0, wsq (by omega) (by omega), if_pos hsq, if_neg (by omega), if_neg (fun h => hdv ((tmod_zero (by omega)).1 h)), w64 (x := d + 2) (by omega) (by omega), if_neg (by omega), if_neg (fun h => hdv2 ((tmod_zero (by omega)).1 h)), w64 (x := d + 6) (by omega) (by omega)]
          · rcases Int.lt_or_le e d with h | h
            · exact hno e he h
            · rcases (show e = d ∨ e = d + 2 ∨ e % 2 = 0 ∨ e % 3 = 0 by omega) with h | h | h | h
              · rw [h]; exact hdv
              · rw [h]; exact hdv2
              · exact two e h
              · exact three e h
    · refine Ev.step (f := fun _ => some (isB n)) (fun k => ?_) (Ev.now _)
      simp only [prime_Is.l0]
      rw [wsq (by omega) (by omega), if_neg hsq, isB_true ⟨isP_of_sqrt h2 fun e he hee => hno e he ?_, hn⟩]
      exact Int.lt_of_not_ge fun hge => hsq (Int.le_trans (Int.mul_le_mul hge hge (by omega) (by omega)) hee)
theorem progIs (n : Int) : Ev (fun k => prime_Is.f k n) (isB n) := by
  unfold prime_Is.f
  by_cases h2 : n < 2
  · refine ev_pos h2 (Ev.step (f := fun _ => some (isB n)) (fun k => ?_) (Ev.now _))
    rw [prime_Is.j0, if_pos rfl, isB_false fun h => by have := h.two; omega]
  · refine ev_neg h2 ?_
    by_cases hb : n ≥ 2147483648
    · refine Ev.step (f := fun _ => some (isB n)) (fun k => ?_) (Ev.now _)
      simp only [prime_Is.j0]
      rw [if_pos (decide_eq_true hb), isB_false fun h => by have := h.2; omega]
    · by_cases h4 : n < 4
      · refine Ev.step (f := fun _ => some (isB n)) (fun k => ?_) (Ev.now _)
        simp only [prime_Is.j0]
        rw [if_neg (by simpa using hb), if_pos h4, isB_true ⟨⟨by omega, fun d hd hdn hdv => ?_⟩, by omega⟩]
        obtain ⟨c, hc⟩ := hdv
        have hd2 : d = 2 := by omega
        subst hd2; omega
      · have t2 : n.tmod 2 = n % 2 := Int.tmod_eq_emod_of_nonneg (by omega)
        have t3 : n.tmod 3 = n % 3 := Int.tmod_eq_emod_of_nonneg (by omega)
        by_cases e2 : n % 2 = 0
        · refine Ev.step (f := fun k => prime_Is.j1 k n true) (fun k => ?_) (Ev.step (f := fun _ => some (isB n)) (fun k => ?_) (Ev.now _))
          · rw [prime_Is.j0, if_neg (by simpa using hb), if_neg h4, t2, if_pos e2]
          · rw [prime_Is.j1, if_pos rfl, isB_false fun h => h.1.2 2 (by omega) (by omega) (by omega)]
        · refine Ev.step (f := fun k => prime_Is.j1 k n (n % 3 == 0)) (fun k => ?_) ?_
          · rw [prime_Is.j0, if_neg (by simpa using hb), if_neg h4, t2, if_neg e2, t3]
          · by_cases e3 : n % 3 = 0
            · refine Ev.step (f := fun _ => some (isB n)) (fun k => ?_) (Ev.now _)
              rw [prime_Is.j1, if_pos (by simpa using e3), isB_false fun h => h.1.2 3 (by omega) (by omega) (by omega)]
            · refine Ev.step (f := fun k => prime_Is.l0 k n 5) (fun k => ?_) (progIs_l0 (by omega) (by omega) e2 e3 8000 5 (by omega) (by omega) (by omega) (by omega) fun e he hee hd => ?_)
              · rw [prime_Is.j1, if_neg (by simpa using e3)]
              · have hcase : e = 3 ∨ e % 2 = 0 := by omega
                rcases hcase with h | h
                · subst h; exact e3 (by omega)
                · have : (2 : Int) ∣ n := Int.dvd_trans (by omega) hd
                  omega
theorem inverse_l0 {p a : Int} (hp : Pr p) (ha0 : 0 < a) (ha : a < p) : ∀ (m : Nat) (r s x y z X Y : Int), 0 ≤ s → s < r → s ≤ m → (z = 1 ∨ z = -1) → x = -z * X → y = z * Y → 0 ≤ X → 0 ≤ Y → r * Y + s * X = p →
    Cg p (a * x) r → Cg p (a * y) s → (∀ d : Int, d ∣ r → d ∣ s → d ∣ p ∧ d ∣ a) → r ≤ p →
    ∃ v, Ev (fun k => prime_inverse.l0 k p r s x y) v ∧ (0 ≤ v ∧ v < p) ∧ Cg p (a * v) 1 := by
  intro m
  induction m with
  | zero =>
    intro r s x y z X Y hs hsr hsm hz hx hy hX hY hsum hcx hcy hd hrp
    have hs0 : s = 0 := by omega
    subst hs0
    have hr : r = 1 := by
      obtain ⟨_, h2⟩ := hd r (Int.dvd_refl r) (Int.dvd_zero r)
      have := Int.le_of_dvd ha0 h2
      rcases Int.lt_or_le r 2 with h | h
      · omega
      · exact absurd (hd r (Int.dvd_refl r) (Int.dvd_zero r)).1 (hp.1.2 r h (by omega))
    refine ⟨x % p, Ev.step (f := fun _ => some (x % p)) (fun k => ?_) (Ev.now _), ⟨Int.emod_nonneg _ (by have := hp.pos; omega), Int.emod_lt_of_pos _ hp.pos⟩, ?_⟩
    · rw [prime_inverse.l0, if_pos rfl, prest_f hp.pos hp.2]; rfl
    · rw [← hr]; exact ((Cg.refl p a).mul (Cg.mod p x)).trans hcx
  | succ m ih =>
    intro r s x y z X Y hs hsr hsm hz hx hy hX hY hsum hcx hcy hd hrp
    by_cases hs0 : s = 0
    · exact (ih r s x y z X Y hs hsr (by omega) hz hx hy hX hY hsum hcx hcy hd hrp)
    · have hq0 : 0 ≤ r / s := Int.ediv_nonneg (by omega) hs
      have hqs : s * (r / s) + r % s = r := by have := Int.emod_add_mul_ediv r s; omega
      have hm0 := Int.emod_nonneg r hs0
      have hm1 := Int.emod_lt_of_pos r (show 0 < s by omega)
      have hqr : r / s ≤ r := Int.ediv_le_self _ (by omega)
      have hpb := hp.2
      have hqY : 0 ≤ r / s * Y := Int.mul_nonneg hq0 hY
      have hY' : s * (X + r / s * Y) + (r % s) * Y = p := by
        have : r * Y = (s * (r / s) + r % s) * Y := by rw [hqs]
        grind
      have hle : X + r / s * Y ≤ p := by
        have h1 : 0 ≤ (r % s) * Y := Int.mul_nonneg hm0 hY
        have h2 : 1 * (X + r / s * Y) ≤ s * (X + r / s * Y) := Int.mul_le_mul_of_nonneg_right (by omega) (by omega)
        omega
      have hYp : Y ≤ p := by
        have h1 : 1 * Y ≤ r * Y := Int.mul_le_mul_of_nonneg_right (by omega) hY
        have h2 : 0 ≤ s * X := Int.mul_nonneg hs hX
        omega
      have e1 : wrap64 (r.tdiv s) = r / s := by rw [Int.tdiv_eq_ediv_of_nonneg (by omega)]; exact w64 (by omega) (by omega)
      have hcomm : r / s * s = s * (r / s) := Int.mul_comm _ _
      have e2 : wrap64 (r / s * s) = s * (r / s) := by rw [hcomm]; exact w64 (by omega) (by omega)
      have e3 : wrap64 (r - s * (r / s)) = r % s := by rw [show r - s * (r / s) = r % s by omega]; exact w64 (by omega) (by omega)
      have e4 : wrap64 (r / s * y) = r / s * y := by
        rcases hz with h | h
        · have : r / s * y = r / s * Y := by rw [hy, h, Int.one_mul]
          rw [this]; exact w64 (by omega) (by omega)
        · have : r / s * y = -(r / s * Y) := by rw [hy, h]; grind
          rw [this]; exact w64 (by omega) (by omega)
      have hy' : x - r / s * y = -z * (X + r / s * Y) := by rw [hx, hy]; grind
      have e5 : wrap64 (x - r / s * y) = x - r / s * y := by
        rw [hy']
        rcases hz with h | h
        · rw [h, show (-1 : Int) * (X + r / s * Y) = -(X + r / s * Y) by omega]; exact w64 (by omega) (by omega)
        · rw [h, show (- -1 : Int) * (X + r / s * Y) = (X + r / s * Y) by omega]; exact w64 (by omega) (by omega)
      obtain ⟨v, h1, h2, h3⟩ := ih s (r % s) y (x - r / s * y) (-z) Y (X + r / s * Y) hm0 hm1 (by omega) (by omega) (by rw [hy]; grind) hy' hY (by omega) hY' hcy
        (by
          have h := hcx.sub ((Cg.refl p (r / s)).mul hcy)
          refine (Cg.of_eq ?_).trans (h.trans (.of_eq ?_))
          · grind
          · rw [Int.mul_comm (r / s) s]; omega)
        (fun d hd1 hd2 => hd d (by
          have : d ∣ s * (r / s) + r % s := Int.dvd_add (Int.dvd_mul_of_dvd_left hd1) hd2
          rwa [hqs] at this) hd1) (by omega)
      refine ⟨v, Ev.step (f := fun k => prime_inverse.l0 k p s (r % s) y (x - r / s * y)) (fun k => ?_) h1, h2, h3⟩
      rw [prime_inverse.l0, if_neg hs0, e1, e2, e3, e4, e5]
theorem progInv {p a : Int} (hp : Pr p) (ha : ¬ Cg p a 0) : ∃ v, Ev (fun k => prime_Inv.f k a p) v ∧ (0 ≤ v ∧ v < p) ∧ Cg p (a * v) 1 := by
  have h0 := Int.emod_nonneg a (show p ≠ 0 by have := hp.pos; omega)
  have h1 := Int.emod_lt_of_pos a hp.pos
  have hne : a % p ≠ 0 := fun h => ha ((Cg.mod p a).symm.trans (.of_eq h))
  obtain ⟨v, hv, hv0, hv1⟩ := inverse_l0 hp (show 0 < a % p by omega) h1 (a % p).toNat p (a % p) 0 1 1 0 1 h0 h1 (by omega) (.inl rfl) (by omega) (by omega) (by omega) (by omega) (by omega)
    ⟨-1, by omega⟩ (.of_eq (by omega)) (fun d h1 h2 => ⟨h1, h2⟩) (Int.le_refl p)
  refine ⟨v, ?_, hv0, ((Cg.mod p a).symm.mul (Cg.refl p v)).trans hv1⟩
  unfold prime_Inv.f
  refine Ev.bind (progIs p) (ev_pos (isB_true hp) ?_)
  refine ev_some (prest_f hp.pos hp.2) ?_
  refine Ev.step (f := fun k => (prime_inverse.f k (a % p) p).bind fun t => some t) (fun k => ?_) (Ev.bind hv (Ev.now _))
  rw [prime_Inv.j0, if_neg (by simpa using hne), prest_f hp.pos hp.2]; rfl
theorem wmul {p a b : Int} (hp : Pr p) (ha : 0 ≤ a ∧ a < p) (hb : 0 ≤ b ∧ b < p) : wrap64 (a * b) = a * b := by
  have h1 : a * b ≤ 2147483648 * 2147483648 := Int.mul_le_mul (by have := hp.2; omega) (by have := hp.2; omega) hb.1 (by omega)
  have h2 : 0 ≤ a * b := Int.mul_nonneg ha.1 hb.1
  exact w64 (by omega) (by omega)
theorem md {p : Int} (hp : Pr p) (a : Int) : 0 ≤ a % p ∧ a % p < p := ⟨Int.emod_nonneg a (by have := hp.pos; omega), Int.emod_lt_of_pos a hp.pos⟩
end Go.Proofs.Ytiflghgebeadiaa.Alg
end
section
namespace Go.Proofs.Ytiflghgebeadiaa.Alg
open Go.RowKit Go.Proofs.YtiflghgebeadiaaW.PrintWords Go.Proofs.YtiflghgebeadiaaW.PrintMore Go.Proofs.Ytiflghgebeadiaa.M Sq
set_option linter.unusedVariables false
set_option linter.unusedSimpArgs false
theorem wsucc {i : Nat} (h : i ≤ 4611686018427387904) : wrap64 ((i : Int) + 1) = ((i + 1 : Nat) : Int) := by rw [w64 (by omega) (by omega)]; omega
theorem md_nn {a p : Int} (ha : 0 ≤ a) : a.tmod p = a % p := Int.tmod_eq_emod_of_nonneg ha
theorem Rs.set {p : Int} {l : List Int} (h : Rs p l) {i : Nat} {v : Int} (hv : 0 ≤ v ∧ v < p) : Rs p (l.set i v) := fun a ha => by
  rcases List.mem_or_eq_of_mem_set ha with h1 | h1
  · exact h a h1
  · rw [h1]; exact hv
theorem trim_l0 (l : List Int) (hl : l.length ≤ 1099511627776) : ∀ (n : Nat), n ≤ l.length → (∀ i, n ≤ i → cf l i = 0) →
    ∃ m, m ≤ n ∧ Ev (fun k => modular_trim.l0 k l (n : Int)) (l.take m) ∧ (∀ i, m ≤ i → cf l i = 0) ∧ (0 < m → cf l (m - 1) ≠ 0) := by
  intro n
  induction n with
  | zero =>
    intro hn hz
    refine ⟨0, Nat.le_refl _, Ev.step (f := fun _ => some (l.take 0)) (fun k => ?_) (Ev.now _), hz, fun h => by omega⟩
    rw [modular_trim.l0, if_neg (by omega), if_pos (by omega), if_pos (by omega)]; rfl
  | succ n ih =>
    intro hn hz
    have e : wrap64 (((n + 1 : Nat) : Int) - 1) = (n : Int) := by rw [w64 (by omega) (by omega)]; omega
    by_cases h0 : cf l n = 0
    · obtain ⟨m, hm, hev, hz', hlast⟩ := ih (by omega) (fun i hi => by
        rcases Nat.lt_or_ge n i with h | h
        · exact hz i (by omega)
        · rw [show i = n by omega]; exact h0)
      refine ⟨m, by omega, Ev.step (f := fun k => modular_trim.l0 k l (n : Int)) (fun k => ?_) hev, hz', hlast⟩
      rw [modular_trim.l0, e, if_pos (by omega), if_pos (by omega), if_pos (by omega), rd_cf, if_pos h0]
    · refine ⟨n + 1, Nat.le_refl _, Ev.step (f := fun _ => some (l.take (n + 1))) (fun k => ?_) (Ev.now _), hz, fun _ => h0⟩
      rw [modular_trim.l0, e, if_pos (by omega), if_pos (by omega), if_pos (by omega), rd_cf, if_neg h0, if_pos (by omega), if_pos (by omega)]; rfl
theorem trim_f (l : List Int) (hl : l.length ≤ 1099511627776) : ∃ r, Ev (fun k => modular_trim.f k l) r ∧ cf r = cf l ∧ r.length ≤ l.length ∧ ∀ p, Rs p l → PL p r := by
  obtain ⟨m, hm, hev, hz, hlast⟩ := trim_l0 l hl l.length (Nat.le_refl _) (fun i hi => cf_big hi)
  refine ⟨l.take m, hev, cf_take hz, by rw [List.length_take]; omega, fun p h => ⟨fun a ha => h a (List.mem_of_mem_take ha), fun h => ?_⟩⟩
  rw [List.length_take, Nat.min_eq_left hm] at h ⊢
  rw [cf_take hz]; exact hlast h
theorem trim_is {p : Int} {l : List Int} {s : Sq} (hl : l.length ≤ 1099511627776) (h : Rs p l) (hs : Cq p (cf l) s) : Is (fun k => modular_trim.f k l) p s := by
  obtain ⟨r, h1, h2, h3, h4⟩ := trim_f l hl
  exact ⟨r, h1, h4 p h, by rw [h2]; exact hs⟩
theorem Is.bind {g : Nat → Option (List Int)} {f : Nat → List Int → Option (List Int)} {p : Int} {s t : Sq} (h : Is g p s) (k : ∀ r, PL p r → Cq p (cf r) s → Is (fun n => f n r) p t) : Is (fun n => (g n).bind (f n)) p t := by
  obtain ⟨r, h1, h2, h3⟩ := h
  obtain ⟨r', k1, k2, k3⟩ := k r h2 h3
  exact ⟨r', Ev.bind h1 k1, k2, k3⟩
theorem Is.now {p : Int} {s : Sq} {r : List Int} (h : PL p r) (hs : Cq p (cf r) s) : Is (fun _ => some r) p s := ⟨r, Ev.now r, h, hs⟩
theorem Is.step {g f : Nat → Option (List Int)} {p : Int} {s : Sq} (h : ∀ k, g (k + 1) = f k) (hf : Is f p s) : Is g p s := by
  obtain ⟨r, h1, h2, h3⟩ := hf; exact ⟨r, Ev.step h h1, h2, h3⟩
theorem Is.congr {g f : Nat → Option (List Int)} {p : Int} {s : Sq} (h : ∀ k, g k = f k) (hf : Is f p s) : Is g p s := by
  obtain ⟨r, h1, h2, h3⟩ := hf; exact ⟨r, Ev.congr h h1, h2, h3⟩
theorem Is.some_ {α : Type} {o : Option α} {f : Nat → α → Option (List Int)} {a : α} {p : Int} {s : Sq} (h : o = some a) (k : Is (fun n => f n a) p s) : Is (fun n => o.bind (f n)) p s := by
  subst h; exact k
theorem Is.evb {α : Type} {g : Nat → Option α} {f : Nat → α → Option (List Int)} {a : α} {p : Int} {s : Sq} (h : Ev g a) (k : Is (fun n => f n a) p s) : Is (fun n => (g n).bind (f n)) p s := by
  obtain ⟨r, k1, k2, k3⟩ := k; exact ⟨r, Ev.bind h k1, k2, k3⟩
theorem Is.pos {c : Prop} [Decidable c] {A B : Nat → Option (List Int)} {p : Int} {s : Sq} (hc : c) (h : Is A p s) : Is (fun k => if c then A k else B k) p s := by
  obtain ⟨r, k1, k2, k3⟩ := h; exact ⟨r, ev_pos hc k1, k2, k3⟩
theorem plain_l0 {p : Int} (hp : Pr p) (l : List Int) (hl : l.length ≤ 1073741824) : ∀ (d : Nat) (out : List Int) (i : Nat), l.length - i = d → i ≤ l.length → out.length = l.length →
    (∀ j, cf out j = if j < i then cf l j % p else 0) → Is (fun k => modular_plain.l0 k p out l (l.length : Int) (i : Int)) p (cf l) := by
  intro d
  induction d with
  | zero =>
    intro out i hd hi ho hc
    have hil : i = l.length := by omega
    refine Is.step (f := fun k => (modular_trim.f k out).bind fun t => some t) (fun k => ?_) (Is.bind (trim_is (p := p) (s := cf l) (by omega) ?_ ?_) (fun r h1 h2 => Is.now h1 h2))
    · rw [modular_plain.l0, if_neg (by omega)]
    · refine mem_cf (P := fun a => 0 ≤ a ∧ a < p) fun n hn => ?_
      rw [hc]; split
      · exact md hp _
      · exact ⟨by omega, hp.pos⟩
    · intro j; rw [hc]; split
      · exact Cg.mod p _
      · rw [cf_big (by omega)]; exact .refl _ _
  | succ d ih =>
    intro out i hd hi ho hc
    refine Is.step (f := fun k => modular_plain.l0 k p (out.set i (cf l i % p)) l (l.length : Int) ((i + 1 : Nat) : Int)) (fun k => ?_) (ih _ (i + 1) (by omega) (by omega) (by simpa using ho) fun j => ?_)
    · rw [modular_plain.l0, if_pos (by omega), if_pos (by omega), if_pos (by omega), rd_cf, rest_f hp.pos hp.2, Option.bind_some, if_pos (by omega), wsucc (by omega)]; rfl
    · rw [cf_set, hc]
      by_cases h1 : j = i
      · subst h1; rw [if_pos ⟨rfl, by omega⟩, if_pos (by omega)]
      · rw [if_neg (fun h => h1 h.1)]
        by_cases h2 : j < i
        · rw [if_pos h2, if_pos (by omega)]
        · rw [if_neg h2, if_neg (by omega)]
theorem plain_is {p : Int} (hp : Pr p) (l : List Int) (hl : l.length ≤ 1073741824) : Is (fun k => modular_plain.f k l p) p (cf l) := by
  unfold modular_plain.f
  refine Is.pos (by omega) (Is.pos (by simp; omega) ?_)
  refine plain_l0 hp l hl _ _ 0 rfl (by omega) (by simp) fun j => ?_
  rw [if_neg (by omega)]
  have := congrFun (cf_replicate (l.length : Int).toNat) j
  exact this
theorem zip_scale_l0 {p c : Int} {G : Int → Int → Int} (hG : ∀ x y, modular_scale_1.f x y p c = some (G x y)) (f g : List Int) (hf : f.length ≤ 1073741824) (hg : g.length ≤ 1073741824) (m : Nat) (hm : m = max f.length g.length) : ∀ (d : Nat) (out : List Int) (i : Nat), m - i = d → i ≤ m → out.length = m →
    (∀ j, cf out j = if j < i then G (cf f j) (cf g j) else 0) → ∃ r, Ev (fun k => modular_zip_int_scale_1.l0 k f g p c out (m : Int) (i : Int)) r ∧ r.length = m ∧ ∀ j, cf r j = if j < m then G (cf f j) (cf g j) else 0 := by
  intro d
  induction d with
  | zero =>
    intro out i hd hi ho hc
    refine ⟨out, Ev.step (f := fun _ => some out) (fun k => ?_) (Ev.now _), ho, fun j => ?_⟩
    · rw [modular_zip_int_scale_1.l0, if_neg (by omega)]
    · rw [hc, show i = m by omega]
  | succ d ih =>
    intro out i hd hi ho hc
    obtain ⟨r, h1, h2, h3⟩ := ih (out.set i (G (cf f i) (cf g i))) (i + 1) (by omega) (by omega) (by simpa using ho) fun j => by
      rw [cf_set, hc]
      by_cases h1 : j = i
      · subst h1; rw [if_pos ⟨rfl, by omega⟩, if_pos (by omega)]
      · rw [if_neg (fun h => h1 h.1)]
        by_cases h2 : j < i
        · rw [if_pos h2, if_pos (by omega)]
        · rw [if_neg h2, if_neg (by omega)]
    refine ⟨r, Ev.step (f := fun k => modular_zip_int_scale_1.l0 k f g p c (out.set i (G (cf f i) (cf g i))) (m : Int) ((i + 1 : Nat) : Int)) (fun k => ?_) h1, h2, h3⟩
    rw [modular_zip_int_scale_1.l0, if_pos (by omega)]
    have hw := wsucc (i := i) (by omega)
    by_cases hif : i < f.length
    · rw [if_pos (by omega), if_pos (by omega)]
      by_cases hig : i < g.length
      · rw [if_pos (by omega), rd_cf, rd_cf, hG, Option.bind_some, if_pos (by omega), hw]; rfl
      · rw [if_neg (by omega), rd_cf, hG, Option.bind_some, if_pos (by omega), hw, cf_big (l := g) (n := i) (by omega)]; rfl
    · rw [if_neg (by omega)]
      by_cases hig : i < g.length
      · rw [if_pos (by omega), if_pos (by omega), rd_cf, hG, Option.bind_some, if_pos (by omega), hw, cf_big (l := f) (n := i) (by omega)]; rfl
      · omega
theorem zip_scale_f {p c : Int} {G : Int → Int → Int} (hG : ∀ x y, modular_scale_1.f x y p c = some (G x y)) (f g : List Int) (hf : f.length ≤ 1073741824) (hg : g.length ≤ 1073741824) :
    ∃ r, Ev (fun k => modular_zip_int_scale_1.f k f g p c) r ∧ r.length = max f.length g.length ∧ ∀ j, cf r j = if j < max f.length g.length then G (cf f j) (cf g j) else 0 := by
  have hmx : mx (f.length : Int) (g.length : Int) = ((max f.length g.length : Nat) : Int) := by unfold mx; omega
  obtain ⟨r, h1, h2⟩ := zip_scale_l0 hG f g hf hg (max f.length g.length) rfl _ (List.replicate (max f.length g.length) 0) 0 rfl (by omega) (by simp) fun j => by
    rw [if_neg (by omega)]; exact congrFun (cf_replicate _) j
  refine ⟨r, ?_, h2⟩
  unfold modular_zip_int_scale_1.f
  rw [hmx]
  refine ev_pos (by omega) (ev_pos (by omega) (ev_some rfl ?_))
  rw [Int.toNat_natCast, List.length_replicate]
  exact h1
theorem scale1_f {p c : Int} (hp : Pr p) (hc : 0 ≤ c ∧ c < p) (x y : Int) : modular_scale_1.f x y p c = some ((x % p * c) % p) := by
  have h1 := md hp x; have := hp.pos
  unfold modular_scale_1.f
  rw [rest_f hp.pos hp.2, Option.bind_some, if_neg (by omega), wmul hp h1 hc, md_nn (Int.mul_nonneg h1.1 hc.1)]
theorem wpred {n : Nat} (h0 : 0 < n) (h : n ≤ 4611686018427387904) : wrap64 ((n : Int) - 1) = ((n - 1 : Nat) : Int) := by rw [w64 (by omega) (by omega)]; omega
end Go.Proofs.Ytiflghgebeadiaa.Alg
end
section
namespace Go.Proofs.Ytiflghgebeadiaa.Alg
open Go.RowKit Go.Proofs.YtiflghgebeadiaaW.PrintWords Go.Proofs.YtiflghgebeadiaaW.PrintMore Go.Proofs.Ytiflghgebeadiaa.M Sq
set_option linter.unusedVariables false
set_option linter.unusedSimpArgs false
theorem Is.len {g : Nat → Option (List Int)} {p : Int} {s : Sq} (hp : 0 < p) {n : Nat} (h : Is g p s) (hl : Lt p s n) : ∃ r, Ev g r ∧ PL p r ∧ Cq p (cf r) s ∧ r.length ≤ n := by
  obtain ⟨r, h1, h2, h3⟩ := h; exact ⟨r, h1, h2, h3, h2.le_of hp h3 hl⟩
structure QR (p : Int) (F G : Sq) (q r : List Int) : Prop where
  pq : PL p q
  pr : PL p r
  eq : Cq p F (cf q * G + cf r)
  lt : ∃ d : List Int, PL p d ∧ Cq p (cf d) G ∧ r.length < d.length
theorem QR.one {p : Int} (hp : Pr p) {F G : Sq} {q r q' r' : List Int} (h : QR p F G q r) (k : QR p F G q' r') : q = q' ∧ r = r' := by
  obtain ⟨d, hd, hdc, hdl⟩ := h.lt
  obtain ⟨d', hd', hdc', hdl'⟩ := k.lt
  have hdd : d' = d := hd'.ext hd hp.pos (hdc'.trans hdc.symm)
  subst hdd
  obtain ⟨h1, h2⟩ := divide_one (m := max q.length q'.length) (n := d'.length - 1) hp.1 (q := cf q) (q' := cf q') (r := cf r) (r' := cf r') (g := G)
    ((cf_lt_ p q).mono (by omega)) ((cf_lt_ p q').mono (by omega)) ((cf_lt_ p r).mono (by omega)) ((cf_lt_ p r').mono (by omega))
    (fun hc => hd.last hp.pos (by omega) ((hdc _).trans hc)) (((cf_lt_ p d').cq hdc.symm).mono (by omega)) (h.eq.symm.trans k.eq)
  exact ⟨h.pq.ext k.pq hp.pos h1, h.pr.ext k.pr hp.pos h2⟩
theorem QR.cq {p : Int} {F G F' G' : Sq} {q r : List Int} (h : QR p F G q r) (hF : Cq p F F') (hG : Cq p G G') : QR p F' G' q r :=
  ⟨h.pq, h.pr, hF.symm.trans (h.eq.trans (((Cq.refl p _).mul hG).add (.refl _ _))), by obtain ⟨d, h1, h2, h3⟩ := h.lt; exact ⟨d, h1, h2.trans hG, h3⟩⟩
theorem QR.len {p : Int} (hp : Pr p) {F G : Sq} {q r : List Int} (h : QR p F G q r) {n m : Nat} (hF : Lt p F n) (hG : Lt p G m) : q.length ≤ max n m ∧ r.length ≤ m := by
  obtain ⟨d, hd, hdc, hdl⟩ := h.lt
  have hdm : d.length ≤ m := hd.le_of hp.pos hdc hG
  refine ⟨Nat.le_of_not_lt fun hlt => ?_, by omega⟩
  have ht := (top (p := p) (a := cf q) (b := G) (m := q.length - 1) (e := d.length - 1) (fun i hi => cf_lt_ p q i (by omega)) (fun j hj => (hdc j).symm.trans (cf_lt_ p d j (by omega)))).1
  have h0 := h.eq (q.length - 1 + (d.length - 1))
  rw [Sq.add_at, cf_big (l := r) (by omega), Int.add_zero] at h0
  rcases hp.1.cg_mul (ht.symm.trans (h0.symm.trans (hF _ (by omega)))) with hc | hc
  · exact h.pq.last hp.pos (by omega) hc
  · exact hd.last hp.pos (by omega) ((hdc _).trans hc)
end Go.Proofs.Ytiflghgebeadiaa.Alg
end
section
namespace Go.Proofs.Ytiflghgebeadiaa.Alg
open Go.RowKit Go.Proofs.YtiflghgebeadiaaW.PrintWords Go.Proofs.YtiflghgebeadiaaW.PrintMore Go.Proofs.Ytiflghgebeadiaa.M Sq
set_option linter.unusedVariables false
set_option linter.unusedSimpArgs false
theorem isP_dec {n m : Nat} (h2 : 2 ≤ n) (hm : n < m * m) (h : (List.range m).all (fun d => decide (d < 2) || decide (n % d ≠ 0)) = true) : IsP n := by
  refine isP_of_sqrt (by omega) fun d hd hdn hdv => ?_
  obtain ⟨e, rfl⟩ := Int.eq_ofNat_of_zero_le (show 0 ≤ d by omega)
  have hem : e < m := Nat.lt_of_not_ge fun hge => by
    have h1 : m * m ≤ e * e := Nat.mul_le_mul hge hge
    have h2 : ((e * e : Nat) : Int) ≤ n := by push_cast; exact hdn
    omega
  have := List.all_eq_true.1 h e (List.mem_range.2 hem)
  rw [Bool.or_eq_true, decide_eq_true_eq, decide_eq_true_eq] at this
  rcases this with h | h
  · omega
  · exact h (Nat.mod_eq_zero_of_dvd (Int.natCast_dvd_natCast.1 hdv))
theorem i64_and7 (n : Int) : Go.bits .and .i64 n 7 = n % 8 := by
  have h127 : (BitVec.ofInt 64 7).toNat = 2 ^ 3 - 1 := by decide
  have key : (BitVec.ofInt 64 n &&& BitVec.ofInt 64 7).toNat = (n % ((2 ^ 64 : Nat) : Int)).toNat % 2 ^ 3 := by
    rw [BitVec.toNat_and, BitVec.toNat_ofInt, h127, Nat.and_two_pow_sub_one_eq_mod]
  show IntKind.i64.wrap ((BitVec.ofInt 64 n &&& BitVec.ofInt 64 7).toNat : Nat) = n % 8
  rw [key, IntKind.wrap_i64]
  omega
theorem pick_pr : ∀ i : Nat, i < 8 → Pr (cf [2, 3, 5, 7, 11, 101, 65537, 1048573] i) := by
  intro i hi
  have h : ∀ j, j < 8 → cf [2, 3, 5, 7, 11, 101, 65537, 1048573] j = ([2, 3, 5, 7, 11, 101, 65537, 1048573] : List Int).getD j 0 := fun j _ => cf_at _ _
  rw [h i hi]
  rcases (show i = 0 ∨ i = 1 ∨ i = 2 ∨ i = 3 ∨ i = 4 ∨ i = 5 ∨ i = 6 ∨ i = 7 by omega) with h | h | h | h | h | h | h | h <;> subst h
  · exact ⟨isP_dec (n := 2) (m := 2) (by decide) (by decide) (by decide), by decide⟩
  · exact ⟨isP_dec (n := 3) (m := 2) (by decide) (by decide) (by decide), by decide⟩
  · exact ⟨isP_dec (n := 5) (m := 3) (by decide) (by decide) (by decide), by decide⟩
  · exact ⟨isP_dec (n := 7) (m := 3) (by decide) (by decide) (by decide), by decide⟩
  · exact ⟨isP_dec (n := 11) (m := 4) (by decide) (by decide) (by decide), by decide⟩
  · exact ⟨isP_dec (n := 101) (m := 11) (by decide) (by decide) (by decide), by decide⟩
  · exact ⟨isP_dec (n := 65537) (m := 257) (by decide) (by decide) (by decide +kernel), by decide⟩
  · exact ⟨isP_dec (n := 1048573) (m := 1024) (by decide) (by decide) (by decide +kernel), by decide⟩
theorem pick (a : Int) : ∃ p, Ev (fun k => primroselaw10_Pick.f k a) p ∧ Pr p := by
  have hb : 0 ≤ a % 8 := Int.emod_nonneg a (by omega)
  have hb2 : a % 8 < 8 := Int.emod_lt_of_pos a (by omega)
  have hl : Ev (fun _ : Nat => ((some (([2, 3, 5, 7, 11, 101, 65537, 1048573] : List Int) : List Int)).bind fun y299 => (if 0 ≤ (Go.bits .and .i64 a 7) then (if (Go.bits .and .i64 a 7) < (y299.length : Int) then (some (rd y299 (Go.bits .and .i64 a 7))) else (none)) else (none)))) (cf [2, 3, 5, 7, 11, 101, 65537, 1048573] (a % 8).toNat) := by
    refine ev_some rfl ?_
    rw [i64_and7]
    refine ev_pos hb (ev_pos hb2 ?_)
    rw [rd_cf']
    exact Ev.now _
  have hp := pick_pr (a % 8).toNat (by omega)
  unfold primroselaw10_Pick.f
  by_cases h : a < 1048576
  · by_cases hpr : Pr a
    · exact ⟨a, ev_pos h (Ev.bind (refIs a) (ev_pos (isB_true hpr) (Ev.now _))), hpr⟩
    · exact ⟨_, ev_pos h (Ev.bind (refIs a) (ev_neg (by rw [isB_false hpr]; decide) hl)), hp⟩
  · exact ⟨_, ev_neg h hl, hp⟩
theorem progPlain_is {p : Int} (hp : Pr p) (f : List Int) (hf : f.length ≤ 1073741824) : Is (fun k => modular_Plain.f k f p) p (cf f) := by
  unfold modular_Plain.f
  exact Is.evb (progIs p) (Is.pos (isB_true hp) (Is.bind (plain_is hp f hf) fun r h1 h2 => Is.now h1 h2))
theorem zip_is {z : Nat → Option (List Int)} {p : Int} (hp : Pr p) {f g : List Int} {n : Nat} (hn : n ≤ 1073741824) {G : Int → Int → Int} (h : ∃ r, Ev z r ∧ r.length = n ∧ ∀ j, cf r j = if j < n then G (cf f j) (cf g j) else 0)
    (hG : ∀ x y, 0 ≤ G x y ∧ G x y < p) {s : Sq} (hs : ∀ j, j < n → Cg p (G (cf f j) (cf g j)) (s j)) (hz : Lt p s n) : Is (fun k => (z k).bind fun t => (modular_trim.f k t).bind fun u => some u) p s := by
  obtain ⟨r, h1, h2, h3⟩ := h
  refine Is.evb h1 (Is.bind (trim_is (p := p) (s := s) (by omega) ?_ fun j => ?_) fun r h1 h2 => Is.now h1 h2)
  · refine mem_cf (P := fun a => 0 ≤ a ∧ a < p) fun n hn => ?_
    rw [h3]; split
    · exact hG _ _
    · exact ⟨by omega, hp.pos⟩
  · rw [h3]; split
    · rename_i hj; exact hs j hj
    · rename_i hj; exact (hz j (by omega)).symm
theorem progscale_is {p : Int} (hp : Pr p) (f : List Int) (c : Int) (hf : f.length ≤ 1073741824) : Is (fun k => modular_scale.f k f c p) p (sm c (cf f)) := by
  unfold modular_scale.f
  refine Is.some_ (rest_f hp.pos hp.2) (zip_is hp (f := f) (g := []) (G := fun x _ => (x % p * (c % p)) % p) (n := max f.length ([] : List Int).length) (by simp; omega) (zip_scale_f (c := c % p) (G := fun x _ => (x % p * (c % p)) % p) (fun x y => scale1_f hp (md hp c) x y) f [] hf (by simp)) (fun x y => md hp _) (fun j hj => ?_) (fun j hj => ?_))
  · refine (Cg.mod p _).trans (((Cg.mod p _).mul (Cg.mod p _)).trans (.of_eq ?_))
    rw [sm_at, Int.mul_comm]
  · rw [sm_at, cf_big (l := f) (by simp at hj; omega)]; exact .of_eq (by omega)
theorem Lt.sm {p : Int} {a : Sq} {n : Nat} (c : Int) (h : Lt p a n) : Lt p (sm c a) n := fun i hi => by
  have := (Cg.refl p c).mul (h i hi); rw [Int.mul_zero] at this; exact this
end Go.Proofs.Ytiflghgebeadiaa.Alg
end
section
namespace Go.Proofs.Ytiflghgebeadiaa.Alg
open Go.RowKit Go.Proofs.YtiflghgebeadiaaW.PrintWords Go.Proofs.YtiflghgebeadiaaW.PrintMore Go.Proofs.Ytiflghgebeadiaa.M Sq
set_option linter.unusedVariables false
set_option linter.unusedSimpArgs false
structure Mn (p : Int) (F : Sq) (m : List Int) : Prop where
  pl : PL p m
  eq : (Cq p F 0 ∧ m = []) ∨ (0 < m.length ∧ cf m (m.length - 1) = 1 ∧ ∃ v, ¬ Cg p v 0 ∧ Cq p (cf m) (sm v F))
theorem unit_inv {p v w : Int} (hp : IsP p) (h : Cg p (v * w) 1) : ¬ Cg p w 0 := fun hw => by
  have := ((Cg.refl p v).mul hw).symm.trans h
  rw [Int.mul_zero] at this; exact hp.one_ne this.symm
theorem sm_zero_iff {p v : Int} (hp : IsP p) (hv : ¬ Cg p v 0) {F : Sq} (h : Cq p (sm v F) 0) : Cq p F 0 := fun n => by
  have := h n
  rw [sm_at, zero_at] at this
  rcases hp.cg_mul this with h | h
  · exact absurd h hv
  · exact h
theorem monic_one {p : Int} (hp : Pr p) {F : Sq} {m m' : List Int} {v v' : Int} (h : PL p m) (h' : PL p m') (hl : 0 < m.length) (hl' : 0 < m'.length) (ht : cf m (m.length - 1) = 1) (ht' : cf m' (m'.length - 1) = 1)
    (hv : ¬ Cg p v 0) (hv' : ¬ Cg p v' 0) (hc : Cq p (cf m) (sm v F)) (hc' : Cq p (cf m') (sm v' F)) : m = m' := by
  have hx : Cq p (sm v' (cf m)) (sm v (cf m')) := fun n => by
    refine ((Cg.refl p v').mul (hc n)).trans (Cg.trans (.of_eq ?_) ((Cg.refl p v).mul (hc' n)).symm)
    rw [sm_at, sm_at]; grind
  have hlen : m.length = m'.length := by
    rcases Nat.lt_trichotomy m.length m'.length with h1 | h1 | h1
    · have h2 := hx (m'.length - 1)
      rw [sm_at, sm_at, ht', cf_big (l := m) (by omega), Int.mul_zero, Int.mul_one] at h2
      exact absurd h2.symm hv
    · exact h1
    · have h2 := hx (m.length - 1)
      rw [sm_at, sm_at, ht, cf_big (l := m') (by omega), Int.mul_zero, Int.mul_one] at h2
      exact absurd h2 hv'
  have hvv : Cg p v' v := by
    have h2 := hx (m.length - 1)
    rw [sm_at, sm_at, ht, hlen, ht', Int.mul_one, Int.mul_one] at h2
    exact h2
  refine h.ext h' hp.pos fun n => hp.1.cancel hv' ?_
  have h2 := hx n
  rw [sm_at, sm_at] at h2
  rw [Int.mul_comm (cf m n), Int.mul_comm (cf m' n)]
  exact h2.trans (hvv.symm.mul (.refl _ _))
theorem Mn.one {p : Int} (hp : Pr p) {F : Sq} {m m' : List Int} (h : Mn p F m) (k : Mn p F m') : m = m' := by
  rcases h.eq with ⟨hz, h1⟩ | ⟨hl, ht, v, hv, hc⟩
  · rcases k.eq with ⟨_, k1⟩ | ⟨kl, kt, w, hw, kc⟩
    · rw [h1, k1]
    · have := (kc.trans ((Cq.sm (.refl p w) hz).trans (Cq.of_eq (show sm w 0 = 0 by ext n; simp)))) (m'.length - 1)
      rw [kt] at this; exact absurd this hp.1.one_ne
  · rcases k.eq with ⟨hz, _⟩ | ⟨kl, kt, w, hw, kc⟩
    · have := (hc.trans ((Cq.sm (.refl p v) hz).trans (Cq.of_eq (show sm v 0 = 0 by ext n; simp)))) (m.length - 1)
      rw [ht] at this; exact absurd this hp.1.one_ne
    · exact monic_one hp h.pl k.pl hl kl ht kt hv hw hc kc
theorem Mn.len {p : Int} (hp : Pr p) {F : Sq} {m : List Int} (h : Mn p F m) {n : Nat} (hF : Lt p F n) : m.length ≤ n := by
  rcases h.eq with ⟨_, h1⟩ | ⟨hl, ht, v, hv, hc⟩
  · rw [h1]; simp
  · exact h.pl.le_of hp.pos hc (Lt.sm v hF)
theorem Mn.cq {p : Int} {F G : Sq} {m : List Int} (h : Mn p F m) (hF : Cq p F G) : Mn p G m :=
  ⟨h.pl, by
    rcases h.eq with ⟨hz, h1⟩ | ⟨hl, ht, v, hv, hc⟩
    · exact .inl ⟨hF.symm.trans hz, h1⟩
    · exact .inr ⟨hl, ht, v, hv, hc.trans (Cq.sm (.refl _ _) hF)⟩⟩
theorem Mn.sm {p : Int} (hp : Pr p) {F : Sq} {m : List Int} {c : Int} (hc : ¬ Cg p c 0) (h : Mn p (Sq.sm c F) m) : Mn p F m :=
  ⟨h.pl, by
    rcases h.eq with ⟨hz, h1⟩ | ⟨hl, ht, v, hv, hcq⟩
    · exact .inl ⟨sm_zero_iff hp.1 hc hz, h1⟩
    · refine .inr ⟨hl, ht, v * c, fun hz => ?_, hcq.trans (.of_eq (sm_sm _ _ _))⟩
      rcases hp.1.cg_mul hz with h | h
      · exact hv h
      · exact hc h⟩
theorem mn_of {p : Int} (hp : Pr p) {F : List Int} (hF : PL p F) (h0 : 0 < F.length) {v : Int} (hv : Cg p (cf F (F.length - 1) * v) 1) {m : List Int} (hm : PL p m) (hc : Cq p (cf m) (sm v (cf F))) : Mn p (cf F) m := by
  have hvu := unit_inv hp.1 hv
  have htop : Cg p (cf m (F.length - 1)) 1 := (hc _).trans ((Cg.of_eq (by rw [sm_at, Int.mul_comm])).trans hv)
  have hle : m.length ≤ F.length := hm.le_of hp.pos hc (Lt.sm v (cf_lt_ p F))
  have hge : F.length ≤ m.length := Nat.le_of_not_lt fun hlt => by
    rw [cf_big (l := m) (by omega)] at htop; exact hp.1.one_ne htop.symm
  have hlen : m.length = F.length := by omega
  refine ⟨hm, .inr ⟨by omega, ?_, v, hvu, hc⟩⟩
  have hb := hm.at hp.pos (F.length - 1)
  rw [hlen]
  exact htop.eq_of hb.1 hb.2 (by omega) (by have := hp.two; omega)
theorem progMonic {p : Int} (hp : Pr p) (f : List Int) (hf : f.length ≤ 1073741824) : ∃ m, Ev (fun k => modular_Monic.f k f p) m ∧ Mn p (cf f) m := by
  obtain ⟨F, a1, a2, a3, a4⟩ := (progPlain_is hp f hf).len hp.pos (cf_lt_ p f)
  by_cases h0 : F.length = 0
  · refine ⟨F, ?_, a2, .inl ⟨a3.symm.trans ((a2.len_iff hp.pos).1 h0), List.length_eq_zero_iff.1 h0⟩⟩
    unfold modular_Monic.f
    exact Ev.bind a1 (ev_pos (by omega) (Ev.now _))
  · obtain ⟨v, b1, b2, b3⟩ := progInv hp (a2.last hp.pos (by omega))
    obtain ⟨m, c1, c2, c3⟩ := progscale_is hp F v (by omega)
    refine ⟨m, ?_, (mn_of hp a2 (by omega) b3 c2 c3).cq a3⟩
    unfold modular_Monic.f
    refine Ev.bind a1 (ev_neg (by omega) ?_)
    rw [wpred (by omega) (by omega)]
    refine ev_pos (by omega) (ev_pos (by omega) ?_)
    rw [rd_cf]
    exact Ev.bind b1 (Ev.bind c1 (Ev.now _))
inductive Eu (p : Int) : List Int → List Int → List Int → Prop
  | done (f : List Int) : Eu p f [] f
  | step {f g q r d : List Int} : g ≠ [] → QR p (cf f) (cf g) q r → Eu p g r d → Eu p f g d
theorem Eu.one {p : Int} (hp : Pr p) {f g d d' : List Int} (h : Eu p f g d) (k : Eu p f g d') : d = d' := by
  induction h with
  | done f =>
    cases k with
    | done => rfl
    | step h0 => exact absurd rfl h0
  | step h0 hq _ ih =>
    cases k with
    | done => exact absurd rfl h0
    | step _ kq ke =>
      obtain ⟨_, hr⟩ := hq.one hp kq
      subst hr; exact ih ke
end Go.Proofs.Ytiflghgebeadiaa.Alg
end
section
namespace Go.Proofs.Ytiflghgebeadiaa.Alg
open Go.RowKit Go.Proofs.YtiflghgebeadiaaW.PrintWords Go.Proofs.YtiflghgebeadiaaW.PrintMore Go.Proofs.Ytiflghgebeadiaa.M Sq
set_option linter.unusedVariables false
set_option linter.unusedSimpArgs false
theorem awake11 : Ev (fun k => primroselaw11_awake.f k) true := by
  have h : ∀ m, primroselaw11_awake.f (m + 40) = some true := fun m => by kernel_rfl
  exact ⟨40, fun k hk => by rw [show k = (k - 40) + 40 by omega]; exact h _⟩
theorem asked_no {p : Int} (hp : ¬ Pr p) (f : List Int) : Ev (fun k => split_asked.f k f p) ([], 50) := by
  unfold split_asked.f
  exact Ev.bind (progIs p) (ev_neg (by rw [isB_false hp]; decide) (Ev.now _))
theorem asked_any {p : Int} (hp : Pr p) (f : List Int) (hf : f.length ≤ 1073741824) : ∃ m, Mn p (cf f) m ∧ Ev (fun k => split_asked.f k f p) (if m.length = 0 then ([], 30) else (m, 0)) := by
  obtain ⟨m, h1, h2⟩ := progMonic hp f hf
  refine ⟨m, h2, ?_⟩
  unfold split_asked.f
  refine Ev.bind (progIs p) (ev_pos (isB_true hp) (Ev.bind h1 ?_))
  by_cases h : m.length = 0
  · rw [if_pos h]; exact ev_pos (by omega) (Ev.now _)
  · rw [if_neg h]; exact ev_neg (by omega) (Ev.now _)
theorem asked_zero {p : Int} (hp : Pr p) (f : List Int) (hf : f.length ≤ 1073741824) (hz : Cq p (cf f) 0) : Ev (fun k => split_asked.f k f p) ([], 30) := by
  obtain ⟨m, h1, h2⟩ := asked_any hp f hf
  have h3 : m.length ≤ 0 := h1.len hp (fun i _ => hz i)
  rw [if_pos (by omega)] at h2
  exact h2
theorem factor_err {p e : Int} {f draws : List Int} (he : e ≠ 0) (h : Ev (fun k => split_asked.f k f p) ([], e)) : Ev (fun k => split_Factor.f k f p draws) ([], e) := by
  unfold split_Factor.f
  exact Ev.bind h (ev_neg he (Ev.now _))
theorem degrees_err {p e : Int} {f : List Int} (he : e ≠ 0) (h : Ev (fun k => split_asked.f k f p) ([], e)) : Ev (fun k => split_Degrees.f k f p) ([], e) := by
  unfold split_Degrees.f
  exact Ev.bind h (ev_neg he (Ev.now _))
end Go.Proofs.Ytiflghgebeadiaa.Alg
end
section
namespace Go.Proofs.Ytiflghgebeadiaa.Pure
open Go.RowKit Go.Proofs.Ytiflghgebeadiaa.M Go.Proofs.YtiflghgebeadiaaW.PrintWords Go.Proofs.YtiflghgebeadiaaW.PrintLast Go.Proofs.Ytiflghgebeadiaa.Alg
set_option linter.unusedVariables false
theorem SplitRefuses : primroselaw11_SplitRefuses.Pure := by
  intro f a draws _ _ _ _ _ _ _
  refine Ev.rounds (g := fun k => primroselaw11_SplitRefuses.f k f a draws) ?_
  unfold primroselaw11_SplitRefuses.f
  refine Ev.bind awake11 (ev_pos rfl ?_)
  by_cases h1 : (f.length : Int) > 12
  · exact ev_pos h1 (Ev.now _)
  refine ev_neg h1 ?_
  obtain ⟨p, hpick, hp⟩ := pick a
  have hw : wrap64 (-p) = -p := by have := hp.pos; have := hp.2; exact w64 (by omega) (by omega)
  have hz : Sq.Cq p (cf [0, p, wrap64 (-p)]) 0 := fun i => by
    rw [hw]
    match i with
    | 0 => exact .of_eq (by simp [cf])
    | 1 => exact ⟨1, by simp [cf]⟩
    | 2 => exact ⟨-1, by simp [cf]⟩
    | i + 3 => exact .of_eq (by simp [cf])
  have h0 := asked_zero hp [0, p, wrap64 (-p)] (by simp) hz
  refine Ev.bind hpick (Ev.bind (factor_err (by decide) h0) (Ev.bind (degrees_err (by decide) h0) (ev_pos rfl (ev_pos rfl ?_))))
  refine Ev.step (fun k => by rw [primroselaw11_SplitRefuses.j0, if_neg (by simp [wrap64])]) ?_
  refine Ev.bind (refIs a) ?_
  by_cases hpa : Pr a
  · exact ev_pos (isB_true hpa) (Ev.now _)
  refine ev_neg (by rw [isB_false hpa]; decide) ?_
  have h2 := asked_no hpa f
  exact Ev.bind (factor_err (by decide) h2) (Ev.bind (degrees_err (by decide) h2) (ev_pos rfl (ev_pos rfl (ev_pos rfl (ev_eq (Ev.now _) (by simp [wrap64]))))))
end Go.Proofs.Ytiflghgebeadiaa.Pure
end
