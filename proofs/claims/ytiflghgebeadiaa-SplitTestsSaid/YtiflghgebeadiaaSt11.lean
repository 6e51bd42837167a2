/- Part 11 of this claim's texts, written by slim.py, a program of this claim's writer, out of its own texts and of what the kit's print wrote for this seat: rows that this claim does not need are left out. -/
import Derived.RowKit
import Derived.OpenShut
import Derived.Test.YtiflghgebeadiaaSt0
section
namespace Go.Proofs.Ytiflghgebeadiaa.Alg
def IsP (p : Int) : Prop := 2 ≤ p ∧ ∀ d : Int, 2 ≤ d → d < p → ¬ d ∣ p
theorem IsP.pos {p : Int} (h : IsP p) : 0 < p := by have := h.1; omega
theorem IsP.two {p : Int} (h : IsP p) : 2 ≤ p := h.1
theorem isP_of_sqrt {n : Int} (h2 : 2 ≤ n) (h : ∀ d : Int, 2 ≤ d → d * d ≤ n → ¬ d ∣ n) : IsP n := by
  refine ⟨h2, fun d hd hn hdv => ?_⟩
  obtain ⟨e, he⟩ := hdv
  have he2 : 2 ≤ e := by
    rcases Int.lt_or_le e 2 with hlt | hle
    · exfalso
      rcases Int.lt_or_le e 1 with h0 | h1
      · have : d * e ≤ 0 := Int.mul_nonpos_of_nonneg_of_nonpos (by omega) (by omega)
        omega
      · have : e = 1 := by omega
        subst this; omega
    · exact hle
  rcases Int.le_total d e with hde | hde
  · have hm : d * d ≤ d * e := Int.mul_le_mul_of_nonneg_left hde (by omega)
    exact h d hd (by omega) ⟨e, he⟩
  · have hm : e * e ≤ d * e := Int.mul_le_mul_of_nonneg_right hde (by omega)
    exact h e he2 (by omega) ⟨d, by rw [he, Int.mul_comm]⟩
theorem IsP.coprime {p a : Int} (hp : IsP p) (ha : ¬ p ∣ a) : Int.gcd p a = 1 := by
  have h1 : (Int.gcd p a : Int) ∣ p := Int.gcd_dvd_left p a
  have h2 : (Int.gcd p a : Int) ∣ a := Int.gcd_dvd_right p a
  have hpos : 0 < (Int.gcd p a : Int) := by
    have : Int.gcd p a ≠ 0 := fun h0 => by
      have := Int.gcd_eq_zero_iff.1 h0
      have := hp.two; omega
    omega
  have hle : (Int.gcd p a : Int) ≤ p := Int.le_of_dvd hp.pos h1
  rcases Int.lt_or_le (Int.gcd p a : Int) 2 with h | h
  · omega
  · rcases Int.lt_or_le (Int.gcd p a : Int) p with hlt | hge
    · exact absurd h1 (hp.2 _ h hlt)
    · have : (Int.gcd p a : Int) = p := by omega
      rw [this] at h2; exact absurd h2 ha
theorem IsP.dvd_mul {p a b : Int} (hp : IsP p) (h : p ∣ a * b) : p ∣ a ∨ p ∣ b := by
  by_cases ha : p ∣ a
  · exact .inl ha
  · right
    have hc := hp.coprime ha
    have h' : p.natAbs ∣ a.natAbs * b.natAbs := by rw [← Int.natAbs_mul]; exact Int.natAbs_dvd_natAbs.2 h
    have hc' : Nat.Coprime p.natAbs a.natAbs := hc
    exact Int.natAbs_dvd_natAbs.1 (Nat.Coprime.dvd_of_dvd_mul_left hc' h')
def Cg (p a b : Int) : Prop := ∃ c, a - b = p * c
theorem Cg.refl (p a : Int) : Cg p a a := ⟨0, by omega⟩
theorem Cg.of_eq {p a b : Int} (h : a = b) : Cg p a b := ⟨0, by omega⟩
theorem Cg.symm {p a b : Int} (h : Cg p a b) : Cg p b a := by obtain ⟨c, h⟩ := h; exact ⟨-c, by grind⟩
theorem Cg.trans {p a b c : Int} (h : Cg p a b) (k : Cg p b c) : Cg p a c := by obtain ⟨x, h⟩ := h; obtain ⟨y, k⟩ := k; exact ⟨x + y, by grind⟩
theorem Cg.add {p a b c d : Int} (h : Cg p a b) (k : Cg p c d) : Cg p (a + c) (b + d) := by obtain ⟨x, h⟩ := h; obtain ⟨y, k⟩ := k; exact ⟨x + y, by grind⟩
theorem Cg.sub {p a b c d : Int} (h : Cg p a b) (k : Cg p c d) : Cg p (a - c) (b - d) := by obtain ⟨x, h⟩ := h; obtain ⟨y, k⟩ := k; exact ⟨x - y, by grind⟩
theorem Cg.neg {p a b : Int} (h : Cg p a b) : Cg p (-a) (-b) := by obtain ⟨x, h⟩ := h; exact ⟨-x, by grind⟩
theorem Cg.mul {p a b c d : Int} (h : Cg p a b) (k : Cg p c d) : Cg p (a * c) (b * d) := by obtain ⟨x, h⟩ := h; obtain ⟨y, k⟩ := k; exact ⟨x * c + b * y, by grind⟩
theorem Cg.mod (p a : Int) : Cg p (a % p) a := ⟨-(a / p), by have := Int.emod_add_mul_ediv a p; grind⟩
theorem Cg.mod_iff {p a b : Int} : Cg p a b ↔ a % p = b % p := by
  constructor
  · intro ⟨c, h⟩
    rw [show a = b + p * c by omega, Int.add_mul_emod_self_left]
  · intro h; exact ((Cg.mod p a).symm.trans (.of_eq h)).trans (Cg.mod p b)
theorem Cg.dvd {p a b : Int} (h : Cg p a b) : p ∣ a - b := by obtain ⟨c, h⟩ := h; exact ⟨c, h⟩
theorem cg_zero {p a : Int} : Cg p a 0 ↔ p ∣ a := by
  constructor
  · intro ⟨c, h⟩; exact ⟨c, by omega⟩
  · intro ⟨c, h⟩; exact ⟨c, by omega⟩
theorem Cg.eq_of {p a b : Int} (h : Cg p a b) (ha0 : 0 ≤ a) (ha : a < p) (hb0 : 0 ≤ b) (hb : b < p) : a = b := by
  have := Cg.mod_iff.1 h; rwa [Int.emod_eq_of_lt ha0 ha, Int.emod_eq_of_lt hb0 hb] at this
theorem Cg.pow {p a b : Int} (h : Cg p a b) : ∀ n : Nat, Cg p (a ^ n) (b ^ n)
  | 0 => by rw [Int.pow_zero, Int.pow_zero]; exact .refl _ _
  | n + 1 => by rw [Int.pow_succ, Int.pow_succ]; exact (Cg.pow h n).mul h
theorem IsP.cg_mul {p a b : Int} (hp : IsP p) (h : Cg p (a * b) 0) : Cg p a 0 ∨ Cg p b 0 := by
  rw [cg_zero] at h
  rcases hp.dvd_mul h with h | h
  · exact .inl (cg_zero.2 h)
  · exact .inr (cg_zero.2 h)
theorem IsP.one_ne {p : Int} (hp : IsP p) : ¬ Cg p 1 0 := fun h => by
  rw [cg_zero] at h
  have := Int.le_of_dvd (by omega) h
  have := hp.two; omega
theorem IsP.cancel {p a b c : Int} (hp : IsP p) (hc : ¬ Cg p c 0) (h : Cg p (a * c) (b * c)) : Cg p a b := by
  have : Cg p ((a - b) * c) 0 := by obtain ⟨x, h⟩ := h; exact ⟨x, by grind⟩
  rcases hp.cg_mul this with h | h
  · obtain ⟨x, h⟩ := h; exact ⟨x, by omega⟩
  · exact absurd h hc
def Sq := Nat → Int
namespace Sq
@[ext] theorem ext {a b : Sq} (h : ∀ n, a n = b n) : a = b := funext h
instance : Add Sq := ⟨fun a b n => a n + b n⟩
instance : Sub Sq := ⟨fun a b n => a n - b n⟩
instance : Neg Sq := ⟨fun a n => -a n⟩
instance : Zero Sq := ⟨fun _ => 0⟩
instance : One Sq := ⟨fun n => if n = 0 then 1 else 0⟩
instance : Inhabited Sq := ⟨0⟩
def sh (a : Sq) : Sq := fun n => a (n + 1)
def x (a : Sq) : Sq := fun n => match n with | 0 => 0 | n + 1 => a n
def sm (c : Int) (a : Sq) : Sq := fun n => c * a n
def mulAt : Sq → Sq → Nat → Int
  | a, b, 0 => a 0 * b 0
  | a, b, n + 1 => a 0 * b (n + 1) + mulAt (sh a) b n
instance : Mul Sq := ⟨fun a b n => mulAt a b n⟩
@[simp] theorem add_at (a b : Sq) (n : Nat) : (a + b) n = a n + b n := rfl
@[simp] theorem sub_at (a b : Sq) (n : Nat) : (a - b) n = a n - b n := rfl
@[simp] theorem neg_at (a : Sq) (n : Nat) : (-a) n = -a n := rfl
@[simp] theorem zero_at (n : Nat) : (0 : Sq) n = 0 := rfl
theorem one_at (n : Nat) : (1 : Sq) n = if n = 0 then 1 else 0 := rfl
@[simp] theorem sh_at (a : Sq) (n : Nat) : sh a n = a (n + 1) := rfl
@[simp] theorem x_zero (a : Sq) : x a 0 = 0 := rfl
@[simp] theorem x_succ (a : Sq) (n : Nat) : x a (n + 1) = a n := rfl
@[simp] theorem sm_at (c : Int) (a : Sq) (n : Nat) : sm c a n = c * a n := rfl
theorem mul_zero_at (a b : Sq) : (a * b) 0 = a 0 * b 0 := rfl
theorem mul_succ_at (a b : Sq) (n : Nat) : (a * b) (n + 1) = a 0 * b (n + 1) + (sh a * b) n := rfl
@[simp] theorem sh_add (a b : Sq) : sh (a + b) = sh a + sh b := rfl
@[simp] theorem sh_sub (a b : Sq) : sh (a - b) = sh a - sh b := rfl
@[simp] theorem sh_neg (a : Sq) : sh (-a) = -sh a := rfl
@[simp] theorem sh_zero : sh 0 = 0 := rfl
@[simp] theorem sh_x (a : Sq) : sh (x a) = a := rfl
@[simp] theorem sh_sm (c : Int) (a : Sq) : sh (sm c a) = sm c (sh a) := rfl
theorem sh_one : sh 1 = 0 := by ext n; simp [one_at]
theorem mul_tail (a b : Sq) (n : Nat) : (a * b) (n + 1) = (a * sh b) n + a (n + 1) * b 0 := by
  induction n generalizing a with
  | zero => simp [mul_succ_at, mul_zero_at]
  | succ n ih => rw [mul_succ_at, ih, mul_succ_at (b := sh b)]; simp; omega
theorem mul_comm (a b : Sq) : a * b = b * a := by
  ext n
  induction n generalizing a b with
  | zero => simp [mul_zero_at, Int.mul_comm]
  | succ n ih => rw [mul_succ_at, mul_tail, ih]; simp [Int.mul_comm]; omega
theorem add_mul (a b c : Sq) : (a + b) * c = a * c + b * c := by
  ext n
  induction n generalizing a b with
  | zero => simp [mul_zero_at, Int.add_mul]
  | succ n ih => simp only [mul_succ_at, add_at, sh_add, ih, Int.add_mul]; omega
theorem mul_add (a b c : Sq) : a * (b + c) = a * b + a * c := by rw [mul_comm, add_mul, mul_comm b, mul_comm c]
@[simp] theorem zero_mul (a : Sq) : 0 * a = 0 := by
  ext n
  induction n with
  | zero => simp [mul_zero_at]
  | succ n ih => rw [mul_succ_at, sh_zero, ih]; simp
@[simp] theorem mul_zero (a : Sq) : a * 0 = 0 := by rw [mul_comm, zero_mul]
theorem neg_mul (a b : Sq) : (-a) * b = -(a * b) := by
  ext n
  induction n generalizing a with
  | zero => simp [mul_zero_at, Int.neg_mul]
  | succ n ih => rw [mul_succ_at, sh_neg, ih]; simp [mul_succ_at, Int.neg_mul]; omega
theorem sub_eq (a b : Sq) : a - b = a + -b := by ext n; simp; omega
theorem sub_mul (a b c : Sq) : (a - b) * c = a * c - b * c := by rw [sub_eq, add_mul, neg_mul, sub_eq]
theorem sm_mul (k : Int) (a b : Sq) : sm k a * b = sm k (a * b) := by
  ext n
  induction n generalizing a with
  | zero => simp [mul_zero_at, Int.mul_assoc]
  | succ n ih => rw [mul_succ_at, sh_sm, ih]; simp [mul_succ_at, Int.mul_add, Int.mul_assoc]
theorem x_mul (a b : Sq) : x a * b = x (a * b) := by
  ext n
  cases n with
  | zero => simp [mul_zero_at]
  | succ n => rw [mul_succ_at]; simp
theorem mul_head (a b : Sq) : a * b = sm (a 0) b + x (sh a * b) := by
  ext n
  cases n with
  | zero => simp [mul_zero_at]
  | succ n => rw [mul_succ_at]; simp
theorem mul_assoc (a b c : Sq) : a * b * c = a * (b * c) := by
  ext n
  induction n generalizing a with
  | zero => simp [mul_zero_at, Int.mul_assoc]
  | succ n ih =>
    rw [mul_head a b, add_mul, sm_mul, x_mul, mul_head a (b * c)]
    simp [ih]
theorem one_mul (a : Sq) : 1 * a = a := by
  ext n
  cases n with
  | zero => simp [mul_zero_at, one_at]
  | succ n => rw [mul_succ_at, sh_one, zero_mul]; simp [one_at]
theorem mul_one (a : Sq) : a * 1 = a := by rw [mul_comm, one_mul]
theorem add_comm (a b : Sq) : a + b = b + a := by ext n; simp; omega
theorem add_assoc (a b c : Sq) : a + b + c = a + (b + c) := by ext n; simp; omega
theorem add_zero (a : Sq) : a + 0 = a := by ext n; simp
theorem zero_add (a : Sq) : 0 + a = a := by ext n; simp
@[simp] theorem sm_one (a : Sq) : sm 1 a = a := by ext n; simp
theorem sm_sm (c d : Int) (a : Sq) : sm c (sm d a) = sm (c * d) a := by ext n; simp [Int.mul_assoc]
theorem sm_add' (c d : Int) (a : Sq) : sm (c + d) a = sm c a + sm d a := by ext n; simp [Int.add_mul]
def pow (a : Sq) : Nat → Sq
  | 0 => 1
  | n + 1 => pow a n * a
instance : HPow Sq Nat Sq := ⟨pow⟩
theorem pow_zero (a : Sq) : a ^ 0 = 1 := rfl
theorem pow_succ (a : Sq) (n : Nat) : a ^ (n + 1) = a ^ n * a := rfl
theorem pow_one (a : Sq) : a ^ 1 = a := by rw [pow_succ, pow_zero, one_mul]
theorem pow_add (a : Sq) (m n : Nat) : a ^ (m + n) = a ^ m * a ^ n := by
  induction n with
  | zero => rw [Nat.add_zero, pow_zero, mul_one]
  | succ n ih => rw [← Nat.add_assoc, pow_succ, ih, pow_succ, mul_assoc]
theorem one_pow (n : Nat) : (1 : Sq) ^ n = 1 := by
  induction n with
  | zero => rfl
  | succ n ih => rw [pow_succ, ih, mul_one]
theorem pow_mul (a : Sq) (m n : Nat) : a ^ (m * n) = (a ^ m) ^ n := by
  induction n with
  | zero => rfl
  | succ n ih => rw [Nat.mul_succ, pow_add, ih, pow_succ]
def Cq (p : Int) (a b : Sq) : Prop := ∀ n, Cg p (a n) (b n)
theorem Cq.refl (p : Int) (a : Sq) : Cq p a a := fun _ => Cg.refl _ _
theorem Cq.of_eq {p : Int} {a b : Sq} (h : a = b) : Cq p a b := by rw [h]; exact .refl _ _
theorem Cq.symm {p : Int} {a b : Sq} (h : Cq p a b) : Cq p b a := fun n => (h n).symm
theorem Cq.trans {p : Int} {a b c : Sq} (h : Cq p a b) (k : Cq p b c) : Cq p a c := fun n => (h n).trans (k n)
theorem Cq.add {p : Int} {a b c d : Sq} (h : Cq p a b) (k : Cq p c d) : Cq p (a + c) (b + d) := fun n => (h n).add (k n)
theorem Cq.sub {p : Int} {a b c d : Sq} (h : Cq p a b) (k : Cq p c d) : Cq p (a - c) (b - d) := fun n => (h n).sub (k n)
theorem Cq.neg {p : Int} {a b : Sq} (h : Cq p a b) : Cq p (-a) (-b) := fun n => (h n).neg
theorem Cq.sm {p : Int} {c d : Int} {a b : Sq} (k : Cg p c d) (h : Cq p a b) : Cq p (Sq.sm c a) (Sq.sm d b) := fun n => k.mul (h n)
theorem Cq.sh {p : Int} {a b : Sq} (h : Cq p a b) : Cq p (Sq.sh a) (Sq.sh b) := fun n => h (n + 1)
theorem Cq.mul_right {p : Int} {a b : Sq} (c : Sq) (h : Cq p a b) : Cq p (a * c) (b * c) := by
  intro n
  induction n generalizing a b with
  | zero => exact (h 0).mul (.refl _ _)
  | succ n ih => rw [mul_succ_at, mul_succ_at]; exact ((h 0).mul (.refl _ _)).add (ih h.sh)
theorem Cq.mul {p : Int} {a b c d : Sq} (h : Cq p a b) (k : Cq p c d) : Cq p (a * c) (b * d) := by
  refine (h.mul_right c).trans ?_
  rw [mul_comm b c, mul_comm b d]; exact k.mul_right b
theorem Cq.pow {p : Int} {a b : Sq} (h : Cq p a b) : ∀ n : Nat, Cq p (a ^ n) (b ^ n)
  | 0 => .refl _ _
  | n + 1 => (Cq.pow h n).mul h
theorem Cq.zero_of {p : Int} {a b : Sq} (h : Cq p a b) : Cq p (a - b) 0 := fun n => by have := (h n).sub (Cg.refl p (b n)); simpa using this
theorem Cq.of_zero {p : Int} {a b : Sq} (h : Cq p (a - b) 0) : Cq p a b := fun n => by
  obtain ⟨c, hc⟩ := h n; exact ⟨c, by simpa using hc⟩
theorem top {p : Int} {a b : Sq} {m e : Nat} (ha : ∀ i, m < i → Cg p (a i) 0) (hb : ∀ j, e < j → Cg p (b j) 0) :
    Cg p ((a * b) (m + e)) (a m * b e) ∧ ∀ i, m + e < i → Cg p ((a * b) i) 0 := by
  induction m generalizing a with
  | zero =>
    have hs : Cq p (Sq.sh a) 0 := fun n => ha (n + 1) (by omega)
    have hz : ∀ n, Cg p ((Sq.sh a * b) n) 0 := fun n => by have := (hs.mul_right b) n; rwa [zero_mul] at this
    constructor
    · rw [Nat.zero_add]
      cases e with
      | zero => exact .refl _ _
      | succ e => rw [mul_succ_at]; simpa using (Cg.refl p (a 0 * b (e + 1))).add (hz e)
    · intro i hi
      cases i with
      | zero => omega
      | succ i => rw [mul_succ_at]; have h := ((Cg.refl p (a 0)).mul (hb (i + 1) (by omega))).add (hz i); simpa using h
  | succ m ih =>
    obtain ⟨h1, h2⟩ := ih (a := Sq.sh a) (fun i hi => ha (i + 1) (by omega))
    constructor
    · rw [show m + 1 + e = (m + e) + 1 by omega, mul_succ_at]
      have h := ((Cg.refl p (a 0)).mul (hb (m + e + 1) (by omega))).add h1
      simpa using h
    · intro i hi
      cases i with
      | zero => omega
      | succ i =>
        rw [mul_succ_at]
        have h := ((Cg.refl p (a 0)).mul (hb (i + 1) (by omega))).add (h2 i (by omega))
        simpa using h
def Lt (p : Int) (a : Sq) (n : Nat) : Prop := ∀ i, n ≤ i → Cg p (a i) 0
theorem Lt.mono {p : Int} {a : Sq} {m n : Nat} (h : Lt p a m) (hmn : m ≤ n) : Lt p a n := fun i hi => h i (by omega)
theorem Lt.add {p : Int} {a b : Sq} {n : Nat} (h : Lt p a n) (k : Lt p b n) : Lt p (a + b) n := fun i hi => by simpa using (h i hi).add (k i hi)
theorem Lt.sub {p : Int} {a b : Sq} {n : Nat} (h : Lt p a n) (k : Lt p b n) : Lt p (a - b) n := fun i hi => by simpa using (h i hi).sub (k i hi)
theorem Lt.cq {p : Int} {a b : Sq} {n : Nat} (h : Lt p a n) (k : Cq p b a) : Lt p b n := fun i hi => (k i).trans (h i hi)
theorem Lt.zero_cq {p : Int} {a : Sq} (h : Lt p a 0) : Cq p a 0 := fun i => h i (by omega)
theorem Lt.mul {p : Int} {a b : Sq} {m n : Nat} (h : Lt p a (m + 1)) (k : Lt p b (n + 1)) : Lt p (a * b) (m + n + 1) :=
  fun i hi => (top (m := m) (e := n) (fun i hi => h i (by omega)) (fun i hi => k i (by omega))).2 i (by omega)
theorem last {p : Int} {a : Sq} : ∀ {n : Nat}, Lt p a n → ¬ Cq p a 0 → ∃ m, m < n ∧ ¬ Cg p (a m) 0 ∧ Lt p a (m + 1)
  | 0, h, hz => absurd h.zero_cq hz
  | n + 1, h, hz => by
    by_cases hn : Cg p (a n) 0
    · have h' : Lt p a n := fun i hi => by
        rcases Nat.lt_or_ge n i with h1 | h1
        · exact h i (by omega)
        · have : i = n := by omega
          subst this; exact hn
      obtain ⟨m, hm, h1, h2⟩ := last h' hz
      exact ⟨m, by omega, h1, h2⟩
    · exact ⟨n, by omega, hn, h⟩
theorem mul_ne {p : Int} (hp : IsP p) {a b : Sq} {m n : Nat} (ha : Lt p a m) (hb : Lt p b n) (h : Cq p (a * b) 0) : Cq p a 0 ∨ Cq p b 0 := by
  by_cases h1 : Cq p a 0
  · exact .inl h1
  · by_cases h2 : Cq p b 0
    · exact .inr h2
    · obtain ⟨i, _, hi, hi'⟩ := last ha h1
      obtain ⟨j, _, hj, hj'⟩ := last hb h2
      have ht := (top (p := p) (a := a) (b := b) (m := i) (e := j) (fun z hz => hi' z (by omega)) (fun z hz => hj' z (by omega))).1
      have := ht.symm.trans (h (i + j))
      rcases hp.cg_mul this with h | h
      · exact absurd h hi
      · exact absurd h hj
theorem divide_one {p : Int} (hp : IsP p) {q q' r r' g : Sq} {n m : Nat} (hq : Lt p q m) (hq' : Lt p q' m) (hr : Lt p r n) (hr' : Lt p r' n)
    (hg : ¬ Cg p (g n) 0) (hgl : Lt p g (n + 1)) (h : Cq p (q * g + r) (q' * g + r')) : Cq p q q' ∧ Cq p r r' := by
  have hd : Cq p ((q - q') * g) (r' - r) := fun i => by
    rw [sub_mul]
    obtain ⟨c, hc⟩ := h i
    exact ⟨c, by simp at hc ⊢; omega⟩
  have hz : Cq p (q - q') 0 := by
    refine Classical.byContradiction fun hne => ?_
    obtain ⟨i, _, hi, hi'⟩ := last (hq.sub hq') hne
    have ht := (top (p := p) (a := q - q') (b := g) (m := i) (e := n) (fun z hz => hi' z (by omega)) (fun z hz => hgl z (by omega))).1
    have h0 : Cg p ((r' - r) (i + n)) 0 := (hr'.sub hr) _ (by omega)
    have := ht.symm.trans ((hd _).trans h0)
    rcases hp.cg_mul this with h | h
    · exact hi h
    · exact hg h
  refine ⟨hz.of_zero, ?_⟩
  have h1 := (hz.mul_right g).symm.trans hd
  rw [zero_mul] at h1
  exact fun i => by obtain ⟨c, hc⟩ := h1 i; exact ⟨c, by simp at hc; omega⟩
end Sq
open Go.RowKit Go.Proofs.YtiflghgebeadiaaW.PrintWords Sq
set_option linter.unusedVariables false
set_option linter.unusedSimpArgs false
theorem ev_pos {α : Type} {c : Prop} [Decidable c] {A B : Nat → Option α} {r : α} (hc : c) (h : Ev A r) : Ev (fun k => if c then A k else B k) r := by
  simp only [if_pos hc]; exact h
theorem ev_neg {α : Type} {c : Prop} [Decidable c] {A B : Nat → Option α} {r : α} (hc : ¬ c) (h : Ev B r) : Ev (fun k => if c then A k else B k) r := by
  simp only [if_neg hc]; exact h
theorem ev_some {α β : Type} {o : Option α} {f : Nat → α → Option β} {a : α} {r : β} (h : o = some a) (k : Ev (fun n => f n a) r) : Ev (fun n => o.bind (f n)) r := by
  subst h; exact k
theorem ev_eq {α : Type} {g : Nat → Option α} {r r' : α} (h : Ev g r) (e : r = r') : Ev g r' := e ▸ h
theorem w64 {x : Int} (h1 : -9223372036854775808 ≤ x) (h2 : x ≤ 9223372036854775807) : wrap64 x = x := by unfold wrap64; omega
theorem tmod_pos {a p : Int} (hp : 0 < p) (h : ¬ a.tmod p < 0) : a.tmod p = a % p := by
  have h1 := @Int.tmod_eq_emod a p
  have h2 := Int.emod_nonneg a (show p ≠ 0 by omega)
  have h3 := Int.emod_lt_of_pos a hp
  split at h1 <;> omega
theorem tmod_neg {a p : Int} (hp : 0 < p) (h : a.tmod p < 0) : a.tmod p + p = a % p := by
  have h1 := @Int.tmod_eq_emod a p
  have h2 := Int.emod_nonneg a (show p ≠ 0 by omega)
  have h3 := Int.emod_lt_of_pos a hp
  split at h1 <;> omega
theorem tmod_zero {a d : Int} (hd : 0 < d) : a.tmod d = 0 ↔ d ∣ a := by
  constructor
  · intro h; exact Int.dvd_of_tmod_eq_zero h
  · intro h; exact Int.tmod_eq_zero_of_dvd h
def cf (l : List Int) : Sq := fun n => l.getD n 0
theorem cf_at (l : List Int) (n : Nat) : cf l n = l.getD n 0 := rfl
theorem cf_nil : cf [] = 0 := by ext n; simp [cf]
theorem cf_big {l : List Int} {n : Nat} (h : l.length ≤ n) : cf l n = 0 := by
  simp [cf, List.getD_eq_getElem?_getD, List.getElem?_eq_none h]
theorem cf_lt {l : List Int} {n : Nat} (h : n < l.length) : cf l n = l[n] := by
  simp [cf, List.getD_eq_getElem?_getD, h]
theorem cf_lt_ (p : Int) (l : List Int) : Lt p (cf l) l.length := fun i hi => by rw [cf_big hi]; exact .refl _ _
theorem rd_cf (l : List Int) (n : Nat) : rd l (n : Int) = cf l n := by simp [rd, cf]
theorem rd_cf' (l : List Int) {i : Int} : rd l i = cf l i.toNat := rfl
theorem cf_set (l : List Int) (i : Nat) (v : Int) (n : Nat) : cf (l.set i v) n = if n = i ∧ i < l.length then v else cf l n := by
  simp only [cf, List.getD_eq_getElem?_getD, List.getElem?_set]
  by_cases h : i = n
  · subst h
    by_cases hl : i < l.length
    · simp [hl]
    · simp [hl, List.getElem?_eq_none (Nat.le_of_not_lt hl)]
  · rw [if_neg h, if_neg (fun hh => h hh.1.symm)]
theorem cf_snoc (l : List Int) (v : Int) (n : Nat) : cf (l ++ [v]) n = if n = l.length then v else cf l n := by
  simp only [cf, List.getD_eq_getElem?_getD]
  rcases Nat.lt_trichotomy n l.length with h | h | h
  · rw [List.getElem?_append_left h, if_neg (by omega)]
  · subst h; simp
  · rw [List.getElem?_eq_none (by simp; omega), List.getElem?_eq_none (by omega), if_neg (by omega)]
theorem cf_replicate (m : Nat) : cf (List.replicate m 0) = 0 := by
  ext n; simp only [cf, List.getD_eq_getElem?_getD, List.getElem?_replicate]; split <;> rfl
theorem cf_take {l : List Int} {m : Nat} (h : ∀ i, m ≤ i → cf l i = 0) : cf (l.take m) = cf l := by
  ext n
  by_cases hn : n < m
  · simp [cf, List.getD_eq_getElem?_getD, List.getElem?_take, hn]
  · rw [h n (by omega)]; simp [cf, List.getD_eq_getElem?_getD, List.getElem?_take, hn]
theorem cf_mem {l : List Int} {P : Int → Prop} (h : ∀ a ∈ l, P a) (h0 : P 0) (n : Nat) : P (cf l n) := by
  by_cases hn : n < l.length
  · rw [cf_lt hn]; exact h _ (List.getElem_mem hn)
  · rw [cf_big (by omega)]; exact h0
theorem mem_cf {l : List Int} {P : Int → Prop} (h : ∀ n, n < l.length → P (cf l n)) : ∀ a ∈ l, P a := by
  intro a ha
  obtain ⟨n, hn, rfl⟩ := List.getElem_of_mem ha
  rw [← cf_lt hn]; exact h n hn
def Rs (p : Int) (l : List Int) : Prop := ∀ a ∈ l, 0 ≤ a ∧ a < p
theorem Rs.at {p : Int} {l : List Int} (h : Rs p l) (hp : 0 < p) (n : Nat) : 0 ≤ cf l n ∧ cf l n < p := cf_mem (P := fun a => 0 ≤ a ∧ a < p) h ⟨by omega, hp⟩ n
def PL (p : Int) (l : List Int) : Prop := Rs p l ∧ (0 < l.length → cf l (l.length - 1) ≠ 0)
theorem rs_nil (p : Int) : Rs p [] := fun a h => by cases h
theorem PL.nil (p : Int) : PL p [] := ⟨rs_nil p, fun h => absurd h (Nat.lt_irrefl 0)⟩
theorem PL.rs {p : Int} {l : List Int} (h : PL p l) : Rs p l := h.1
theorem PL.at {p : Int} {l : List Int} (h : PL p l) (hp : 0 < p) (n : Nat) : 0 ≤ cf l n ∧ cf l n < p := h.1.at hp n
theorem PL.last {p : Int} {l : List Int} (h : PL p l) (hp : 0 < p) (hl : 0 < l.length) : ¬ Cg p (cf l (l.length - 1)) 0 := fun hc => by
  have := h.at hp (l.length - 1)
  exact h.2 hl (hc.eq_of this.1 this.2 (by omega) hp)
theorem PL.le_of {p : Int} {a : List Int} {n : Nat} {s : Sq} (h : PL p a) (hp : 0 < p) (hs : Cq p (cf a) s) (hl : Lt p s n) : a.length ≤ n := by
  refine Nat.le_of_not_lt fun hlt => ?_
  exact h.last hp (by omega) ((hs _).trans (hl _ (by omega)))
theorem PL.ext {p : Int} {a b : List Int} (ha : PL p a) (hb : PL p b) (hp : 0 < p) (h : Cq p (cf a) (cf b)) : a = b := by
  have h1 : a.length ≤ b.length := ha.le_of hp h (cf_lt_ p b)
  have h2 : b.length ≤ a.length := hb.le_of hp h.symm (cf_lt_ p a)
  refine List.ext_getElem (by omega) fun i hi hi' => ?_
  have x := ha.at hp i; have y := hb.at hp i
  rw [← cf_lt hi, ← cf_lt hi']
  exact (h i).eq_of x.1 x.2 y.1 y.2
theorem PL.nil_iff {p : Int} {a : List Int} (ha : PL p a) (hp : 0 < p) : a = [] ↔ Cq p (cf a) 0 := by
  constructor
  · intro h; rw [h, cf_nil]; exact .refl _ _
  · intro h; exact ha.ext (.nil p) hp (by rw [cf_nil]; exact h)
theorem PL.len_iff {p : Int} {a : List Int} (ha : PL p a) (hp : 0 < p) : a.length = 0 ↔ Cq p (cf a) 0 := by
  rw [← ha.nil_iff hp]; exact List.length_eq_zero_iff
theorem cf_ofFn (s : Sq) (n : Nat) (i : Nat) : cf ((List.range n).map (fun j => s j)) i = if i < n then s i else 0 := by
  simp only [cf, List.getD_eq_getElem?_getD, List.getElem?_map]
  by_cases h : i < n
  · simp [h]
  · simp [h]
theorem cf_take_at (l : List Int) (m j : Nat) : cf (l.take m) j = if j < m then cf l j else 0 := by
  simp only [cf, List.getD_eq_getElem?_getD, List.getElem?_take]
  split <;> rfl
theorem cf_append (l m : List Int) (j : Nat) : cf (l ++ m) j = if j < l.length then cf l j else cf m (j - l.length) := by
  simp only [cf, List.getD_eq_getElem?_getD]
  by_cases h : j < l.length
  · rw [List.getElem?_append_left h, if_pos h]
  · rw [List.getElem?_append_right (by omega), if_neg h]
def Is (g : Nat → Option (List Int)) (p : Int) (s : Sq) : Prop := ∃ r, Ev g r ∧ PL p r ∧ Cq p (cf r) s
theorem Is.cq {g : Nat → Option (List Int)} {p : Int} {s t : Sq} (h : Is g p s) (k : Cq p s t) : Is g p t := by
  obtain ⟨r, h1, h2, h3⟩ := h; exact ⟨r, h1, h2, h3.trans k⟩
attribute [irreducible] cf
end Go.Proofs.Ytiflghgebeadiaa.Alg
end
section
namespace Go.Proofs.Ytiflghgebeadiaa.Alg
def ch : Nat → Nat → Int
  | _, 0 => 1
  | 0, _ + 1 => 0
  | n + 1, k + 1 => ch n k + ch n (k + 1)
theorem ch_zero (n : Nat) : ch n 0 = 1 := by cases n <;> rfl
theorem ch_succ (n k : Nat) : ch (n + 1) (k + 1) = ch n k + ch n (k + 1) := rfl
theorem ch_big (n : Nat) : ∀ k, n < k → ch n k = 0 := by
  induction n with
  | zero => intro k hk; cases k with | zero => omega | succ k => rfl
  | succ n ih =>
    intro k hk
    cases k with
    | zero => omega
    | succ k => rw [ch_succ, ih k (by omega), ih (k + 1) (by omega)]; rfl
theorem ch_same (n : Nat) : ch n n = 1 := by
  induction n with
  | zero => rfl
  | succ n ih => rw [ch_succ, ih, ch_big n (n + 1) (by omega)]; rfl
theorem ch_absorb (n : Nat) : ∀ i : Nat, ((i : Int) + 1) * ch (n + 1) (i + 1) = ((n : Int) + 1) * ch n i := by
  induction n with
  | zero =>
    intro i
    cases i with
    | zero => rfl
    | succ i => rw [ch_succ]; simp [ch]
  | succ n ih =>
    intro i
    rw [ch_succ (n + 1), Int.mul_add, ih i]
    cases i with
    | zero => simp [ch_zero]; omega
    | succ j =>
      have h := ih j
      rw [ch_succ n j] at h ⊢
      push_cast
      grind
namespace Sq
def sumS : Nat → (Nat → Sq) → Sq
  | 0, _ => 0
  | n + 1, f => sumS n f + f n
theorem sumS_head (n : Nat) (f : Nat → Sq) : sumS (n + 1) f = f 0 + sumS n (fun i => f (i + 1)) := by
  induction n with
  | zero => simp [sumS, zero_add, add_zero]
  | succ n ih => rw [sumS, ih, sumS, add_assoc]
theorem sumS_add (n : Nat) (f g : Nat → Sq) : sumS n (fun i => f i + g i) = sumS n f + sumS n g := by
  induction n with
  | zero => simp [sumS, zero_add]
  | succ n ih => rw [sumS, ih, sumS, sumS]; ext i; simp; omega
theorem sumS_mul (n : Nat) (f : Nat → Sq) (c : Sq) : sumS n f * c = sumS n (fun i => f i * c) := by
  induction n with
  | zero => simp [sumS]
  | succ n ih => rw [sumS, add_mul, ih, sumS]
theorem sumS_congr {n : Nat} {f g : Nat → Sq} (h : ∀ i, i < n → f i = g i) : sumS n f = sumS n g := by
  induction n with
  | zero => rfl
  | succ n ih => rw [sumS, sumS, ih (fun i hi => h i (by omega)), h n (by omega)]
theorem sumS_cq {p : Int} {n : Nat} {f g : Nat → Sq} (h : ∀ i, i < n → Cq p (f i) (g i)) : Cq p (sumS n f) (sumS n g) := by
  induction n with
  | zero => exact .refl _ _
  | succ n ih => exact (ih (fun i hi => h i (by omega))).add (h n (by omega))
theorem sumS_zero (n : Nat) : sumS n (fun _ => (0 : Sq)) = 0 := by
  induction n with
  | zero => rfl
  | succ n ih => rw [sumS, ih, add_zero]
theorem binomial (a b : Sq) (n : Nat) : (a + b) ^ n = sumS (n + 1) (fun i => sm (ch n i) (a ^ i * b ^ (n - i))) := by
  induction n with
  | zero => simp [sumS, zero_add, pow_zero, mul_one, ch_zero]
  | succ n ih =>
    rw [pow_succ, ih, mul_add, sumS_mul, sumS_mul]
    rw [sumS_head (n + 1)]
    have e1 : sumS (n + 1) (fun i => sm (ch (n + 1) (i + 1)) (a ^ (i + 1) * b ^ (n + 1 - (i + 1)))) =
        sumS (n + 1) (fun i => sm (ch n i) (a ^ i * b ^ (n - i)) * a) + sumS (n + 1) (fun i => sm (ch n (i + 1)) (a ^ (i + 1) * b ^ (n - i))) := by
      rw [← sumS_add]
      refine sumS_congr fun i hi => ?_
      rw [show n + 1 - (i + 1) = n - i by omega, ch_succ, sm_add', sm_mul, pow_succ a, mul_assoc (a ^ i) (b ^ (n - i)) a, mul_comm (b ^ (n - i)) a, mul_assoc]
    have e2 : sumS (n + 1) (fun i => sm (ch n i) (a ^ i * b ^ (n - i)) * b) =
        sm (ch (n + 1) 0) (a ^ 0 * b ^ (n + 1 - 0)) + sumS (n + 1) (fun i => sm (ch n (i + 1)) (a ^ (i + 1) * b ^ (n - i))) := by
      rw [sumS_head n, sumS, ch_big n (n + 1) (by omega)]
      have z : sm 0 (a ^ (n + 1) * b ^ (n - n)) = 0 := by ext i; simp
      rw [z, add_zero]
      congr 1
      · rw [sm_mul, mul_assoc, ← pow_succ]; simp [ch_zero]
      · refine sumS_congr fun i hi => ?_
        rw [sm_mul, mul_assoc, ← pow_succ, show n - (i + 1) + 1 = n - i by omega]
    rw [e1, e2]
    ext i; simp; omega
theorem frob {p : Int} (hp : IsP p) (a b : Sq) : Cq p ((a + b) ^ p.toNat) (a ^ p.toNat + b ^ p.toNat) := by
  obtain ⟨n, hn⟩ : ∃ n : Nat, p.toNat = n + 1 := ⟨p.toNat - 1, by have := hp.two; omega⟩
  have hpn : p = (n : Int) + 1 := by have := hp.two; omega
  rw [hn, binomial, sumS_head, sumS]
  have hmid : Cq p (sumS n (fun i => sm (ch (n + 1) (i + 1)) (a ^ (i + 1) * b ^ (n + 1 - (i + 1))))) 0 := by
    have h := sumS_cq (p := p) (n := n) (f := fun i => sm (ch (n + 1) (i + 1)) (a ^ (i + 1) * b ^ (n + 1 - (i + 1)))) (g := fun _ => (0 : Sq)) (fun i hi => by
      have h1 : Cg p (ch (n + 1) (i + 1)) 0 := by
        have hm : Cg p (((i : Int) + 1) * ch (n + 1) (i + 1)) 0 := by rw [ch_absorb, ← hpn]; exact ⟨ch n i, by omega⟩
        rcases hp.cg_mul hm with h | h
        · rw [cg_zero] at h
          have := Int.le_of_dvd (by omega) h
          omega
        · exact h
      intro j
      have := h1.mul (Cg.refl p ((a ^ (i + 1) * b ^ (n + 1 - (i + 1))) j))
      simpa using this)
    rwa [sumS_zero] at h
  have e0 : sm (ch (n + 1) 0) (a ^ 0 * b ^ (n + 1 - 0)) = b ^ (n + 1) := by rw [ch_zero, sm_one, pow_zero, one_mul]; rfl
  have e1 : sm (ch (n + 1) (n + 1)) (a ^ (n + 1) * b ^ (n + 1 - (n + 1))) = a ^ (n + 1) := by rw [ch_same, sm_one, Nat.sub_self, pow_zero, mul_one]
  rw [e0, e1]
  refine ((Cq.refl p (b ^ (n + 1))).add (hmid.add (Cq.refl p (a ^ (n + 1))))).trans (.of_eq ?_)
  ext i; simp; omega
theorem const_pow (a : Int) (n : Nat) : (sm a 1) ^ n = sm (a ^ n) 1 := by
  induction n with
  | zero => rw [pow_zero, Int.pow_zero, sm_one]
  | succ n ih => rw [pow_succ, ih, sm_mul, one_mul, sm_sm, Int.pow_succ]
end Sq
open Sq
theorem frob_int {p : Int} (hp : IsP p) (a b : Int) : Cg p ((a + b) ^ p.toNat) (a ^ p.toNat + b ^ p.toNat) := by
  have h := frob hp (sm a 1) (sm b 1) 0
  rw [← sm_add', const_pow, const_pow, const_pow] at h
  simpa [one_at] using h
theorem fermat_nat {p : Int} (hp : IsP p) (n : Nat) : Cg p ((n : Int) ^ p.toNat) n := by
  induction n with
  | zero =>
    obtain ⟨m, hm⟩ : ∃ m : Nat, p.toNat = m + 1 := ⟨p.toNat - 1, by have := hp.two; omega⟩
    rw [hm, Int.pow_succ]; simpa using Cg.refl p 0
  | succ n ih =>
    have h := frob_int hp n 1
    rw [Int.one_pow] at h
    push_cast
    exact h.trans (ih.add (.refl _ _))
theorem fermat {p : Int} (hp : IsP p) (a : Int) : Cg p (a ^ p.toNat) a := by
  have h := fermat_nat hp (a % p).toNat
  rw [Int.toNat_of_nonneg (Int.emod_nonneg a (by have := hp.two; omega))] at h
  exact ((Cg.mod p a).symm.pow _).trans (h.trans (Cg.mod p a))
theorem fermat_inv {p : Int} (hp : IsP p) {a : Int} (ha : ¬ Cg p a 0) : Cg p (a * a ^ (p - 2).toNat) 1 := by
  have h := fermat hp a
  rw [show p.toNat = (p - 2).toNat + 1 + 1 by have := hp.two; omega, Int.pow_succ, Int.pow_succ] at h
  refine hp.cancel ha ?_
  refine (Cg.of_eq ?_).trans (h.trans (.of_eq (by omega)))
  grind
end Go.Proofs.Ytiflghgebeadiaa.Alg
end
