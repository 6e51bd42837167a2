/- The power of a sum by a prime, and Fermat's little theorem: plain facts. -/
import Derived.Test.YtgfefcopaeelnaaAlg
namespace Go.Proofs.Ytgfefcopaeelnaa.Alg

/-- Binomials. -/
def ch : Nat → Nat → Int
  | _, 0 => 1
  | 0, _ + 1 => 0
  | n + 1, k + 1 => ch n k + ch n (k + 1)

theorem ch_zero (n : Nat) : ch n 0 = 1 := by cases n <;> rfl
theorem ch_succ (n k : Nat) : ch (n + 1) (k + 1) = ch n k + ch n (k + 1) := rfl
theorem ch_big (n : Nat) : ∀ k, n < k → ch n k = 0 := by
  induction n with
  | zero => intro k hk; cases k with | zero => omega | succ k => rfl
  | succ n ih =>
    intro k hk
    cases k with
    | zero => omega
    | succ k => rw [ch_succ, ih k (by omega), ih (k + 1) (by omega)]; rfl
theorem ch_same (n : Nat) : ch n n = 1 := by
  induction n with
  | zero => rfl
  | succ n ih => rw [ch_succ, ih, ch_big n (n + 1) (by omega)]; rfl
theorem ch_absorb (n : Nat) : ∀ i : Nat, ((i : Int) + 1) * ch (n + 1) (i + 1) = ((n : Int) + 1) * ch n i := by
  induction n with
  | zero =>
    intro i
    cases i with
    | zero => rfl
    | succ i => rw [ch_succ]; simp [ch]
  | succ n ih =>
    intro i
    rw [ch_succ (n + 1), Int.mul_add, ih i]
    cases i with
    | zero => simp [ch_zero]; omega
    | succ j =>
      have h := ih j
      rw [ch_succ n j] at h ⊢
      push_cast
      grind

namespace Sq
/-- A sum. -/
def sumS : Nat → (Nat → Sq) → Sq
  | 0, _ => 0
  | n + 1, f => sumS n f + f n
theorem sumS_head (n : Nat) (f : Nat → Sq) : sumS (n + 1) f = f 0 + sumS n (fun i => f (i + 1)) := by
  induction n with
  | zero => simp [sumS, zero_add, add_zero]
  | succ n ih => rw [sumS, ih, sumS, add_assoc]
theorem sumS_add (n : Nat) (f g : Nat → Sq) : sumS n (fun i => f i + g i) = sumS n f + sumS n g := by
  induction n with
  | zero => simp [sumS, zero_add]
  | succ n ih => rw [sumS, ih, sumS, sumS]; ext i; simp; omega
theorem sumS_mul (n : Nat) (f : Nat → Sq) (c : Sq) : sumS n f * c = sumS n (fun i => f i * c) := by
  induction n with
  | zero => simp [sumS]
  | succ n ih => rw [sumS, add_mul, ih, sumS]
theorem sumS_congr {n : Nat} {f g : Nat → Sq} (h : ∀ i, i < n → f i = g i) : sumS n f = sumS n g := by
  induction n with
  | zero => rfl
  | succ n ih => rw [sumS, sumS, ih (fun i hi => h i (by omega)), h n (by omega)]
theorem sumS_cq {p : Int} {n : Nat} {f g : Nat → Sq} (h : ∀ i, i < n → Cq p (f i) (g i)) : Cq p (sumS n f) (sumS n g) := by
  induction n with
  | zero => exact .refl _ _
  | succ n ih => exact (ih (fun i hi => h i (by omega))).add (h n (by omega))
theorem sumS_zero (n : Nat) : sumS n (fun _ => (0 : Sq)) = 0 := by
  induction n with
  | zero => rfl
  | succ n ih => rw [sumS, ih, add_zero]

theorem binomial (a b : Sq) (n : Nat) : (a + b) ^ n = sumS (n + 1) (fun i => sm (ch n i) (a ^ i * b ^ (n - i))) := by
  induction n with
  | zero => simp [sumS, zero_add, pow_zero, mul_one, ch_zero]
  | succ n ih =>
    rw [pow_succ, ih, mul_add, sumS_mul, sumS_mul]
    rw [sumS_head (n + 1)]
    have e1 : sumS (n + 1) (fun i => sm (ch (n + 1) (i + 1)) (a ^ (i + 1) * b ^ (n + 1 - (i + 1)))) =
        sumS (n + 1) (fun i => sm (ch n i) (a ^ i * b ^ (n - i)) * a) + sumS (n + 1) (fun i => sm (ch n (i + 1)) (a ^ (i + 1) * b ^ (n - i))) := by
      rw [← sumS_add]
      refine sumS_congr fun i hi => ?_
      rw [show n + 1 - (i + 1) = n - i by omega, ch_succ, sm_add', sm_mul, pow_succ a, mul_assoc (a ^ i) (b ^ (n - i)) a, mul_comm (b ^ (n - i)) a, mul_assoc]
    have e2 : sumS (n + 1) (fun i => sm (ch n i) (a ^ i * b ^ (n - i)) * b) =
        sm (ch (n + 1) 0) (a ^ 0 * b ^ (n + 1 - 0)) + sumS (n + 1) (fun i => sm (ch n (i + 1)) (a ^ (i + 1) * b ^ (n - i))) := by
      rw [sumS_head n, sumS, ch_big n (n + 1) (by omega)]
      have z : sm 0 (a ^ (n + 1) * b ^ (n - n)) = 0 := by ext i; simp
      rw [z, add_zero]
      congr 1
      · rw [sm_mul, mul_assoc, ← pow_succ]; simp [ch_zero]
      · refine sumS_congr fun i hi => ?_
        rw [sm_mul, mul_assoc, ← pow_succ, show n - (i + 1) + 1 = n - i by omega]
    rw [e1, e2]
    ext i; simp; omega

theorem frob {p : Int} (hp : IsP p) (a b : Sq) : Cq p ((a + b) ^ p.toNat) (a ^ p.toNat + b ^ p.toNat) := by
  obtain ⟨n, hn⟩ : ∃ n : Nat, p.toNat = n + 1 := ⟨p.toNat - 1, by have := hp.two; omega⟩
  have hpn : p = (n : Int) + 1 := by have := hp.two; omega
  rw [hn, binomial, sumS_head, sumS]
  have hmid : Cq p (sumS n (fun i => sm (ch (n + 1) (i + 1)) (a ^ (i + 1) * b ^ (n + 1 - (i + 1))))) 0 := by
    have h := sumS_cq (p := p) (n := n) (f := fun i => sm (ch (n + 1) (i + 1)) (a ^ (i + 1) * b ^ (n + 1 - (i + 1)))) (g := fun _ => (0 : Sq)) (fun i hi => by
      have h1 : Cg p (ch (n + 1) (i + 1)) 0 := by
        have hm : Cg p (((i : Int) + 1) * ch (n + 1) (i + 1)) 0 := by rw [ch_absorb, ← hpn]; exact ⟨ch n i, by omega⟩
        rcases hp.cg_mul hm with h | h
        · rw [cg_zero] at h
          have := Int.le_of_dvd (by omega) h
          omega
        · exact h
      intro j
      have := h1.mul (Cg.refl p ((a ^ (i + 1) * b ^ (n + 1 - (i + 1))) j))
      simpa using this)
    rwa [sumS_zero] at h
  have e0 : sm (ch (n + 1) 0) (a ^ 0 * b ^ (n + 1 - 0)) = b ^ (n + 1) := by rw [ch_zero, sm_one, pow_zero, one_mul]; rfl
  have e1 : sm (ch (n + 1) (n + 1)) (a ^ (n + 1) * b ^ (n + 1 - (n + 1))) = a ^ (n + 1) := by rw [ch_same, sm_one, Nat.sub_self, pow_zero, mul_one]
  rw [e0, e1]
  refine ((Cq.refl p (b ^ (n + 1))).add (hmid.add (Cq.refl p (a ^ (n + 1))))).trans (.of_eq ?_)
  ext i; simp; omega

theorem const_pow (a : Int) (n : Nat) : (sm a 1) ^ n = sm (a ^ n) 1 := by
  induction n with
  | zero => rw [pow_zero, Int.pow_zero, sm_one]
  | succ n ih => rw [pow_succ, ih, sm_mul, one_mul, sm_sm, Int.pow_succ]
end Sq
open Sq

theorem frob_int {p : Int} (hp : IsP p) (a b : Int) : Cg p ((a + b) ^ p.toNat) (a ^ p.toNat + b ^ p.toNat) := by
  have h := frob hp (sm a 1) (sm b 1) 0
  rw [← sm_add', const_pow, const_pow, const_pow] at h
  simpa [one_at] using h

theorem fermat_nat {p : Int} (hp : IsP p) (n : Nat) : Cg p ((n : Int) ^ p.toNat) n := by
  induction n with
  | zero =>
    obtain ⟨m, hm⟩ : ∃ m : Nat, p.toNat = m + 1 := ⟨p.toNat - 1, by have := hp.two; omega⟩
    rw [hm, Int.pow_succ]; simpa using Cg.refl p 0
  | succ n ih =>
    have h := frob_int hp n 1
    rw [Int.one_pow] at h
    push_cast
    exact h.trans (ih.add (.refl _ _))

theorem fermat {p : Int} (hp : IsP p) (a : Int) : Cg p (a ^ p.toNat) a := by
  have h := fermat_nat hp (a % p).toNat
  rw [Int.toNat_of_nonneg (Int.emod_nonneg a (by have := hp.two; omega))] at h
  exact ((Cg.mod p a).symm.pow _).trans (h.trans (Cg.mod p a))

/-- The number to the power of p less two is its inverse. -/
theorem fermat_inv {p : Int} (hp : IsP p) {a : Int} (ha : ¬ Cg p a 0) : Cg p (a * a ^ (p - 2).toNat) 1 := by
  have h := fermat hp a
  rw [show p.toNat = (p - 2).toNat + 1 + 1 by have := hp.two; omega, Int.pow_succ, Int.pow_succ] at h
  refine hp.cancel ha ?_
  refine (Cg.of_eq ?_).trans (h.trans (.of_eq (by omega)))
  grind

end Go.Proofs.Ytgfefcopaeelnaa.Alg
