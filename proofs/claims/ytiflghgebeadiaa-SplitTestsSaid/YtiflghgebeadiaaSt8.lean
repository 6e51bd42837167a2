/- Part 8 of this claim's texts, written by slim.py, a program of this claim's writer, out of its own texts and of what the kit's print wrote for this seat: rows that this claim does not need are left out. -/
import Derived.Sort.Statements
import Derived.Test.YtiflghgebeadiaaSt5
section
namespace Go.Proofs.Ytiflghgebeadiaa.M
open Go.RowKit Go.Sort Go.Proofs.YtiflghgebeadiaaW.PrintWords Go.Proofs.YtiflghgebeadiaaW.PrintLast Go.Proofs.YtiflghgebeadiaaW.PrintMore
set_option linter.unusedVariables false
set_option linter.unusedSimpArgs false
def cmpTop : Nat → List Int → List Int → Int
  | 0, _, _ => 0
  | n + 1, xs, ys => if rd xs n = rd ys n then cmpTop n xs ys else if rd xs n < rd ys n then -1 else 1
def cmpL (xs ys : List Int) : Int := if xs.length < ys.length then -1 else if ys.length < xs.length then 1 else cmpTop xs.length xs ys
def ltL (xs ys : List Int) : Bool := decide (cmpL xs ys < 0)
theorem cmpTop_self (n : Nat) (xs : List Int) : cmpTop n xs xs = 0 := by
  induction n with
  | zero => rfl
  | succ n ih => simp [cmpTop, ih]
theorem cmpTop_trans (n : Nat) (xs ys zs : List Int) : cmpTop n xs ys < 0 → cmpTop n ys zs < 0 → cmpTop n xs zs < 0 := by
  induction n with
  | zero => intro h; simp [cmpTop] at h
  | succ n ih =>
    simp only [cmpTop]
    intro h1 h2
    by_cases e1 : rd xs n = rd ys n
    · rw [if_pos e1] at h1
      by_cases e2 : rd ys n = rd zs n
      · rw [if_pos e2] at h2
        rw [if_pos (e1.trans e2)]
        exact ih h1 h2
      · rw [if_neg e2] at h2
        by_cases l2 : rd ys n < rd zs n
        · rw [if_neg (by omega), if_pos (by omega)]; omega
        · rw [if_neg l2] at h2; omega
    · rw [if_neg e1] at h1
      by_cases l1 : rd xs n < rd ys n
      · by_cases e2 : rd ys n = rd zs n
        · rw [if_neg (by omega), if_pos (by omega)]; omega
        · rw [if_neg e2] at h2
          by_cases l2 : rd ys n < rd zs n
          · rw [if_neg (by omega), if_pos (by omega)]; omega
          · rw [if_neg l2] at h2; omega
      · rw [if_neg l1] at h1; omega
theorem cmpTop_ntrans (n : Nat) (xs ys zs : List Int) : ¬ cmpTop n xs ys < 0 → ¬ cmpTop n ys zs < 0 → ¬ cmpTop n xs zs < 0 := by
  induction n with
  | zero => intro _ _; simp [cmpTop]
  | succ n ih =>
    simp only [cmpTop]
    intro h1 h2
    by_cases e1 : rd xs n = rd ys n
    · rw [if_pos e1] at h1
      by_cases e2 : rd ys n = rd zs n
      · rw [if_pos e2] at h2
        rw [if_pos (e1.trans e2)]
        exact ih h1 h2
      · rw [if_neg e2] at h2
        by_cases l2 : rd ys n < rd zs n
        · rw [if_pos l2] at h2; omega
        · rw [if_neg (by omega), if_neg (by omega)]; omega
    · rw [if_neg e1] at h1
      by_cases l1 : rd xs n < rd ys n
      · rw [if_pos l1] at h1; omega
      · by_cases e2 : rd ys n = rd zs n
        · rw [if_neg (by omega), if_neg (by omega)]; omega
        · rw [if_neg e2] at h2
          by_cases l2 : rd ys n < rd zs n
          · rw [if_pos l2] at h2; omega
          · rw [if_neg (by omega), if_neg (by omega)]; omega
theorem cmpTop_none (n : Nat) (xs ys : List Int) : ¬ cmpTop n xs ys < 0 → ¬ cmpTop n ys xs < 0 → ∀ i : Nat, i < n → rd xs i = rd ys i := by
  induction n with
  | zero => intro _ _ i h; omega
  | succ n ih =>
    simp only [cmpTop]
    intro h1 h2 i hi
    by_cases e1 : rd xs n = rd ys n
    · rw [if_pos e1] at h1
      rw [if_pos e1.symm] at h2
      rcases Nat.lt_or_ge i n with h | h
      · exact ih h1 h2 i h
      · have : i = n := by omega
        subst this
        exact e1
    · rw [if_neg e1] at h1
      rw [if_neg (Ne.symm e1)] at h2
      by_cases l1 : rd xs n < rd ys n
      · rw [if_pos l1] at h1; omega
      · rw [if_pos (by omega)] at h2; omega
theorem ltL_swo : SWO ltL where
  irrefl x := by simp [ltL, cmpL, cmpTop_self]
  trans x y z h1 h2 := by
    simp only [ltL, decide_eq_true_eq] at *
    unfold cmpL at *
    by_cases a1 : x.length < y.length
    · by_cases a2 : y.length < z.length
      · rw [if_pos (by omega)]; omega
      · rw [if_neg a2] at h2
        by_cases a3 : z.length < y.length
        · rw [if_pos a3] at h2; omega
        · rw [if_pos (by omega)]; omega
    · rw [if_neg a1] at h1
      by_cases b1 : y.length < x.length
      · rw [if_pos b1] at h1; omega
      · rw [if_neg b1] at h1
        have e : x.length = y.length := by omega
        by_cases a2 : y.length < z.length
        · rw [if_pos (by omega)]; omega
        · rw [if_neg a2] at h2
          by_cases a3 : z.length < y.length
          · rw [if_pos a3] at h2; omega
          · rw [if_neg a3] at h2
            rw [if_neg (by omega), if_neg (by omega)]
            rw [← e] at h2
            exact cmpTop_trans _ _ _ _ h1 h2
  ntrans x y z h1 h2 := by
    simp only [ltL, decide_eq_false_iff_not] at *
    unfold cmpL at *
    by_cases a1 : x.length < y.length
    · rw [if_pos a1] at h1; omega
    · rw [if_neg a1] at h1
      by_cases a2 : y.length < z.length
      · rw [if_pos a2] at h2; omega
      · rw [if_neg a2] at h2
        by_cases b1 : y.length < x.length
        · rw [if_neg (by omega), if_pos (by omega)]; omega
        · rw [if_neg b1] at h1
          by_cases b2 : z.length < y.length
          · rw [if_neg (by omega), if_pos (by omega)]; omega
          · rw [if_neg b2] at h2
            rw [if_neg (by omega), if_neg (by omega)]
            have e : x.length = y.length := by omega
            rw [← e] at h2
            exact cmpTop_ntrans _ _ _ _ h1 h2
theorem rd_ext {xs ys : List Int} (hl : xs.length = ys.length) (h : ∀ i : Nat, i < xs.length → rd xs i = rd ys i) : xs = ys := by
  apply List.ext_getElem hl
  intro i h1 h2
  have := h i h1
  simpa [rd, List.getD_eq_getElem?_getD, h1, h2] using this
theorem ltL_parts (x y : List Int) (h1 : ltL x y = false) (h2 : ltL y x = false) : x = y := by
  simp only [ltL, decide_eq_false_iff_not] at *
  unfold cmpL at *
  by_cases a1 : x.length < y.length
  · rw [if_pos a1] at h1; omega
  · by_cases a2 : y.length < x.length
    · rw [if_pos a2] at h2; omega
    · rw [if_neg a1, if_neg a2] at h1
      rw [if_neg a2, if_neg a1] at h2
      have e : x.length = y.length := by omega
      rw [← e] at h2
      exact rd_ext e (cmpTop_none _ _ _ h1 h2)
theorem wrap_small {x : Int} (h0 : -9223372036854775808 ≤ x) (h1 : x ≤ 9223372036854775807) : wrap64 x = x := by unfold wrap64; omega
theorem compare_l0 (xs ys : List Int) (hl : xs.length = ys.length) (hm : xs.length ≤ 9223372036854775807) (n : Nat) : ∀ i : Nat, i + n = xs.length → split_compare.l0 (n + 1) xs ys (xs.length : Int) i = some (cmpTop n xs ys) := by
  induction n with
  | zero =>
    intro i hi
    simp only [split_compare.l0]
    rw [if_neg (by omega)]
    rfl
  | succ n ih =>
    intro i hi
    have e1 : wrap64 (wrap64 ((xs.length : Int) - 1) - (i : Int)) = (n : Int) := by rw [wrap_small (x := (xs.length : Int) - 1) (by omega) (by omega), wrap_small (by omega) (by omega)]; omega
    have e2 : wrap64 ((i : Int) + 1) = ((i + 1 : Nat) : Int) := by rw [wrap_small (by omega) (by omega)]; omega
    rw [split_compare.l0]
    rw [if_pos (by omega), e1, if_pos (by omega), if_pos (by omega), if_pos (by omega), e2, ih (i + 1) (by omega)]
    simp only [cmpTop]
    by_cases e : rd xs n = rd ys n
    · rw [if_pos e, if_pos e]
    · rw [if_neg e, if_neg e]
      by_cases l : rd xs n < rd ys n
      · simp [cmp_Compare_int.f, cmp_isNaN_int.f, l]
      · have l2 : rd ys n < rd xs n := by omega
        simp [cmp_Compare_int.f, cmp_isNaN_int.f, l, l2]
theorem compare_is (xs ys : List Int) (hm : xs.length ≤ 9223372036854775807) : split_compare.f (xs.length + 1) xs ys = some (cmpL xs ys) := by
  unfold split_compare.f cmpL
  by_cases a1 : xs.length < ys.length
  · simp [cmp_Compare_int.f, cmp_isNaN_int.f, a1]
  · by_cases a2 : ys.length < xs.length
    · simp [cmp_Compare_int.f, cmp_isNaN_int.f, a1, a2]
    · have e : xs.length = ys.length := by omega
      have h := compare_l0 xs ys e hm xs.length 0 (by omega)
      simp only [Int.natCast_zero, Int.ofNat_zero] at h
      simp only [cmp_Compare_int.f, cmp_isNaN_int.f, bne_self_eq_false, Option.bind_some, if_neg a1, if_neg a2]
      have b1 : ¬ ((xs.length : Int) < (ys.length : Int)) := by omega
      have b2 : ¬ ((xs.length : Int) > (ys.length : Int)) := by omega
      simp only [if_neg b1, if_neg b2]
      simpa using h
end Go.Proofs.Ytiflghgebeadiaa.M
end
section
namespace Go.Proofs.Ytiflghgebeadiaa.M
open Go.Sort
set_option linter.unusedVariables false
def ins (x : List Int) : List (List Int) → List (List Int)
  | [] => [x]
  | y :: ys => if ltL y x = true then y :: ins x ys else x :: y :: ys
def srt : List (List Int) → List (List Int)
  | [] => []
  | x :: xs => ins x (srt xs)
theorem ins_perm (x : List Int) : ∀ l, (ins x l).Perm (x :: l)
  | [] => List.Perm.refl _
  | y :: ys => by
    unfold ins
    split
    · exact ((ins_perm x ys).cons y).trans (List.Perm.swap x y ys)
    · exact List.Perm.refl _
theorem srt_perm : ∀ l, (srt l).Perm l
  | [] => List.Perm.refl _
  | x :: xs => (ins_perm x _).trans ((srt_perm xs).cons x)
abbrev Srtd (l : List (List Int)) : Prop := List.Pairwise (fun x y => ltL y x = false) l
theorem ltL_asymm {x y : List Int} (h : ltL x y = true) : ltL y x = false := by
  cases h2 : ltL y x
  · rfl
  · have := ltL_swo.trans _ _ _ h h2
    rw [ltL_swo.irrefl] at this
    cases this
theorem ins_srtd (x : List Int) : ∀ l, Srtd l → Srtd (ins x l)
  | [], _ => by simp [ins, Srtd]
  | y :: ys, h => by
    have h1 := List.pairwise_cons.1 h
    unfold ins
    split
    · rename_i hlt
      refine List.pairwise_cons.2 ⟨fun z hz => ?_, ins_srtd x ys h1.2⟩
      rcases List.mem_cons.1 ((ins_perm x ys).mem_iff.1 hz) with e | hz
      · subst e; exact ltL_asymm hlt
      · exact h1.1 z hz
    · rename_i hlt
      have hlt' : ltL y x = false := by simpa using hlt
      refine List.pairwise_cons.2 ⟨fun z hz => ?_, h⟩
      rcases List.mem_cons.1 hz with e | hz
      · subst e; exact hlt'
      · exact ltL_swo.ntrans _ _ _ (h1.1 z hz) hlt'
theorem srt_srtd : ∀ l, Srtd (srt l)
  | [] => List.Pairwise.nil
  | x :: xs => ins_srtd x _ (srt_srtd xs)
theorem srtd_unique : ∀ (l m : List (List Int)), l.Perm m → Srtd l → Srtd m → l = m
  | [], m, h, _, _ => (List.nil_perm.1 h).symm
  | x :: xs, m, h, hl, hm => by
    cases m with
    | nil => exact absurd h.symm (by simp)
    | cons y ys =>
      have h1 := List.pairwise_cons.1 hl
      have h2 := List.pairwise_cons.1 hm
      have e : x = y := by
        have hx : x ∈ y :: ys := h.mem_iff.1 List.mem_cons_self
        have hy : y ∈ x :: xs := h.mem_iff.2 List.mem_cons_self
        rcases List.mem_cons.1 hx with e | hx
        · exact e
        · rcases List.mem_cons.1 hy with e | hy
          · exact e.symm
          · exact ltL_parts _ _ (h2.1 x hx) (h1.1 y hy)
      subst e
      rw [srtd_unique xs ys ((List.perm_cons x).1 h) h1.2 h2.2]
theorem srt_is {l m : List (List Int)} (h : m.Perm l) (hm : Srtd m) : m = srt l := srtd_unique _ _ (h.trans (srt_perm l).symm) hm (srt_srtd l)
end Go.Proofs.Ytiflghgebeadiaa.M
end
