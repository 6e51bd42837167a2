/- What the program's exported functions on lists by a prime come to: plain lists, sums, multiples, derivatives, values; and the statements' own small functions. -/
import Derived.Test.YtgfefcopaeelnaaOver
import Derived.Laws.BitsLemmas
import Derived.KernelRfl
import Derived.Test.YtgfefcopaeelnaaMx11
import Derived.Test.YtgfefcopaeelnaaMx13
import Derived.Test.YtgfefcopaeelnaaMx12
import Derived.Test.YtgfefcopaeelnaaMx28
import Derived.Test.YtgfefcopaeelnaaMx31
import Derived.Test.YtgfefcopaeelnaaMx33
namespace Go.Proofs.Ytgfefcopaeelnaa.Alg
open Go.RowKit Go.Proofs.YtgfefcopaeelnaaW.PrintWords Go.Proofs.YtgfefcopaeelnaaW.PrintMore Go.Proofs.Ytgfefcopaeelnaa.M Sq
set_option linter.unusedVariables false
set_option linter.unusedSimpArgs false

theorem same_l0 (a : List Int) (ha : a.length ≤ 1073741824) : ∀ (d i : Nat), a.length - i = d → i ≤ a.length → Ev (fun k => primroseref10_Same.l0 k a a (i : Int)) true := by
  intro d
  induction d with
  | zero =>
    intro i hd hi
    refine Ev.step (f := fun _ => some true) (fun k => ?_) (Ev.now _)
    rw [primroseref10_Same.l0, if_neg (by omega)]
  | succ d ih =>
    intro i hd hi
    refine Ev.step (f := fun k => primroseref10_Same.l0 k a a ((i + 1 : Nat) : Int)) (fun k => ?_) (ih (i + 1) (by omega) (by omega))
    rw [primroseref10_Same.l0, if_pos (by omega), if_pos (by omega), if_pos (by omega), if_pos rfl, wsucc (by omega)]
theorem refSame_eq {a b : List Int} (h : a = b) (ha : a.length ≤ 1073741824) : Ev (fun k => primroseref10_Same.f k a b) true := by
  subst h
  unfold primroseref10_Same.f
  exact ev_pos rfl (same_l0 a ha _ 0 rfl (by omega))
theorem same_eq {a b : List Int} (h : a = b) (ha : a.length ≤ 1073741824) : Ev (fun k => primroselaw10_same.f k a b) true := by
  unfold primroselaw10_same.f
  exact Ev.bind (refSame_eq h ha) (Ev.now _)
/-- Two calls that come to plain lists of one sequence come to the same list. -/
theorem Is.same {g h : Nat → Option (List Int)} {p : Int} {s t : Sq} (hp : 0 < p) {n : Nat} (hn : n ≤ 1073741824) (hg : Is g p s) (hh : Is h p t) (e : Cq p s t) (hl : Lt p s n) : ∃ r, Ev g r ∧ Ev h r ∧ PL p r ∧ Cq p (cf r) s ∧ r.length ≤ n := by
  obtain ⟨r, h1, h2, h3, h4⟩ := hg.len hp hl
  obtain ⟨r', k1, k2, k3⟩ := hh
  have : r' = r := k2.ext h2 hp (k3.trans (e.symm.trans h3.symm))
  subst this
  exact ⟨_, h1, k1, h2, h3, h4⟩

theorem isP_dec {n m : Nat} (h2 : 2 ≤ n) (hm : n < m * m) (h : (List.range m).all (fun d => decide (d < 2) || decide (n % d ≠ 0)) = true) : IsP n := by
  refine isP_of_sqrt (by omega) fun d hd hdn hdv => ?_
  obtain ⟨e, rfl⟩ := Int.eq_ofNat_of_zero_le (show 0 ≤ d by omega)
  have hem : e < m := Nat.lt_of_not_ge fun hge => by
    have h1 : m * m ≤ e * e := Nat.mul_le_mul hge hge
    have h2 : ((e * e : Nat) : Int) ≤ n := by push_cast; exact hdn
    omega
  have := List.all_eq_true.1 h e (List.mem_range.2 hem)
  rw [Bool.or_eq_true, decide_eq_true_eq, decide_eq_true_eq] at this
  rcases this with h | h
  · omega
  · exact h (Nat.mod_eq_zero_of_dvd (Int.natCast_dvd_natCast.1 hdv))

theorem i64_and7 (n : Int) : Go.bits .and .i64 n 7 = n % 8 := by
  have h127 : (BitVec.ofInt 64 7).toNat = 2 ^ 3 - 1 := by decide
  have key : (BitVec.ofInt 64 n &&& BitVec.ofInt 64 7).toNat = (n % ((2 ^ 64 : Nat) : Int)).toNat % 2 ^ 3 := by
    rw [BitVec.toNat_and, BitVec.toNat_ofInt, h127, Nat.and_two_pow_sub_one_eq_mod]
  show IntKind.i64.wrap ((BitVec.ofInt 64 n &&& BitVec.ofInt 64 7).toNat : Nat) = n % 8
  rw [key, IntKind.wrap_i64]
  omega
theorem i64_and1 (n : Int) : Go.bits .and .i64 n 1 = n % 2 := by
  have h127 : (BitVec.ofInt 64 1).toNat = 2 ^ 1 - 1 := by decide
  have key : (BitVec.ofInt 64 n &&& BitVec.ofInt 64 1).toNat = (n % ((2 ^ 64 : Nat) : Int)).toNat % 2 ^ 1 := by
    rw [BitVec.toNat_and, BitVec.toNat_ofInt, h127, Nat.and_two_pow_sub_one_eq_mod]
  show IntKind.i64.wrap ((BitVec.ofInt 64 n &&& BitVec.ofInt 64 1).toNat : Nat) = n % 2
  rw [key, IntKind.wrap_i64]
  omega

theorem pick_pr : ∀ i : Nat, i < 8 → Pr (cf [2, 3, 5, 7, 11, 101, 65537, 1048573] i) := by
  intro i hi
  have h : ∀ j, j < 8 → cf [2, 3, 5, 7, 11, 101, 65537, 1048573] j = ([2, 3, 5, 7, 11, 101, 65537, 1048573] : List Int).getD j 0 := fun j _ => cf_at _ _
  rw [h i hi]
  rcases (show i = 0 ∨ i = 1 ∨ i = 2 ∨ i = 3 ∨ i = 4 ∨ i = 5 ∨ i = 6 ∨ i = 7 by omega) with h | h | h | h | h | h | h | h <;> subst h
  · exact ⟨isP_dec (n := 2) (m := 2) (by decide) (by decide) (by decide), by decide⟩
  · exact ⟨isP_dec (n := 3) (m := 2) (by decide) (by decide) (by decide), by decide⟩
  · exact ⟨isP_dec (n := 5) (m := 3) (by decide) (by decide) (by decide), by decide⟩
  · exact ⟨isP_dec (n := 7) (m := 3) (by decide) (by decide) (by decide), by decide⟩
  · exact ⟨isP_dec (n := 11) (m := 4) (by decide) (by decide) (by decide), by decide⟩
  · exact ⟨isP_dec (n := 101) (m := 11) (by decide) (by decide) (by decide), by decide⟩
  · exact ⟨isP_dec (n := 65537) (m := 257) (by decide) (by decide) (by decide +kernel), by decide⟩
  · exact ⟨isP_dec (n := 1048573) (m := 1024) (by decide) (by decide) (by decide +kernel), by decide⟩

/-- A prime for any number. -/
theorem pick (a : Int) : ∃ p, Ev (fun k => primroselaw10_Pick.f k a) p ∧ Pr p := by
  have hb : 0 ≤ a % 8 := Int.emod_nonneg a (by omega)
  have hb2 : a % 8 < 8 := Int.emod_lt_of_pos a (by omega)
  have hl : Ev (fun _ : Nat => ((some (([2, 3, 5, 7, 11, 101, 65537, 1048573] : List Int) : List Int)).bind fun y299 => (if 0 ≤ (Go.bits .and .i64 a 7) then (if (Go.bits .and .i64 a 7) < (y299.length : Int) then (some (rd y299 (Go.bits .and .i64 a 7))) else (none)) else (none)))) (cf [2, 3, 5, 7, 11, 101, 65537, 1048573] (a % 8).toNat) := by
    refine ev_some rfl ?_
    rw [i64_and7]
    refine ev_pos hb (ev_pos hb2 ?_)
    rw [rd_cf']
    exact Ev.now _
  have hp := pick_pr (a % 8).toNat (by omega)
  unfold primroselaw10_Pick.f
  by_cases h : a < 1048576
  · by_cases hpr : Pr a
    · exact ⟨a, ev_pos h (Ev.bind (refIs a) (ev_pos (isB_true hpr) (Ev.now _))), hpr⟩
    · exact ⟨_, ev_pos h (Ev.bind (refIs a) (ev_neg (by rw [isB_false hpr]; decide) hl)), hp⟩
  · exact ⟨_, ev_neg h hl, hp⟩

theorem awake : Ev (fun k => primroselaw10_awake.f k) true := by
  have h : ∀ m, primroselaw10_awake.f (m + 40) = some true := fun m => by kernel_rfl
  exact ⟨40, fun k hk => by rw [show k = (k - 40) + 40 by omega]; exact h _⟩

theorem progPlain_is {p : Int} (hp : Pr p) (f : List Int) (hf : f.length ≤ 1073741824) : Is (fun k => modular_Plain.f k f p) p (cf f) := by
  unfold modular_Plain.f
  exact Is.evb (progIs p) (Is.pos (isB_true hp) (Is.bind (plain_is hp f hf) fun r h1 h2 => Is.now h1 h2))
theorem progPlain_no {p : Int} (hp : ¬ Pr p) (f : List Int) : Ev (fun k => modular_Plain.f k f p) [] := by
  unfold modular_Plain.f
  exact Ev.bind (progIs p) (ev_neg (by rw [isB_false hp]; decide) (Ev.now _))

theorem zip_is {z : Nat → Option (List Int)} {p : Int} (hp : Pr p) {f g : List Int} {n : Nat} (hn : n ≤ 1073741824) {G : Int → Int → Int} (h : ∃ r, Ev z r ∧ r.length = n ∧ ∀ j, cf r j = if j < n then G (cf f j) (cf g j) else 0)
    (hG : ∀ x y, 0 ≤ G x y ∧ G x y < p) {s : Sq} (hs : ∀ j, j < n → Cg p (G (cf f j) (cf g j)) (s j)) (hz : Lt p s n) : Is (fun k => (z k).bind fun t => (modular_trim.f k t).bind fun u => some u) p s := by
  obtain ⟨r, h1, h2, h3⟩ := h
  refine Is.evb h1 (Is.bind (trim_is (p := p) (s := s) (by omega) ?_ fun j => ?_) fun r h1 h2 => Is.now h1 h2)
  · refine mem_cf (P := fun a => 0 ≤ a ∧ a < p) fun n hn => ?_
    rw [h3]; split
    · exact hG _ _
    · exact ⟨by omega, hp.pos⟩
  · rw [h3]; split
    · rename_i hj; exact hs j hj
    · rename_i hj; exact (hz j (by omega)).symm

theorem progAdd_is {p : Int} (hp : Pr p) (f g : List Int) (hf : f.length ≤ 1073741824) (hg : g.length ≤ 1073741824) : Is (fun k => modular_Add.f k f g p) p (cf f + cf g) := by
  unfold modular_Add.f
  refine Is.evb (progIs p) (Is.pos (isB_true hp) (zip_is hp (f := f) (g := g) (G := fun x y => (x % p + y % p) % p) (n := max f.length g.length) (by omega) (zip_Add_f (add1_f hp) f g hf hg) (fun x y => md hp _) (fun j hj => ?_) (((cf_lt_ p f).mono (by omega)).add ((cf_lt_ p g).mono (by omega)))))
  exact (Cg.mod p _).trans ((Cg.mod p _).add (Cg.mod p _))
theorem progAdd_no {p : Int} (hp : ¬ Pr p) (f g : List Int) : Ev (fun k => modular_Add.f k f g p) [] := by
  unfold modular_Add.f
  exact Ev.bind (progIs p) (ev_neg (by rw [isB_false hp]; decide) (Ev.now _))
theorem progsub_is {p : Int} (hp : Pr p) (f g : List Int) (hf : f.length ≤ 1073741824) (hg : g.length ≤ 1073741824) : Is (fun k => modular_sub.f k f g p) p (cf f - cf g) := by
  unfold modular_sub.f
  refine zip_is hp (f := f) (g := g) (G := fun x y => (x % p - y % p) % p) (n := max f.length g.length) (by omega) (zip_sub_f (sub1_f hp) f g hf hg) (fun x y => md hp _) (fun j hj => ?_) (((cf_lt_ p f).mono (by omega)).sub ((cf_lt_ p g).mono (by omega)))
  exact (Cg.mod p _).trans ((Cg.mod p _).sub (Cg.mod p _))
theorem progSub_is {p : Int} (hp : Pr p) (f g : List Int) (hf : f.length ≤ 1073741824) (hg : g.length ≤ 1073741824) : Is (fun k => modular_Sub.f k f g p) p (cf f - cf g) := by
  unfold modular_Sub.f
  exact Is.evb (progIs p) (Is.pos (isB_true hp) (Is.bind (progsub_is hp f g hf hg) fun r h1 h2 => Is.now h1 h2))
theorem progSub_no {p : Int} (hp : ¬ Pr p) (f g : List Int) : Ev (fun k => modular_Sub.f k f g p) [] := by
  unfold modular_Sub.f
  exact Ev.bind (progIs p) (ev_neg (by rw [isB_false hp]; decide) (Ev.now _))
theorem progscale_is {p : Int} (hp : Pr p) (f : List Int) (c : Int) (hf : f.length ≤ 1073741824) : Is (fun k => modular_scale.f k f c p) p (sm c (cf f)) := by
  unfold modular_scale.f
  refine Is.some_ (rest_f hp.pos hp.2) (zip_is hp (f := f) (g := []) (G := fun x _ => (x % p * (c % p)) % p) (n := max f.length ([] : List Int).length) (by simp; omega) (zip_scale_f (c := c % p) (G := fun x _ => (x % p * (c % p)) % p) (fun x y => scale1_f hp (md hp c) x y) f [] hf (by simp)) (fun x y => md hp _) (fun j hj => ?_) (fun j hj => ?_))
  · refine (Cg.mod p _).trans (((Cg.mod p _).mul (Cg.mod p _)).trans (.of_eq ?_))
    rw [sm_at, Int.mul_comm]
  · rw [sm_at, cf_big (l := f) (by simp at hj; omega)]; exact .of_eq (by omega)

theorem Lt.sm {p : Int} {a : Sq} {n : Nat} (c : Int) (h : Lt p a n) : Lt p (sm c a) n := fun i hi => by
  have := (Cg.refl p c).mul (h i hi); rw [Int.mul_zero] at this; exact this

theorem wfI {n : Int} (h : (Lit.int .i64 n).wf = true) : -9223372036854775808 ≤ n ∧ n ≤ 9223372036854775807 := Go.bounds_i64 h

end Go.Proofs.Ytgfefcopaeelnaa.Alg
