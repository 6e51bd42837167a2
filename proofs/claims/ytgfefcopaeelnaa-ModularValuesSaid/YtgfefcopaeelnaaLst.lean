/- Lists of whole numbers as polynomials by a prime; what a printed function with rounds comes to. Plain facts. -/
import Derived.Test.YtgfefcopaeelnaaAlg
import Derived.Test.YtgfefcopaeelnaaWWords
import Derived.RowKit
import Derived.OpenShut
namespace Go.Proofs.Ytgfefcopaeelnaa.Alg
open Go.RowKit Go.Proofs.YtgfefcopaeelnaaW.PrintWords Sq
set_option linter.unusedVariables false
set_option linter.unusedSimpArgs false

theorem ev_pos {α : Type} {c : Prop} [Decidable c] {A B : Nat → Option α} {r : α} (hc : c) (h : Ev A r) : Ev (fun k => if c then A k else B k) r := by
  simp only [if_pos hc]; exact h
theorem ev_neg {α : Type} {c : Prop} [Decidable c] {A B : Nat → Option α} {r : α} (hc : ¬ c) (h : Ev B r) : Ev (fun k => if c then A k else B k) r := by
  simp only [if_neg hc]; exact h
theorem ev_some {α β : Type} {o : Option α} {f : Nat → α → Option β} {a : α} {r : β} (h : o = some a) (k : Ev (fun n => f n a) r) : Ev (fun n => o.bind (f n)) r := by
  subst h; exact k
theorem ev_eq {α : Type} {g : Nat → Option α} {r r' : α} (h : Ev g r) (e : r = r') : Ev g r' := e ▸ h

theorem w64 {x : Int} (h1 : -9223372036854775808 ≤ x) (h2 : x ≤ 9223372036854775807) : wrap64 x = x := by unfold wrap64; omega

/-- The rest by p, as the program reckons it. -/
theorem tmod_pos {a p : Int} (hp : 0 < p) (h : ¬ a.tmod p < 0) : a.tmod p = a % p := by
  have h1 := @Int.tmod_eq_emod a p
  have h2 := Int.emod_nonneg a (show p ≠ 0 by omega)
  have h3 := Int.emod_lt_of_pos a hp
  split at h1 <;> omega
theorem tmod_neg {a p : Int} (hp : 0 < p) (h : a.tmod p < 0) : a.tmod p + p = a % p := by
  have h1 := @Int.tmod_eq_emod a p
  have h2 := Int.emod_nonneg a (show p ≠ 0 by omega)
  have h3 := Int.emod_lt_of_pos a hp
  split at h1 <;> omega
theorem tmod_zero {a d : Int} (hd : 0 < d) : a.tmod d = 0 ↔ d ∣ a := by
  constructor
  · intro h; exact Int.dvd_of_tmod_eq_zero h
  · intro h; exact Int.tmod_eq_zero_of_dvd h

/-- A list's numbers, with noughts behind. -/
def cf (l : List Int) : Sq := fun n => l.getD n 0
theorem cf_at (l : List Int) (n : Nat) : cf l n = l.getD n 0 := rfl
theorem cf_nil : cf [] = 0 := by ext n; simp [cf]
theorem cf_big {l : List Int} {n : Nat} (h : l.length ≤ n) : cf l n = 0 := by
  simp [cf, List.getD_eq_getElem?_getD, List.getElem?_eq_none h]
theorem cf_lt {l : List Int} {n : Nat} (h : n < l.length) : cf l n = l[n] := by
  simp [cf, List.getD_eq_getElem?_getD, h]
theorem cf_cons (a : Int) (l : List Int) : cf (a :: l) = sm a 1 + Sq.x (cf l) := by
  ext n; cases n with
  | zero => simp [cf, one_at]
  | succ n => simp [cf, one_at]
theorem cf_lt_ (p : Int) (l : List Int) : Lt p (cf l) l.length := fun i hi => by rw [cf_big hi]; exact .refl _ _
theorem rd_cf (l : List Int) (n : Nat) : rd l (n : Int) = cf l n := by simp [rd, cf]
theorem rd_cf' (l : List Int) {i : Int} : rd l i = cf l i.toNat := rfl
theorem cf_set (l : List Int) (i : Nat) (v : Int) (n : Nat) : cf (l.set i v) n = if n = i ∧ i < l.length then v else cf l n := by
  simp only [cf, List.getD_eq_getElem?_getD, List.getElem?_set]
  by_cases h : i = n
  · subst h
    by_cases hl : i < l.length
    · simp [hl]
    · simp [hl, List.getElem?_eq_none (Nat.le_of_not_lt hl)]
  · rw [if_neg h, if_neg (fun hh => h hh.1.symm)]
theorem cf_snoc (l : List Int) (v : Int) (n : Nat) : cf (l ++ [v]) n = if n = l.length then v else cf l n := by
  simp only [cf, List.getD_eq_getElem?_getD]
  rcases Nat.lt_trichotomy n l.length with h | h | h
  · rw [List.getElem?_append_left h, if_neg (by omega)]
  · subst h; simp
  · rw [List.getElem?_eq_none (by simp; omega), List.getElem?_eq_none (by omega), if_neg (by omega)]
theorem cf_replicate (m : Nat) : cf (List.replicate m 0) = 0 := by
  ext n; simp only [cf, List.getD_eq_getElem?_getD, List.getElem?_replicate]; split <;> rfl
theorem cf_take {l : List Int} {m : Nat} (h : ∀ i, m ≤ i → cf l i = 0) : cf (l.take m) = cf l := by
  ext n
  by_cases hn : n < m
  · simp [cf, List.getD_eq_getElem?_getD, List.getElem?_take, hn]
  · rw [h n (by omega)]; simp [cf, List.getD_eq_getElem?_getD, List.getElem?_take, hn]
theorem cf_mem {l : List Int} {P : Int → Prop} (h : ∀ a ∈ l, P a) (h0 : P 0) (n : Nat) : P (cf l n) := by
  by_cases hn : n < l.length
  · rw [cf_lt hn]; exact h _ (List.getElem_mem hn)
  · rw [cf_big (by omega)]; exact h0
theorem mem_cf {l : List Int} {P : Int → Prop} (h : ∀ n, n < l.length → P (cf l n)) : ∀ a ∈ l, P a := by
  intro a ha
  obtain ⟨n, hn, rfl⟩ := List.getElem_of_mem ha
  rw [← cf_lt hn]; exact h n hn

/-- Residues by p. -/
def Rs (p : Int) (l : List Int) : Prop := ∀ a ∈ l, 0 ≤ a ∧ a < p
theorem Rs.at {p : Int} {l : List Int} (h : Rs p l) (hp : 0 < p) (n : Nat) : 0 ≤ cf l n ∧ cf l n < p := cf_mem (P := fun a => 0 ≤ a ∧ a < p) h ⟨by omega, hp⟩ n
/-- Plain by p: residues, the last of which is no nought. -/
def PL (p : Int) (l : List Int) : Prop := Rs p l ∧ (0 < l.length → cf l (l.length - 1) ≠ 0)
theorem rs_nil (p : Int) : Rs p [] := fun a h => by cases h
theorem PL.nil (p : Int) : PL p [] := ⟨rs_nil p, fun h => absurd h (Nat.lt_irrefl 0)⟩
theorem PL.rs {p : Int} {l : List Int} (h : PL p l) : Rs p l := h.1
theorem PL.at {p : Int} {l : List Int} (h : PL p l) (hp : 0 < p) (n : Nat) : 0 ≤ cf l n ∧ cf l n < p := h.1.at hp n
theorem PL.last {p : Int} {l : List Int} (h : PL p l) (hp : 0 < p) (hl : 0 < l.length) : ¬ Cg p (cf l (l.length - 1)) 0 := fun hc => by
  have := h.at hp (l.length - 1)
  exact h.2 hl (hc.eq_of this.1 this.2 (by omega) hp)
theorem PL.le_of {p : Int} {a : List Int} {n : Nat} {s : Sq} (h : PL p a) (hp : 0 < p) (hs : Cq p (cf a) s) (hl : Lt p s n) : a.length ≤ n := by
  refine Nat.le_of_not_lt fun hlt => ?_
  exact h.last hp (by omega) ((hs _).trans (hl _ (by omega)))
theorem PL.ext {p : Int} {a b : List Int} (ha : PL p a) (hb : PL p b) (hp : 0 < p) (h : Cq p (cf a) (cf b)) : a = b := by
  have h1 : a.length ≤ b.length := ha.le_of hp h (cf_lt_ p b)
  have h2 : b.length ≤ a.length := hb.le_of hp h.symm (cf_lt_ p a)
  refine List.ext_getElem (by omega) fun i hi hi' => ?_
  have x := ha.at hp i; have y := hb.at hp i
  rw [← cf_lt hi, ← cf_lt hi']
  exact (h i).eq_of x.1 x.2 y.1 y.2
theorem PL.nil_iff {p : Int} {a : List Int} (ha : PL p a) (hp : 0 < p) : a = [] ↔ Cq p (cf a) 0 := by
  constructor
  · intro h; rw [h, cf_nil]; exact .refl _ _
  · intro h; exact ha.ext (.nil p) hp (by rw [cf_nil]; exact h)
theorem PL.len_iff {p : Int} {a : List Int} (ha : PL p a) (hp : 0 < p) : a.length = 0 ↔ Cq p (cf a) 0 := by
  rw [← ha.nil_iff hp]; exact List.length_eq_zero_iff

/-- A list of the coefficients of a sequence. -/
theorem cf_ofFn (s : Sq) (n : Nat) (i : Nat) : cf ((List.range n).map (fun j => s j)) i = if i < n then s i else 0 := by
  simp only [cf, List.getD_eq_getElem?_getD, List.getElem?_map]
  by_cases h : i < n
  · simp [h]
  · simp [h]

theorem cf_take_at (l : List Int) (m j : Nat) : cf (l.take m) j = if j < m then cf l j else 0 := by
  simp only [cf, List.getD_eq_getElem?_getD, List.getElem?_take]
  split <;> rfl
theorem cf_append (l m : List Int) (j : Nat) : cf (l ++ m) j = if j < l.length then cf l j else cf m (j - l.length) := by
  simp only [cf, List.getD_eq_getElem?_getD]
  by_cases h : j < l.length
  · rw [List.getElem?_append_left h, if_pos h]
  · rw [List.getElem?_append_right (by omega), if_neg h]

/-- What g comes to: a plain list that is s by p. -/
def Is (g : Nat → Option (List Int)) (p : Int) (s : Sq) : Prop := ∃ r, Ev g r ∧ PL p r ∧ Cq p (cf r) s
theorem Is.cq {g : Nat → Option (List Int)} {p : Int} {s t : Sq} (h : Is g p s) (k : Cq p s t) : Is g p t := by
  obtain ⟨r, h1, h2, h3⟩ := h; exact ⟨r, h1, h2, h3.trans k⟩

attribute [irreducible] cf

end Go.Proofs.Ytgfefcopaeelnaa.Alg
