/- What the printed functions on lists by a prime come to: trimming, plain lists, pairs, products, quotients. -/
import Derived.Test.YtgfefcopaeelnaaMod1
import Derived.Test.YtgfefcopaeelnaaMx6
import Derived.Test.YtgfefcopaeelnaaMx2
import Derived.Test.YtgfefcopaeelnaaMx3
import Derived.Test.YtgfefcopaeelnaaMx4
namespace Go.Proofs.Ytgfefcopaeelnaa.Alg
open Go.RowKit Go.Proofs.YtgfefcopaeelnaaW.PrintWords Go.Proofs.YtgfefcopaeelnaaW.PrintMore Go.Proofs.Ytgfefcopaeelnaa.M Sq
set_option linter.unusedVariables false
set_option linter.unusedSimpArgs false

theorem wsucc {i : Nat} (h : i ≤ 4611686018427387904) : wrap64 ((i : Int) + 1) = ((i + 1 : Nat) : Int) := by rw [w64 (by omega) (by omega)]; omega
theorem wn {x : Int} {n : Nat} (h : x = n) (hn : n ≤ 4611686018427387904) : wrap64 x = n := by rw [w64 (by omega) (by omega)]; exact h
theorem md_nn {a p : Int} (ha : 0 ≤ a) : a.tmod p = a % p := Int.tmod_eq_emod_of_nonneg ha
theorem Rs.set {p : Int} {l : List Int} (h : Rs p l) {i : Nat} {v : Int} (hv : 0 ≤ v ∧ v < p) : Rs p (l.set i v) := fun a ha => by
  rcases List.mem_or_eq_of_mem_set ha with h1 | h1
  · exact h a h1
  · rw [h1]; exact hv
theorem Rs.rep {p : Int} (hp : 0 < p) (n : Nat) : Rs p (List.replicate n 0) := fun a ha => by rw [List.eq_of_mem_replicate ha]; omega

/-- n noughts ahead. -/
def xn : Nat → Sq → Sq
  | 0, a => a
  | n + 1, a => Sq.x (xn n a)
theorem xn_at (n : Nat) (a : Sq) : ∀ j, xn n a j = if j < n then 0 else a (j - n) := by
  induction n with
  | zero => intro j; simp [xn]
  | succ n ih =>
    intro j
    cases j with
    | zero => simp [xn]
    | succ j => rw [xn, x_succ, ih]; by_cases h : j < n <;> simp [h] <;> omega
theorem xn_mul (n : Nat) (a b : Sq) : xn n a * b = xn n (a * b) := by
  induction n with
  | zero => rfl
  | succ n ih => rw [xn, x_mul, ih, xn]
theorem xn_cq {p : Int} {a b : Sq} (n : Nat) (h : Cq p a b) : Cq p (xn n a) (xn n b) := fun j => by
  rw [xn_at, xn_at]; split
  · exact .refl _ _
  · exact h _
theorem cf_take_all {l : List Int} : cf (l.take l.length) = cf l := by rw [List.take_length]
theorem cf_take_succ (l : List Int) (i : Nat) : cf (l.take (i + 1)) = cf (l.take i) + xn i (sm (cf l i) 1) := by
  ext j
  rw [Sq.add_at, cf_take_at, cf_take_at, xn_at]
  rcases Nat.lt_trichotomy j i with h | h | h
  · rw [if_pos (by omega), if_pos h, if_pos h]; omega
  · subst h; simp [one_at]
  · rw [if_neg (by omega), if_neg (by omega), if_neg (by omega)]; simp [one_at, show ¬ j - i = 0 by omega]

/-! ### trimming -/

theorem trim_l0 (l : List Int) (hl : l.length ≤ 1099511627776) : ∀ (n : Nat), n ≤ l.length → (∀ i, n ≤ i → cf l i = 0) →
    ∃ m, m ≤ n ∧ Ev (fun k => modular_trim.l0 k l (n : Int)) (l.take m) ∧ (∀ i, m ≤ i → cf l i = 0) ∧ (0 < m → cf l (m - 1) ≠ 0) := by
  intro n
  induction n with
  | zero =>
    intro hn hz
    refine ⟨0, Nat.le_refl _, Ev.step (f := fun _ => some (l.take 0)) (fun k => ?_) (Ev.now _), hz, fun h => by omega⟩
    rw [modular_trim.l0, if_neg (by omega), if_pos (by omega), if_pos (by omega)]; rfl
  | succ n ih =>
    intro hn hz
    have e : wrap64 (((n + 1 : Nat) : Int) - 1) = (n : Int) := by rw [w64 (by omega) (by omega)]; omega
    by_cases h0 : cf l n = 0
    · obtain ⟨m, hm, hev, hz', hlast⟩ := ih (by omega) (fun i hi => by
        rcases Nat.lt_or_ge n i with h | h
        · exact hz i (by omega)
        · rw [show i = n by omega]; exact h0)
      refine ⟨m, by omega, Ev.step (f := fun k => modular_trim.l0 k l (n : Int)) (fun k => ?_) hev, hz', hlast⟩
      rw [modular_trim.l0, e, if_pos (by omega), if_pos (by omega), if_pos (by omega), rd_cf, if_pos h0]
    · refine ⟨n + 1, Nat.le_refl _, Ev.step (f := fun _ => some (l.take (n + 1))) (fun k => ?_) (Ev.now _), hz, fun _ => h0⟩
      rw [modular_trim.l0, e, if_pos (by omega), if_pos (by omega), if_pos (by omega), rd_cf, if_neg h0, if_pos (by omega), if_pos (by omega)]; rfl

theorem trim_f (l : List Int) (hl : l.length ≤ 1099511627776) : ∃ r, Ev (fun k => modular_trim.f k l) r ∧ cf r = cf l ∧ r.length ≤ l.length ∧ ∀ p, Rs p l → PL p r := by
  obtain ⟨m, hm, hev, hz, hlast⟩ := trim_l0 l hl l.length (Nat.le_refl _) (fun i hi => cf_big hi)
  refine ⟨l.take m, hev, cf_take hz, by rw [List.length_take]; omega, fun p h => ⟨fun a ha => h a (List.mem_of_mem_take ha), fun h => ?_⟩⟩
  rw [List.length_take, Nat.min_eq_left hm] at h ⊢
  rw [cf_take hz]; exact hlast h

theorem trim_is {p : Int} {l : List Int} {s : Sq} (hl : l.length ≤ 1099511627776) (h : Rs p l) (hs : Cq p (cf l) s) : Is (fun k => modular_trim.f k l) p s := by
  obtain ⟨r, h1, h2, h3, h4⟩ := trim_f l hl
  exact ⟨r, h1, h4 p h, by rw [h2]; exact hs⟩
theorem Is.bind {g : Nat → Option (List Int)} {f : Nat → List Int → Option (List Int)} {p : Int} {s t : Sq} (h : Is g p s) (k : ∀ r, PL p r → Cq p (cf r) s → Is (fun n => f n r) p t) : Is (fun n => (g n).bind (f n)) p t := by
  obtain ⟨r, h1, h2, h3⟩ := h
  obtain ⟨r', k1, k2, k3⟩ := k r h2 h3
  exact ⟨r', Ev.bind h1 k1, k2, k3⟩
theorem Is.now {p : Int} {s : Sq} {r : List Int} (h : PL p r) (hs : Cq p (cf r) s) : Is (fun _ => some r) p s := ⟨r, Ev.now r, h, hs⟩
theorem Is.step {g f : Nat → Option (List Int)} {p : Int} {s : Sq} (h : ∀ k, g (k + 1) = f k) (hf : Is f p s) : Is g p s := by
  obtain ⟨r, h1, h2, h3⟩ := hf; exact ⟨r, Ev.step h h1, h2, h3⟩
theorem Is.congr {g f : Nat → Option (List Int)} {p : Int} {s : Sq} (h : ∀ k, g k = f k) (hf : Is f p s) : Is g p s := by
  obtain ⟨r, h1, h2, h3⟩ := hf; exact ⟨r, Ev.congr h h1, h2, h3⟩
theorem Is.some_ {α : Type} {o : Option α} {f : Nat → α → Option (List Int)} {a : α} {p : Int} {s : Sq} (h : o = some a) (k : Is (fun n => f n a) p s) : Is (fun n => o.bind (f n)) p s := by
  subst h; exact k
theorem Is.evb {α : Type} {g : Nat → Option α} {f : Nat → α → Option (List Int)} {a : α} {p : Int} {s : Sq} (h : Ev g a) (k : Is (fun n => f n a) p s) : Is (fun n => (g n).bind (f n)) p s := by
  obtain ⟨r, k1, k2, k3⟩ := k; exact ⟨r, Ev.bind h k1, k2, k3⟩
theorem Is.pos {c : Prop} [Decidable c] {A B : Nat → Option (List Int)} {p : Int} {s : Sq} (hc : c) (h : Is A p s) : Is (fun k => if c then A k else B k) p s := by
  obtain ⟨r, k1, k2, k3⟩ := h; exact ⟨r, ev_pos hc k1, k2, k3⟩
theorem Is.neg {c : Prop} [Decidable c] {A B : Nat → Option (List Int)} {p : Int} {s : Sq} (hc : ¬ c) (h : Is B p s) : Is (fun k => if c then A k else B k) p s := by
  obtain ⟨r, k1, k2, k3⟩ := h; exact ⟨r, ev_neg hc k1, k2, k3⟩

/-! ### plain lists -/

theorem plain_l0 {p : Int} (hp : Pr p) (l : List Int) (hl : l.length ≤ 1073741824) : ∀ (d : Nat) (out : List Int) (i : Nat), l.length - i = d → i ≤ l.length → out.length = l.length →
    (∀ j, cf out j = if j < i then cf l j % p else 0) → Is (fun k => modular_plain.l0 k p out l (l.length : Int) (i : Int)) p (cf l) := by
  intro d
  induction d with
  | zero =>
    intro out i hd hi ho hc
    have hil : i = l.length := by omega
    refine Is.step (f := fun k => (modular_trim.f k out).bind fun t => some t) (fun k => ?_) (Is.bind (trim_is (p := p) (s := cf l) (by omega) ?_ ?_) (fun r h1 h2 => Is.now h1 h2))
    · rw [modular_plain.l0, if_neg (by omega)]
    · refine mem_cf (P := fun a => 0 ≤ a ∧ a < p) fun n hn => ?_
      rw [hc]; split
      · exact md hp _
      · exact ⟨by omega, hp.pos⟩
    · intro j; rw [hc]; split
      · exact Cg.mod p _
      · rw [cf_big (by omega)]; exact .refl _ _
  | succ d ih =>
    intro out i hd hi ho hc
    refine Is.step (f := fun k => modular_plain.l0 k p (out.set i (cf l i % p)) l (l.length : Int) ((i + 1 : Nat) : Int)) (fun k => ?_) (ih _ (i + 1) (by omega) (by omega) (by simpa using ho) fun j => ?_)
    · rw [modular_plain.l0, if_pos (by omega), if_pos (by omega), if_pos (by omega), rd_cf, rest_f hp.pos hp.2, Option.bind_some, if_pos (by omega), wsucc (by omega)]; rfl
    · rw [cf_set, hc]
      by_cases h1 : j = i
      · subst h1; rw [if_pos ⟨rfl, by omega⟩, if_pos (by omega)]
      · rw [if_neg (fun h => h1 h.1)]
        by_cases h2 : j < i
        · rw [if_pos h2, if_pos (by omega)]
        · rw [if_neg h2, if_neg (by omega)]

theorem plain_is {p : Int} (hp : Pr p) (l : List Int) (hl : l.length ≤ 1073741824) : Is (fun k => modular_plain.f k l p) p (cf l) := by
  unfold modular_plain.f
  refine Is.pos (by omega) (Is.pos (by simp; omega) ?_)
  refine plain_l0 hp l hl _ _ 0 rfl (by omega) (by simp) fun j => ?_
  rw [if_neg (by omega)]
  have := congrFun (cf_replicate (l.length : Int).toNat) j
  exact this

theorem zip_Add_l0 {p : Int} {G : Int → Int → Int} (hG : ∀ x y, modular_Add_1.f x y p = some (G x y)) (f g : List Int) (hf : f.length ≤ 1073741824) (hg : g.length ≤ 1073741824) (m : Nat) (hm : m = max f.length g.length) : ∀ (d : Nat) (out : List Int) (i : Nat), m - i = d → i ≤ m → out.length = m →
    (∀ j, cf out j = if j < i then G (cf f j) (cf g j) else 0) → ∃ r, Ev (fun k => modular_zip_int_Add_1.l0 k f g p out (m : Int) (i : Int)) r ∧ r.length = m ∧ ∀ j, cf r j = if j < m then G (cf f j) (cf g j) else 0 := by
  intro d
  induction d with
  | zero =>
    intro out i hd hi ho hc
    refine ⟨out, Ev.step (f := fun _ => some out) (fun k => ?_) (Ev.now _), ho, fun j => ?_⟩
    · rw [modular_zip_int_Add_1.l0, if_neg (by omega)]
    · rw [hc, show i = m by omega]
  | succ d ih =>
    intro out i hd hi ho hc
    obtain ⟨r, h1, h2, h3⟩ := ih (out.set i (G (cf f i) (cf g i))) (i + 1) (by omega) (by omega) (by simpa using ho) fun j => by
      rw [cf_set, hc]
      by_cases h1 : j = i
      · subst h1; rw [if_pos ⟨rfl, by omega⟩, if_pos (by omega)]
      · rw [if_neg (fun h => h1 h.1)]
        by_cases h2 : j < i
        · rw [if_pos h2, if_pos (by omega)]
        · rw [if_neg h2, if_neg (by omega)]
    refine ⟨r, Ev.step (f := fun k => modular_zip_int_Add_1.l0 k f g p (out.set i (G (cf f i) (cf g i))) (m : Int) ((i + 1 : Nat) : Int)) (fun k => ?_) h1, h2, h3⟩
    rw [modular_zip_int_Add_1.l0, if_pos (by omega)]
    have hw := wsucc (i := i) (by omega)
    by_cases hif : i < f.length
    · rw [if_pos (by omega), if_pos (by omega)]
      by_cases hig : i < g.length
      · rw [if_pos (by omega), rd_cf, rd_cf, hG, Option.bind_some, if_pos (by omega), hw]; rfl
      · rw [if_neg (by omega), rd_cf, hG, Option.bind_some, if_pos (by omega), hw, cf_big (l := g) (n := i) (by omega)]; rfl
    · rw [if_neg (by omega)]
      by_cases hig : i < g.length
      · rw [if_pos (by omega), if_pos (by omega), rd_cf, hG, Option.bind_some, if_pos (by omega), hw, cf_big (l := f) (n := i) (by omega)]; rfl
      · omega

theorem zip_Add_f {p : Int} {G : Int → Int → Int} (hG : ∀ x y, modular_Add_1.f x y p = some (G x y)) (f g : List Int) (hf : f.length ≤ 1073741824) (hg : g.length ≤ 1073741824) :
    ∃ r, Ev (fun k => modular_zip_int_Add_1.f k f g p) r ∧ r.length = max f.length g.length ∧ ∀ j, cf r j = if j < max f.length g.length then G (cf f j) (cf g j) else 0 := by
  have hmx : mx (f.length : Int) (g.length : Int) = ((max f.length g.length : Nat) : Int) := by unfold mx; omega
  obtain ⟨r, h1, h2⟩ := zip_Add_l0 hG f g hf hg (max f.length g.length) rfl _ (List.replicate (max f.length g.length) 0) 0 rfl (by omega) (by simp) fun j => by
    rw [if_neg (by omega)]; exact congrFun (cf_replicate _) j
  refine ⟨r, ?_, h2⟩
  unfold modular_zip_int_Add_1.f
  rw [hmx]
  refine ev_pos (by omega) (ev_pos (by omega) (ev_some rfl ?_))
  rw [Int.toNat_natCast, List.length_replicate]
  exact h1

theorem zip_sub_l0 {p : Int} {G : Int → Int → Int} (hG : ∀ x y, modular_sub_1.f x y p = some (G x y)) (f g : List Int) (hf : f.length ≤ 1073741824) (hg : g.length ≤ 1073741824) (m : Nat) (hm : m = max f.length g.length) : ∀ (d : Nat) (out : List Int) (i : Nat), m - i = d → i ≤ m → out.length = m →
    (∀ j, cf out j = if j < i then G (cf f j) (cf g j) else 0) → ∃ r, Ev (fun k => modular_zip_int_sub_1.l0 k f g p out (m : Int) (i : Int)) r ∧ r.length = m ∧ ∀ j, cf r j = if j < m then G (cf f j) (cf g j) else 0 := by
  intro d
  induction d with
  | zero =>
    intro out i hd hi ho hc
    refine ⟨out, Ev.step (f := fun _ => some out) (fun k => ?_) (Ev.now _), ho, fun j => ?_⟩
    · rw [modular_zip_int_sub_1.l0, if_neg (by omega)]
    · rw [hc, show i = m by omega]
  | succ d ih =>
    intro out i hd hi ho hc
    obtain ⟨r, h1, h2, h3⟩ := ih (out.set i (G (cf f i) (cf g i))) (i + 1) (by omega) (by omega) (by simpa using ho) fun j => by
      rw [cf_set, hc]
      by_cases h1 : j = i
      · subst h1; rw [if_pos ⟨rfl, by omega⟩, if_pos (by omega)]
      · rw [if_neg (fun h => h1 h.1)]
        by_cases h2 : j < i
        · rw [if_pos h2, if_pos (by omega)]
        · rw [if_neg h2, if_neg (by omega)]
    refine ⟨r, Ev.step (f := fun k => modular_zip_int_sub_1.l0 k f g p (out.set i (G (cf f i) (cf g i))) (m : Int) ((i + 1 : Nat) : Int)) (fun k => ?_) h1, h2, h3⟩
    rw [modular_zip_int_sub_1.l0, if_pos (by omega)]
    have hw := wsucc (i := i) (by omega)
    by_cases hif : i < f.length
    · rw [if_pos (by omega), if_pos (by omega)]
      by_cases hig : i < g.length
      · rw [if_pos (by omega), rd_cf, rd_cf, hG, Option.bind_some, if_pos (by omega), hw]; rfl
      · rw [if_neg (by omega), rd_cf, hG, Option.bind_some, if_pos (by omega), hw, cf_big (l := g) (n := i) (by omega)]; rfl
    · rw [if_neg (by omega)]
      by_cases hig : i < g.length
      · rw [if_pos (by omega), if_pos (by omega), rd_cf, hG, Option.bind_some, if_pos (by omega), hw, cf_big (l := f) (n := i) (by omega)]; rfl
      · omega

theorem zip_sub_f {p : Int} {G : Int → Int → Int} (hG : ∀ x y, modular_sub_1.f x y p = some (G x y)) (f g : List Int) (hf : f.length ≤ 1073741824) (hg : g.length ≤ 1073741824) :
    ∃ r, Ev (fun k => modular_zip_int_sub_1.f k f g p) r ∧ r.length = max f.length g.length ∧ ∀ j, cf r j = if j < max f.length g.length then G (cf f j) (cf g j) else 0 := by
  have hmx : mx (f.length : Int) (g.length : Int) = ((max f.length g.length : Nat) : Int) := by unfold mx; omega
  obtain ⟨r, h1, h2⟩ := zip_sub_l0 hG f g hf hg (max f.length g.length) rfl _ (List.replicate (max f.length g.length) 0) 0 rfl (by omega) (by simp) fun j => by
    rw [if_neg (by omega)]; exact congrFun (cf_replicate _) j
  refine ⟨r, ?_, h2⟩
  unfold modular_zip_int_sub_1.f
  rw [hmx]
  refine ev_pos (by omega) (ev_pos (by omega) (ev_some rfl ?_))
  rw [Int.toNat_natCast, List.length_replicate]
  exact h1

theorem zip_scale_l0 {p c : Int} {G : Int → Int → Int} (hG : ∀ x y, modular_scale_1.f x y p c = some (G x y)) (f g : List Int) (hf : f.length ≤ 1073741824) (hg : g.length ≤ 1073741824) (m : Nat) (hm : m = max f.length g.length) : ∀ (d : Nat) (out : List Int) (i : Nat), m - i = d → i ≤ m → out.length = m →
    (∀ j, cf out j = if j < i then G (cf f j) (cf g j) else 0) → ∃ r, Ev (fun k => modular_zip_int_scale_1.l0 k f g p c out (m : Int) (i : Int)) r ∧ r.length = m ∧ ∀ j, cf r j = if j < m then G (cf f j) (cf g j) else 0 := by
  intro d
  induction d with
  | zero =>
    intro out i hd hi ho hc
    refine ⟨out, Ev.step (f := fun _ => some out) (fun k => ?_) (Ev.now _), ho, fun j => ?_⟩
    · rw [modular_zip_int_scale_1.l0, if_neg (by omega)]
    · rw [hc, show i = m by omega]
  | succ d ih =>
    intro out i hd hi ho hc
    obtain ⟨r, h1, h2, h3⟩ := ih (out.set i (G (cf f i) (cf g i))) (i + 1) (by omega) (by omega) (by simpa using ho) fun j => by
      rw [cf_set, hc]
      by_cases h1 : j = i
      · subst h1; rw [if_pos ⟨rfl, by omega⟩, if_pos (by omega)]
      · rw [if_neg (fun h => h1 h.1)]
        by_cases h2 : j < i
        · rw [if_pos h2, if_pos (by omega)]
        · rw [if_neg h2, if_neg (by omega)]
    refine ⟨r, Ev.step (f := fun k => modular_zip_int_scale_1.l0 k f g p c (out.set i (G (cf f i) (cf g i))) (m : Int) ((i + 1 : Nat) : Int)) (fun k => ?_) h1, h2, h3⟩
    rw [modular_zip_int_scale_1.l0, if_pos (by omega)]
    have hw := wsucc (i := i) (by omega)
    by_cases hif : i < f.length
    · rw [if_pos (by omega), if_pos (by omega)]
      by_cases hig : i < g.length
      · rw [if_pos (by omega), rd_cf, rd_cf, hG, Option.bind_some, if_pos (by omega), hw]; rfl
      · rw [if_neg (by omega), rd_cf, hG, Option.bind_some, if_pos (by omega), hw, cf_big (l := g) (n := i) (by omega)]; rfl
    · rw [if_neg (by omega)]
      by_cases hig : i < g.length
      · rw [if_pos (by omega), if_pos (by omega), rd_cf, hG, Option.bind_some, if_pos (by omega), hw, cf_big (l := f) (n := i) (by omega)]; rfl
      · omega

theorem zip_scale_f {p c : Int} {G : Int → Int → Int} (hG : ∀ x y, modular_scale_1.f x y p c = some (G x y)) (f g : List Int) (hf : f.length ≤ 1073741824) (hg : g.length ≤ 1073741824) :
    ∃ r, Ev (fun k => modular_zip_int_scale_1.f k f g p c) r ∧ r.length = max f.length g.length ∧ ∀ j, cf r j = if j < max f.length g.length then G (cf f j) (cf g j) else 0 := by
  have hmx : mx (f.length : Int) (g.length : Int) = ((max f.length g.length : Nat) : Int) := by unfold mx; omega
  obtain ⟨r, h1, h2⟩ := zip_scale_l0 hG f g hf hg (max f.length g.length) rfl _ (List.replicate (max f.length g.length) 0) 0 rfl (by omega) (by simp) fun j => by
    rw [if_neg (by omega)]; exact congrFun (cf_replicate _) j
  refine ⟨r, ?_, h2⟩
  unfold modular_zip_int_scale_1.f
  rw [hmx]
  refine ev_pos (by omega) (ev_pos (by omega) (ev_some rfl ?_))
  rw [Int.toNat_natCast, List.length_replicate]
  exact h1

theorem add1_f {p : Int} (hp : Pr p) (x y : Int) : modular_Add_1.f x y p = some ((x % p + y % p) % p) := by
  have h1 := md hp x; have h2 := md hp y; have := hp.2; have := hp.pos
  unfold modular_Add_1.f
  rw [rest_f hp.pos hp.2, rest_f hp.pos hp.2, Option.bind_some, Option.bind_some, if_neg (by omega), w64 (by omega) (by omega), md_nn (by omega)]
theorem sub1_f {p : Int} (hp : Pr p) (x y : Int) : modular_sub_1.f x y p = some ((x % p - y % p) % p) := by
  have h1 := md hp x; have h2 := md hp y; have := hp.2; have := hp.pos
  unfold modular_sub_1.f
  rw [rest_f hp.pos hp.2, rest_f hp.pos hp.2, Option.bind_some, Option.bind_some, w64 (by omega) (by omega), rest_f hp.pos hp.2]; rfl
theorem scale1_f {p c : Int} (hp : Pr p) (hc : 0 ≤ c ∧ c < p) (x y : Int) : modular_scale_1.f x y p c = some ((x % p * c) % p) := by
  have h1 := md hp x; have := hp.pos
  unfold modular_scale_1.f
  rw [rest_f hp.pos hp.2, Option.bind_some, if_neg (by omega), wmul hp h1 hc, md_nn (Int.mul_nonneg h1.1 hc.1)]

theorem wadd {p a b c : Int} (hp : Pr p) (ha : 0 ≤ a ∧ a < p) (hb : 0 ≤ b ∧ b < p) (hc : 0 ≤ c ∧ c < p) : wrap64 (c + wrap64 (a * b)) = c + a * b ∧ 0 ≤ c + a * b := by
  rw [wmul hp ha hb]
  have h1 : a * b ≤ 2147483648 * 2147483648 := Int.mul_le_mul (by have := hp.2; omega) (by have := hp.2; omega) hb.1 (by omega)
  have h2 : 0 ≤ a * b := Int.mul_nonneg ha.1 hb.1
  have := hp.2
  exact ⟨w64 (by omega) (by omega), by omega⟩
theorem wsub {p a b c : Int} (hp : Pr p) (ha : 0 ≤ a ∧ a < p) (hb : 0 ≤ b ∧ b < p) (hc : 0 ≤ c ∧ c < p) : wrap64 (c - (wrap64 (a * b)).tmod p) = c - a * b % p := by
  rw [wmul hp ha hb, md_nn (Int.mul_nonneg ha.1 hb.1)]
  have h1 := md hp (a * b)
  have := hp.2
  exact w64 (by omega) (by omega)
theorem wplus {i j : Nat} (h : i + j ≤ 4611686018427387904) : wrap64 ((i : Int) + (j : Int)) = ((i + j : Nat) : Int) := by rw [w64 (by omega) (by omega)]; omega
theorem wix1 {q i k : Nat} (h : k + 1 + i = q) (hq : q ≤ 4611686018427387904) : wrap64 (wrap64 ((q : Int) - 1) - (i : Int)) = (k : Int) := by
  rw [w64 (x := (q : Int) - 1) (by omega) (by omega), w64 (by omega) (by omega)]; omega
theorem wix2 {k n : Nat} (hn : 0 < n) (h : k + n ≤ 4611686018427387904) : wrap64 (wrap64 ((k : Int) + (n : Int)) - 1) = ((k + (n - 1) : Nat) : Int) := by
  rw [w64 (x := (k : Int) + (n : Int)) (by omega) (by omega), w64 (by omega) (by omega)]; omega
theorem wmx {a b : Nat} (ha : a ≤ 1073741824) (hb : b ≤ 1073741824) : mx 0 (wrap64 (wrap64 ((a : Int) - (b : Int)) + 1)) = ((a + 1 - b : Nat) : Int) := by
  rw [w64 (x := (a : Int) - (b : Int)) (by omega) (by omega), w64 (by omega) (by omega)]; unfold mx; omega
theorem wpred {n : Nat} (h0 : 0 < n) (h : n ≤ 4611686018427387904) : wrap64 ((n : Int) - 1) = ((n - 1 : Nat) : Int) := by rw [w64 (by omega) (by omega)]; omega


end Go.Proofs.Ytgfefcopaeelnaa.Alg
