/- Derivatives and values of lists by a prime: what the program's and the document's printed functions come to. -/
import Derived.Test.YtgfefcopaeelnaaTop1
import Derived.Test.YtgfefcopaeelnaaMx24
import Derived.Test.YtgfefcopaeelnaaMx12
namespace Go.Proofs.Ytgfefcopaeelnaa.Alg
open Go.RowKit Go.Proofs.YtgfefcopaeelnaaW.PrintWords Go.Proofs.YtgfefcopaeelnaaW.PrintMore Go.Proofs.Ytgfefcopaeelnaa.M Sq
set_option linter.unusedVariables false
set_option linter.unusedSimpArgs false

/-- The derivative. -/
def dv (a : Sq) : Sq := fun n => ((n : Int) + 1) * a (n + 1)
theorem dv_at (a : Sq) (n : Nat) : dv a n = ((n : Int) + 1) * a (n + 1) := rfl
theorem dv_cq {p : Int} {a b : Sq} (h : Cq p a b) : Cq p (dv a) (dv b) := fun n => (Cg.refl p _).mul (h (n + 1))

theorem progDeriv_l0 {p : Int} (hp : Pr p) (f : List Int) (hf : f.length ≤ 1073741824) (hf0 : 0 < f.length) : ∀ (d : Nat) (out : List Int) (i : Nat), f.length - 1 - i = d → i + 1 ≤ f.length → out.length = f.length - 1 → Rs p out →
    (∀ j, j < i → Cg p (cf out j) (dv (cf f) j)) → Is (fun k => modular_Deriv.l0 k f p out ((f.length - 1 : Nat) : Int) (i : Int)) p (dv (cf f)) := by
  intro d
  induction d with
  | zero =>
    intro out i hd hi ho hr hc
    refine Is.step (f := fun k => (modular_trim.f k out).bind fun t => some t) (fun k => ?_) (Is.bind (trim_is (p := p) (s := dv (cf f)) (by omega) hr fun j => ?_) (fun r h1 h2 => Is.now h1 h2))
    · rw [modular_Deriv.l0, if_neg (by omega)]
    · by_cases hj : j < i
      · exact hc j hj
      · rw [cf_big (l := out) (by omega), dv_at, cf_big (l := f) (by omega)]; exact .of_eq (by omega)
  | succ d ih =>
    intro out i hd hi ho hr hc
    refine Is.step (f := fun k => modular_Deriv.l0 k f p (out.set i ((cf f (i + 1) % p * (((i + 1 : Nat) : Int) % p)) % p)) ((f.length - 1 : Nat) : Int) ((i + 1 : Nat) : Int)) (fun k => ?_)
      (ih _ (i + 1) (by omega) (by omega) (by simpa using ho) (hr.set (md hp _)) fun j hj => ?_)
    · rw [modular_Deriv.l0, if_pos (by omega), wsucc (by omega), if_pos (by omega), if_pos (by omega), rd_cf, rest_f hp.pos hp.2, Option.bind_some, rest_f hp.pos hp.2, Option.bind_some, if_neg (by have := hp.pos; omega), if_pos (by omega), if_pos (by omega),
        wmul hp (md hp _) (md hp _), md_nn (Int.mul_nonneg (md hp _).1 (md hp _).1)]; rfl
    · rw [cf_set]
      by_cases h1 : j = i
      · subst h1
        rw [if_pos ⟨rfl, by omega⟩, dv_at]
        refine (Cg.mod p _).trans (((Cg.mod p _).mul (Cg.mod p _)).trans (.of_eq ?_))
        push_cast; rw [Int.mul_comm]
      · rw [if_neg (fun h => h1 h.1)]; exact hc j (by omega)

theorem progDeriv_is {p : Int} (hp : Pr p) (f : List Int) (hf : f.length ≤ 1073741824) : Is (fun k => modular_Deriv.f k f p) p (dv (cf f)) := by
  unfold modular_Deriv.f
  refine Is.evb (progIs p) (Is.pos (isB_true hp) ?_)
  by_cases h0 : f.length = 0
  · refine Is.step (f := fun _ => some []) (fun k => ?_) (Is.now (.nil p) fun j => ?_)
    · rw [modular_Deriv.j0, if_pos (beq_iff_eq.2 (by omega))]
    · rw [congrFun cf_nil j, dv_at, cf_big (l := f) (by omega)]; exact .of_eq (by simp)
  · refine Is.step (f := fun k => (some (List.replicate (f.length - 1) 0 : List Int)).bind fun y => modular_Deriv.l0 k f p y (y.length : Int) 0) (fun k => ?_) (Is.some_ rfl ?_)
    · rw [modular_Deriv.j0, if_neg (by rw [beq_iff_eq]; omega), wpred (by omega) (by omega), if_pos (by omega), if_pos (by omega), Int.toNat_natCast]
    · rw [List.length_replicate]
      exact progDeriv_l0 hp f hf (by omega) _ _ 0 rfl (by omega) (by simp) (.rep hp.pos _) fun j hj => by omega
theorem progDeriv_no {p : Int} (hp : ¬ Pr p) (f : List Int) : Ev (fun k => modular_Deriv.f k f p) [] := by
  unfold modular_Deriv.f
  refine Ev.bind (progIs p) (ev_neg (by rw [isB_false hp]; decide) (Ev.step (f := fun _ => some []) (fun k => ?_) (Ev.now _)))
  rw [modular_Deriv.j0, if_pos rfl]

theorem dv_lt {p : Int} {a : Sq} {n : Nat} (h : Lt p a n) : Lt p (dv a) n := fun i hi => by
  have := (Cg.refl p ((i : Int) + 1)).mul (h (i + 1) (by omega)); rw [Int.mul_zero] at this; exact this

/-! ### values -/

/-- The value at x of the first n coefficients. -/
def ev : Nat → Sq → Int → Int
  | 0, _, _ => 0
  | n + 1, a, x => a 0 + x * ev n (sh a) x
/-- From place j on. -/
def shn (j : Nat) (a : Sq) : Sq := fun n => a (n + j)
theorem shn_at (j : Nat) (a : Sq) (n : Nat) : shn j a n = a (n + j) := rfl
theorem shn_zero (a : Sq) : shn 0 a = a := rfl
theorem sh_shn (j : Nat) (a : Sq) : sh (shn j a) = shn (j + 1) a := by ext n; rw [sh_at, shn_at, shn_at]; congr 1; omega
theorem ev_cq {p : Int} {a b : Sq} (h : Cq p a b) {x y : Int} (hx : Cg p x y) : ∀ n, Cg p (ev n a x) (ev n b y) := by
  intro n
  induction n generalizing a b with
  | zero => exact .refl _ _
  | succ n ih => exact (h 0).add (hx.mul (ih h.sh))
theorem ev_zero (n : Nat) (x : Int) : ev n 0 x = 0 := by
  induction n with
  | zero => rfl
  | succ n ih => rw [ev, sh_zero, ih]; simp
theorem ev_more {p : Int} {a : Sq} {n : Nat} (h : Lt p a n) (x : Int) : ∀ m, n ≤ m → Cg p (ev m a x) (ev n a x) := by
  intro m
  induction n generalizing a m with
  | zero =>
    intro hm
    have := ev_cq h.zero_cq (Cg.refl p x) m
    rw [ev_zero] at this; exact this
  | succ n ih =>
    intro hm
    obtain ⟨m, rfl⟩ : ∃ k, m = k + 1 := ⟨m - 1, by omega⟩
    exact (Cg.refl p _).add ((Cg.refl p x).mul (ih (a := sh a) (fun i hi => h (i + 1) (by omega)) m (by omega)))
theorem ev_add (n : Nat) (a b : Sq) (x : Int) : ev n (a + b) x = ev n a x + ev n b x := by
  induction n generalizing a b with
  | zero => rfl
  | succ n ih => rw [ev, sh_add, ih, ev, ev, Sq.add_at]; grind
theorem ev_sm (n : Nat) (c : Int) (a : Sq) (x : Int) : ev n (sm c a) x = c * ev n a x := by
  induction n generalizing a with
  | zero => simp [ev]
  | succ n ih => rw [ev, sh_sm, ih, ev, sm_at]; grind
theorem ev_x (n : Nat) (a : Sq) (x : Int) : ev (n + 1) (Sq.x a) x = x * ev n a x := by rw [ev, sh_x, x_zero, Int.zero_add]
theorem ev_mul {p : Int} {a b : Sq} {m n : Nat} (ha : Lt p a m) (hb : Lt p b n) (x : Int) : Cg p (ev (m + n) (a * b) x) (ev m a x * ev n b x) := by
  induction m generalizing a with
  | zero =>
    have h0 : Cq p (a * b) 0 := by have := ha.zero_cq.mul_right b; rwa [zero_mul] at this
    have := ev_cq h0 (Cg.refl p x) (0 + n)
    rw [ev_zero] at this
    exact this.trans (.of_eq (by simp [ev]))
  | succ m ih =>
    rw [mul_head, show m + 1 + n = (m + n) + 1 by omega, ev_add, ev_sm, ev_x]
    have h1 := ih (a := sh a) (fun i hi => ha (i + 1) (by omega))
    have h2 := ev_more hb x (m + n + 1) (by omega)
    refine (((Cg.refl p (a 0)).mul h2).add ((Cg.refl p x).mul h1)).trans (.of_eq ?_)
    rw [ev]; grind

theorem wev {p a b c : Int} (hp : Pr p) (ha : 0 ≤ a ∧ a < p) (hb : 0 ≤ b ∧ b < p) (hc : 0 ≤ c ∧ c < p) : wrap64 (wrap64 (a * b) + c) = a * b + c ∧ 0 ≤ a * b + c := by
  rw [wmul hp ha hb]
  have h1 : a * b ≤ 2147483648 * 2147483648 := Int.mul_le_mul (by have := hp.2; omega) (by have := hp.2; omega) hb.1 (by omega)
  have h2 : 0 ≤ a * b := Int.mul_nonneg ha.1 hb.1
  have := hp.2
  exact ⟨w64 (by omega) (by omega), by omega⟩

theorem progEval_l0 {p : Int} (hp : Pr p) (f : List Int) (x : Int) (hx : 0 ≤ x ∧ x < p) (hf : f.length ≤ 1073741824) : ∀ (d : Nat) (out : Int) (i : Nat), f.length - i = d → i ≤ f.length → (0 ≤ out ∧ out < p) → Cg p out (ev i (shn (f.length - i) (cf f)) x) →
    ∃ v, Ev (fun k => modular_Eval.l0 k f x p out (f.length : Int) (i : Int)) v ∧ (0 ≤ v ∧ v < p) ∧ Cg p v (ev f.length (cf f) x) := by
  intro d
  induction d with
  | zero =>
    intro out i hd hi ho hc
    have he : i = f.length := by omega
    rw [he, Nat.sub_self, shn_zero] at hc
    refine ⟨out, Ev.step (f := fun _ => some out) (fun k => ?_) (Ev.now _), ho, hc⟩
    rw [modular_Eval.l0, if_neg (by omega)]
  | succ d ih =>
    intro out i hd hi ho hc
    have hm := md hp (cf f (f.length - (i + 1)))
    obtain ⟨v, h1, h2, h3⟩ := ih ((out * x + cf f (f.length - (i + 1)) % p) % p) (i + 1) (by omega) (by omega) (md hp _) (by
      refine (Cg.mod p _).trans (((hc.mul (Cg.refl p x)).add (Cg.mod p _)).trans (.of_eq ?_))
      rw [ev, sh_shn, shn_at, show f.length - (i + 1) + 1 = f.length - i by omega, Nat.zero_add]; grind)
    refine ⟨v, Ev.step (f := fun k => modular_Eval.l0 k f x p ((out * x + cf f (f.length - (i + 1)) % p) % p) (f.length : Int) ((i + 1 : Nat) : Int)) (fun k => ?_) h1, h2, h3⟩
    rw [modular_Eval.l0, if_pos (by omega), wix1 (q := f.length) (i := i) (k := f.length - (i + 1)) (by omega) (by omega), if_pos (by omega), if_pos (by omega), rd_cf, rest_f hp.pos hp.2, Option.bind_some, if_neg (by have := hp.pos; omega),
      (wev hp ho hx hm).1, md_nn (wev hp ho hx hm).2, wsucc (by omega)]

theorem progEval {p : Int} (hp : Pr p) (f : List Int) (x : Int) (hf : f.length ≤ 1073741824) : ∃ v, Ev (fun k => modular_Eval.f k f x p) v ∧ (0 ≤ v ∧ v < p) ∧ Cg p v (ev f.length (cf f) x) := by
  obtain ⟨v, h1, h2, h3⟩ := progEval_l0 hp f (x % p) (md hp x) hf _ 0 0 rfl (by omega) ⟨by omega, hp.pos⟩ (.refl _ _)
  refine ⟨v, ?_, h2, h3.trans (ev_cq (.refl _ _) (Cg.mod p x) _)⟩
  unfold modular_Eval.f
  exact Ev.bind (progIs p) (ev_pos (isB_true hp) (ev_some (rest_f hp.pos hp.2) h1))
theorem progEval_no {p : Int} (hp : ¬ Pr p) (f : List Int) (x : Int) : Ev (fun k => modular_Eval.f k f x p) 0 := by
  unfold modular_Eval.f
  exact Ev.bind (progIs p) (ev_neg (by rw [isB_false hp]; decide) (Ev.now _))

end Go.Proofs.Ytgfefcopaeelnaa.Alg
