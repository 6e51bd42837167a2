/- What the printed product of lists by a prime comes to. -/
import Derived.Test.YtgfefcopaeelnaaMod2
import Derived.Test.YtgfefcopaeelnaaMx9
namespace Go.Proofs.Ytgfefcopaeelnaa.Alg
open Go.RowKit Go.Proofs.YtgfefcopaeelnaaW.PrintWords Go.Proofs.YtgfefcopaeelnaaW.PrintMore Go.Proofs.Ytgfefcopaeelnaa.M Sq
set_option linter.unusedVariables false
set_option linter.unusedSimpArgs false
/-! ### products -/

theorem mul_l1 {p : Int} (hp : Pr p) (f g : List Int) (hf : f.length ≤ 1073741824) (hg : g.length ≤ 1073741824) (hF : Rs p f) (hG : Rs p g) (i : Nat) (hi : i < f.length) (L : Nat) (hL : L + 1 = f.length + g.length) (hg0 : 0 < g.length)
    (h : ∀ out', out'.length = L → Rs p out' → Cq p (cf out') (cf (f.take (i + 1)) * cf g) → Is (fun k => modular_mul.l0 k g p out' f (f.length : Int) ((i + 1 : Nat) : Int)) p (cf f * cf g)) :
    ∀ (d : Nat) (out : List Int) (j : Nat), g.length - j = d → j ≤ g.length → out.length = L → Rs p out → Cq p (cf out) (cf (f.take i) * cf g + xn i (sm (cf f i) (cf (g.take j)))) →
    Is (fun k => modular_mul.l1 k g p out (i : Int) (cf f i) f (f.length : Int) (i : Int) g (g.length : Int) (j : Int)) p (cf f * cf g) := by
  intro d
  induction d with
  | zero =>
    intro out j hd hj ho hr hc
    refine Is.step (f := fun k => modular_mul.l0 k g p out f (f.length : Int) ((i + 1 : Nat) : Int)) (fun k => ?_) (h out ho hr (hc.trans (.of_eq ?_)))
    · rw [modular_mul.l1, if_neg (by omega), wsucc (by omega)]
    · rw [show j = g.length by omega, cf_take_all, cf_take_succ, add_mul, xn_mul, sm_mul, one_mul]
  | succ d ih =>
    intro out j hd hj ho hr hc
    have hfi := hF.at hp.pos i; have hgj := hG.at hp.pos j; have hoi := hr.at hp.pos (i + j)
    refine Is.step (f := fun k => modular_mul.l1 k g p (out.set (i + j) ((cf out (i + j) + cf f i * cf g j) % p)) (i : Int) (cf f i) f (f.length : Int) (i : Int) g (g.length : Int) ((j + 1 : Nat) : Int)) (fun k => ?_)
      (ih _ (j + 1) (by omega) (by omega) (by simpa using ho) (hr.set (md hp _)) fun n => ?_)
    · rw [modular_mul.l1, if_pos (by omega), if_pos (by omega), if_pos (by omega), wplus (by omega), if_pos (by omega), if_pos (by omega), if_neg (by have := hp.pos; omega), rd_cf, rd_cf, (wadd hp hfi hgj hoi).1, md_nn (wadd hp hfi hgj hoi).2, wsucc (by omega)]; rfl
    · rw [cf_set, Sq.add_at, xn_at, sm_at, cf_take_succ g j, Sq.add_at, xn_at]
      have hcn := hc n
      rw [Sq.add_at, xn_at, sm_at] at hcn
      by_cases hn : n = i + j
      · subst hn
        rw [if_pos ⟨rfl, by omega⟩]
        refine (Cg.mod p _).trans ?_
        rw [if_neg (by omega)] at hcn ⊢
        rw [show i + j - i = j by omega] at hcn ⊢
        rw [if_neg (by omega), Nat.sub_self, sm_at, one_at, if_pos rfl, Int.mul_one, Int.mul_add]
        have := hcn.add (Cg.refl p (cf f i * cf g j))
        exact this.trans (.of_eq (by omega))
      · rw [if_neg (fun h => hn h.1)]
        refine hcn.trans (.of_eq ?_)
        by_cases hni : n < i
        · rw [if_pos hni, if_pos hni]
        · rw [if_neg hni, if_neg hni]
          have hz : (if n - i < j then (0 : Int) else sm (cf g j) 1 (n - i - j)) = 0 := by
            split
            · rfl
            · rw [sm_at, one_at, if_neg (by omega), Int.mul_zero]
          rw [hz]; simp

theorem mul_l0 {p : Int} (hp : Pr p) (f g : List Int) (hf : f.length ≤ 1073741824) (hg : g.length ≤ 1073741824) (hF : Rs p f) (hG : Rs p g) (L : Nat) (hL : L + 1 = f.length + g.length) (hg0 : 0 < g.length) :
    ∀ (d : Nat) (out : List Int) (i : Nat), f.length - i = d → i ≤ f.length → out.length = L → Rs p out → Cq p (cf out) (cf (f.take i) * cf g) →
    Is (fun k => modular_mul.l0 k g p out f (f.length : Int) (i : Int)) p (cf f * cf g) := by
  intro d
  induction d with
  | zero =>
    intro out i hd hi ho hr hc
    refine Is.step (f := fun k => (modular_trim.f k out).bind fun t => some t) (fun k => ?_) (Is.bind (trim_is (p := p) (s := cf f * cf g) (by omega) hr ?_) (fun r h1 h2 => Is.now h1 h2))
    · rw [modular_mul.l0, if_neg (by omega)]
    · rw [show i = f.length by omega, cf_take_all] at hc; exact hc
  | succ d ih =>
    intro out i hd hi ho hr hc
    refine Is.step (f := fun k => modular_mul.l1 k g p out (i : Int) (cf f i) f (f.length : Int) (i : Int) g (g.length : Int) ((0 : Nat) : Int)) (fun k => ?_)
      (mul_l1 hp f g hf hg hF hG i (by omega) L hL hg0 (fun out' h1 h2 h3 => ih out' (i + 1) (by omega) (by omega) h1 h2 h3) _ out 0 rfl (by omega) ho hr (hc.trans (.of_eq ?_)))
    · rw [modular_mul.l0, if_pos (by omega), if_pos (by omega), if_pos (by omega), rd_cf]; rfl
    · ext n; rw [Sq.add_at, xn_at, sm_at, cf_take_at]; simp

theorem mul_is {p : Int} (hp : Pr p) (f g : List Int) (hf : f.length ≤ 1073741824) (hg : g.length ≤ 1073741824) (hF : Rs p f) (hG : Rs p g) : Is (fun k => modular_mul.f k f g p) p (cf f * cf g) := by
  unfold modular_mul.f
  by_cases h1 : f.length = 0
  · refine Is.pos (by omega) (Is.step (f := fun _ => some []) (fun k => ?_) (Is.now (.nil p) ?_))
    · rw [modular_mul.j0, if_pos rfl]
    · rw [List.length_eq_zero_iff.1 h1, cf_nil, zero_mul]; exact .refl _ _
  · refine Is.neg (by omega) ?_
    by_cases h2 : g.length = 0
    · refine Is.step (f := fun _ => some []) (fun k => ?_) (Is.now (.nil p) ?_)
      · rw [modular_mul.j0, if_pos (beq_iff_eq.2 (by omega))]
      · rw [List.length_eq_zero_iff.1 h2, cf_nil, mul_zero]; exact .refl _ _
    · refine Is.step (f := fun k => modular_mul.l0 k g p (List.replicate (f.length + (g.length - 1)) 0) f (f.length : Int) ((0 : Nat) : Int)) (fun k => ?_)
        (mul_l0 hp f g hf hg hF hG (f.length + (g.length - 1)) (by omega) (by omega) _ _ 0 rfl (by omega) (by simp) (.rep hp.pos _) ?_)
      · rw [modular_mul.j0, if_neg (by rw [beq_iff_eq]; omega), wix2 (by omega) (by omega), if_pos (by omega), if_pos (by omega), Int.toNat_natCast]; rfl
      · rw [cf_replicate, List.take_zero, cf_nil, zero_mul]; exact .refl _ _


end Go.Proofs.Ytgfefcopaeelnaa.Alg
