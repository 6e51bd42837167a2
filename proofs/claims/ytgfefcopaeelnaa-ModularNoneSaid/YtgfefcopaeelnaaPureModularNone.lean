/- ModularNone: for every pair of lists and every pair of numbers, by what is no prime nothing is answered, or it is refused. Conditions: none but those of the statement. -/
import Derived.Test.YtgfefcopaeelnaaGcd
import Derived.Test.YtgfefcopaeelnaaEvl
import Derived.Test.YtgfefcopaeelnaaPow
import Derived.Test.YtgfefcopaeelnaaMx40
namespace Go.Proofs.Ytgfefcopaeelnaa.Pure
open Go.RowKit Go.Proofs.Ytgfefcopaeelnaa.M Go.Proofs.YtgfefcopaeelnaaW.PrintWords Go.Proofs.YtgfefcopaeelnaaW.PrintLast Go.Proofs.Ytgfefcopaeelnaa.Alg
set_option linter.unusedVariables false

theorem progMul_no {p : Int} (hp : ¬ Pr p) (f g : List Int) : Ev (fun k => modular_Mul.f k f g p) [] := by
  unfold modular_Mul.f
  exact Ev.bind (progIs p) (ev_neg (by rw [isB_false hp]; decide) (Ev.now _))

theorem ModularNone : primroselaw10_ModularNone.Pure := by
  intro f g n p _ _ _ _ _ _ _ _
  refine Ev.rounds (g := fun k => primroselaw10_ModularNone.f k f g n p) ?_
  have hj : Ev (fun k => primroselaw10_ModularNone.j0 k f g n p true true) true :=
    Ev.step (f := fun k => some true) (fun k => by rw [primroselaw10_ModularNone.j0, if_pos rfl]) (Ev.now _)
  unfold primroselaw10_ModularNone.f
  refine Ev.bind awake (ev_pos rfl (Ev.bind (refIs p) ?_))
  by_cases hp : Pr p
  · exact ev_pos (isB_true hp) hj
  refine ev_neg (by rw [isB_false hp]; decide) ?_
  by_cases h1 : (f.length : Int) > 12
  · exact ev_pos h1 hj
  refine ev_neg h1 ?_
  by_cases h2 : (g.length : Int) > 12
  · rw [decide_eq_true h2]; exact hj
  rw [decide_eq_false h2]
  refine Ev.step (fun k => by rw [primroselaw10_ModularNone.j0, if_neg (by decide)]) ?_
  refine Ev.bind (prog_dn hp f g) (Ev.bind (progPow_no hp f n g) (ev_pos rfl (ev_pos rfl (ev_neg (by simp [wrap64]) (Ev.bind (progEval_no hp f n) ?_)))))
  refine Ev.step (fun k => by rw [primroselaw10_ModularNone.j1, if_neg (by decide)]) ?_
  exact ev_pos rfl (Ev.bind (progPlain_no hp f) (Ev.bind (progMul_no hp f g) (Ev.bind (progGcd_no hp f g) (Ev.bind (progMonic_no hp f) (Ev.bind (progDeriv_no hp f) (ev_eq (Ev.now _) (by simp [wrap64])))))))

end Go.Proofs.Ytgfefcopaeelnaa.Pure
