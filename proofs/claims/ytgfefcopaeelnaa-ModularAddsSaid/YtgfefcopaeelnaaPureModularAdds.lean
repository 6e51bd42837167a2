/- ModularAdds: for every pair of lists and every pair of numbers, plain lists, sums, differences and multiples are the document's, by any number. Conditions: none but those of the statement. -/
import Derived.Test.YtgfefcopaeelnaaTop1
import Derived.Test.YtgfefcopaeelnaaMx39
import Derived.Test.YtgfefcopaeelnaaMx38
namespace Go.Proofs.Ytgfefcopaeelnaa.Pure
open Go.RowKit Go.Proofs.Ytgfefcopaeelnaa.M Go.Proofs.YtgfefcopaeelnaaW.PrintWords Go.Proofs.YtgfefcopaeelnaaW.PrintLast Go.Proofs.Ytgfefcopaeelnaa.Alg
set_option linter.unusedVariables false

theorem refAdd_no {p : Int} (hp : ¬ Pr p) (f g : List Int) : Ev (fun k => primroseref10_Add.f k f g p) [] := by
  unfold primroseref10_Add.f
  refine Ev.bind (refPlain_no hp f) (Ev.bind (refPlain_no hp g) (Ev.step (f := fun k => primroseref10_Add.j1 k [] [] p [] 0 false) (fun k => ?_) (Ev.step (f := fun k => (primroseref10_Plain.f k [] p).bind fun t => some t) (fun k => ?_) (Ev.bind (refPlain_no hp []) (Ev.now _)))))
  · rw [primroseref10_Add.l0, if_neg (by decide)]; rfl
  · rw [primroseref10_Add.j1, if_neg (by decide)]
theorem refScale_no {p : Int} (hp : ¬ Pr p) (f : List Int) (c : Int) : Ev (fun k => primroseref10_Scale.f k f c p) [] := by
  unfold primroseref10_Scale.f
  refine Ev.bind (refPlain_no hp f) (Ev.step (f := fun k => (primroseref10_Plain.f k [] p).bind fun t => some t) (fun k => ?_) (Ev.bind (refPlain_no hp []) (Ev.now _)))
  rw [primroseref10_Scale.l0, if_neg (by decide)]
theorem refSub_no {p : Int} (hp : ¬ Pr p) (f g : List Int) : Ev (fun k => primroseref10_Sub.f k f g p) [] := by
  unfold primroseref10_Sub.f
  exact Ev.bind (refScale_no hp g (-1)) (Ev.bind (refAdd_no hp f []) (Ev.now _))
theorem progScale_is {p : Int} (hp : Pr p) (f : List Int) (c : Int) (hf : f.length ≤ 1073741824) : Is (fun k => modular_Scale.f k f c p) p (Sq.sm c (cf f)) := by
  unfold modular_Scale.f
  exact Is.evb (progIs p) (Is.pos (isB_true hp) (Is.bind (progscale_is hp f c hf) fun r h1 h2 => Is.now h1 h2))
theorem progScale_no {p : Int} (hp : ¬ Pr p) (f : List Int) (c : Int) : Ev (fun k => modular_Scale.f k f c p) [] := by
  unfold modular_Scale.f
  exact Ev.bind (progIs p) (ev_neg (by rw [isB_false hp]; decide) (Ev.now _))

theorem ModularAdds : primroselaw10_ModularAdds.Pure := by
  intro f g c p _ _ _ _ _ _ _ _
  refine Ev.rounds (g := fun k => primroselaw10_ModularAdds.f k f g c p) ?_
  have hj : Ev (fun k => primroselaw10_ModularAdds.j0 k f g c p true) true :=
    Ev.step (f := fun k => (primroselaw10_awake.f k).bind fun t => some t) (fun k => by rw [primroselaw10_ModularAdds.j0, if_pos rfl]) (Ev.bind awake (Ev.now _))
  unfold primroselaw10_ModularAdds.f
  by_cases h1 : (f.length : Int) > 30
  · exact ev_pos h1 hj
  refine ev_neg h1 ?_
  by_cases h2 : (g.length : Int) > 30
  · rw [decide_eq_true h2]; exact hj
  rw [decide_eq_false h2]
  refine Ev.step (fun k => by rw [primroselaw10_ModularAdds.j0, if_neg (by decide)]) (Ev.bind awake (ev_pos rfl ?_))
  obtain ⟨a1, x1, y1, b1⟩ : ∃ r, Ev (fun k => modular_Plain.f k f p) r ∧ Ev (fun k => primroseref10_Plain.f k f p) r ∧ r.length ≤ 1073741824 := by
    by_cases hp : Pr p
    · obtain ⟨m, m1, m2, m3, _, m4⟩ := (progPlain_is hp f (by omega)).same hp.pos (n := f.length) (by omega) (refPlain_is hp f (by omega)) (.refl _ _) (cf_lt_ p f)
      exact ⟨m, m1, m2, by omega⟩
    · exact ⟨[], progPlain_no hp f, refPlain_no hp f, by simp⟩
  obtain ⟨a2, x2, y2, b2⟩ : ∃ r, Ev (fun k => modular_Add.f k f g p) r ∧ Ev (fun k => primroseref10_Add.f k f g p) r ∧ r.length ≤ 1073741824 := by
    by_cases hp : Pr p
    · obtain ⟨m, m1, m2, m3, _, m4⟩ := (progAdd_is hp f g (by omega) (by omega)).same hp.pos (n := f.length + g.length) (by omega) (refAdd_is hp f g (by omega) (by omega)) (.refl _ _) (((cf_lt_ p f).mono (by omega)).add ((cf_lt_ p g).mono (by omega)))
      exact ⟨m, m1, m2, by omega⟩
    · exact ⟨[], progAdd_no hp f g, refAdd_no hp f g, by simp⟩
  obtain ⟨a3, x3, y3, b3⟩ : ∃ r, Ev (fun k => modular_Sub.f k f g p) r ∧ Ev (fun k => primroseref10_Sub.f k f g p) r ∧ r.length ≤ 1073741824 := by
    by_cases hp : Pr p
    · obtain ⟨m, m1, m2, m3, _, m4⟩ := (progSub_is hp f g (by omega) (by omega)).same hp.pos (n := f.length + g.length) (by omega) (refSub_is hp f g (by omega) (by omega)) (.refl _ _) (((cf_lt_ p f).mono (by omega)).sub ((cf_lt_ p g).mono (by omega)))
      exact ⟨m, m1, m2, by omega⟩
    · exact ⟨[], progSub_no hp f g, refSub_no hp f g, by simp⟩
  obtain ⟨a4, x4, y4, b4⟩ : ∃ r, Ev (fun k => modular_Scale.f k f c p) r ∧ Ev (fun k => primroseref10_Scale.f k f c p) r ∧ r.length ≤ 1073741824 := by
    by_cases hp : Pr p
    · obtain ⟨m, m1, m2, m3, _, m4⟩ := (progScale_is hp f c (by omega)).same hp.pos (n := f.length) (by omega) (refScale_is hp f c (by omega)) (.refl _ _) (Alg.Lt.sm c (cf_lt_ p f))
      exact ⟨m, m1, m2, by omega⟩
    · exact ⟨[], progScale_no hp f c, refScale_no hp f c, by simp⟩
  exact Ev.bind x1 (Ev.bind y1 (Ev.bind (same_eq rfl b1) (ev_pos rfl (Ev.bind x2 (Ev.bind y2 (Ev.bind (same_eq rfl b2) (ev_pos rfl (Ev.bind x3 (Ev.bind y3 (Ev.bind (same_eq rfl b3) (ev_pos rfl
    (Ev.bind x4 (Ev.bind y4 (Ev.bind (same_eq rfl b4) (Ev.now _)))))))))))))))

end Go.Proofs.Ytgfefcopaeelnaa.Pure
