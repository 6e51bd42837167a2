/- Part 5 of this claim's texts, written by slim.py, a program of this claim's writer, out of its own texts and of what the kit's print wrote for this seat: rows that this claim does not need are left out. -/
import Derived.Test.YtiflghgebeadiaaSt3
import Derived.Test.YtiflghgebeadiaaSt4
section
namespace Go.Proofs.Ytiflghgebeadiaa.M
open Go.RowKit Go.Proofs.YtiflghgebeadiaaW.PrintWords Go.Proofs.YtiflghgebeadiaaW.PrintLast Go.Proofs.YtiflghgebeadiaaW.PrintMore
set_option linter.unusedVariables false
set_option linter.unusedSimpArgs false
def RdI (w : World) (v : Value) (xs : List Int) : Prop := ∃ A c, v = .slice A xs.length c ∧ xs.length ≤ c ∧ Kd.C (Kd.int .i64) w A xs.length xs
theorem RdI.below {w w1 : World} {v : Value} {xs : List Int} (h : RdI w v xs) (hb : Below w.heap.size w w1) : RdI w1 v xs := by
  obtain ⟨A, c, rfl, hl, hc⟩ := h
  exact ⟨A, c, rfl, hl, Kd.C_below hc hb⟩
theorem RdI.of_R {w : World} {base : Nat} {ok : Nat → Prop} {v : Value} {xs : List Int} (h : Kd.R (Kd.int .i64) 3 w base ok v xs) : RdI w v xs := by
  obtain ⟨A, c, rfl, hl, hc⟩ := Kd.R_reads h
  exact ⟨A, c, rfl, hl, hc⟩
theorem RdI.mk {w : World} {A : Option Addr} {c : Nat} {xs : List Int} (h : Kd.C (Kd.int .i64) w A xs.length xs) (hc : xs.length ≤ c) : RdI w (.slice A xs.length c) xs := ⟨A, c, rfl, hc, h⟩
theorem RdI.len {w : World} {v : Value} {xs : List Int} (h : RdI w v xs) : xs.length ≤ 9223372036854775807 := by
  obtain ⟨A, c, rfl, hl, hc⟩ := h
  exact hc.2.1
def Okb (base : Nat) (E : Nat → Prop) (w : World) (k : Nat) : Prop := k < base ∨ (¬ E k ∧ ∃ cells, w.heap[k]? = some (.cells cells 3 (0, 0)))
def Mv (base : Nat) (E : Nat → Prop) (w w' : World) : Prop := ∀ k, k < w.heap.size → Okb base E w k → w'.heap[k]? = w.heap[k]?
theorem Mv.ok {base : Nat} {E : Nat → Prop} {w w' : World} (h : Mv base E w w') {k : Nat} (hk : Okb base E w k) (hlt : k < w.heap.size) : Okb base E w' k := by
  rcases hk with hk | ⟨hE, cells, hc⟩
  · exact .inl hk
  · exact .inr ⟨hE, cells, (h k hlt (.inr ⟨hE, cells, hc⟩)).trans hc⟩
theorem Mv.below {base : Nat} {E : Nat → Prop} {w w' : World} (h : Below w.heap.size w w') : Mv base E w w' := fun k hlt _ => h.block k hlt
theorem Mv.trans {base : Nat} {E : Nat → Prop} {w w' w2 : World} (h : Mv base E w w') (hs : w.heap.size ≤ w'.heap.size) (h2 : Mv base E w' w2) : Mv base E w w2 := fun k hlt hk =>
  (h2 k (Nat.lt_of_lt_of_le hlt hs) (h.ok hk hlt)).trans (h k hlt hk)
theorem Mv.grown {base : Nat} {E : Nat → Prop} {w w' : World} {row : Option Nat} (h : w.grownBy w' row) (hr : ∀ k, row = some k → base ≤ k ∧ ∃ cells q, q ≠ 3 ∧ w.heap[k]? = some (.cells cells q (0, 0))) : Mv base E w w' := fun k hlt hk => by
  refine h.block k hlt (fun he => ?_)
  obtain ⟨h1, cells, q, hq, hc⟩ := hr k he.symm
  rcases hk with hk | ⟨_, cells', hc'⟩
  · omega
  · rw [hc] at hc'
    simp at hc'
    exact hq hc'.2
theorem Mv.set {base : Nat} {E : Nat → Prop} {w : World} {p : Addr} (u : Value) (h : base ≤ p.block) (hE : E p.block ∨ ∃ cells q, q ≠ 3 ∧ w.heap[p.block]? = some (.cells cells q (0, 0))) : Mv base E w (w.setCell p u) := fun k hlt hk => by
  refine Below.heap_setCell w p u k (fun he => ?_)
  subst he
  rcases hk with hk | ⟨hn, cells', hc'⟩
  · omega
  · rcases hE with hE | ⟨cells, q, hq, hc⟩
    · exact hn hE
    · rw [hc] at hc'
      simp at hc'
      exact hq hc'.2
theorem Mv.row {base b : Nat} {E ok : Nat → Prop} {w w' : World} {u : Value} {us : List (List Int)} (hR : Kd.R (Kd.slice 3 (Kd.int .i64)) 22 w b ok u us) (hb : base ≤ b) (hg : w.grownBy w' u.ownBlock) : Mv base E w w' :=
  Mv.grown hg (fun k hk => by
    obtain ⟨inner, ho⟩ := Kd.R_own hR
    obtain ⟨cells, hc⟩ := own_typed ho k hk
    exact ⟨Nat.le_trans hb (own_base ho k hk), cells, 22, by decide, hc⟩)
def RdB (base : Nat) (E : Nat → Prop) (w : World) (v : Value) (xs : List Int) : Prop := ∃ A c, v = .slice A xs.length c ∧ xs.length ≤ c ∧ Kd.F (Kd.int .i64) w (Okb base E w) A xs.length xs
theorem RdB.mv {base : Nat} {E : Nat → Prop} {w w' : World} {v : Value} {xs : List Int} (h : RdB base E w v xs) (hm : Mv base E w w') : RdB base E w' v xs := by
  obtain ⟨A, c, rfl, hl, hF⟩ := h
  exact ⟨A, c, rfl, hl, Kd.F_mono (Foot.step (Kd.F_bound hF) (fun k hk hlt => hm k hlt hk.1)) (fun k hk => hm.ok hk.1 hk.2)⟩
theorem RdB.below {base : Nat} {E : Nat → Prop} {w w' : World} {v : Value} {xs : List Int} (h : RdB base E w v xs) (hb : Below w.heap.size w w') : RdB base E w' v xs := h.mv (Mv.below hb)
theorem RdB.rd {base : Nat} {E : Nat → Prop} {w : World} {v : Value} {xs : List Int} (h : RdB base E w v xs) : RdI w v xs := by
  obtain ⟨A, c, rfl, hl, hF⟩ := h
  exact ⟨A, c, rfl, hl, Kd.F_now hF⟩
theorem RdB.of_R {base : Nat} {E ok : Nat → Prop} {w : World} {b : Nat} {v : Value} {xs : List Int} (h : Kd.R (Kd.int .i64) 3 w b ok v xs) (hE : ∀ k, ok k → b ≤ k → ¬ E k) : RdB base E w v xs := by
  obtain ⟨A, c, rfl, hl, hc⟩ := Kd.R_reads h
  refine ⟨A, c, rfl, hl, Kd.F_mono (Kd.R_F (Kd.R_bound h)) (fun k hk => .inr ?_)⟩
  obtain ⟨h1, h2, h3, q, hq, cells, hc⟩ := hk
  have h4 : q = 3 := by simpa [Kd.int, Kd.scalar] using hq
  subst h4
  exact ⟨hE k h1 h2, cells, hc⟩
theorem RdB.of_rd {E : Nat → Prop} {w : World} {v : Value} {xs : List Int} (h : RdI w v xs) : RdB w.heap.size E w v xs := by
  obtain ⟨A, c, rfl, hl, hc⟩ := h
  exact ⟨A, c, rfl, hl, Kd.F_mono (Kd.C_F (Kd.heap_int .i64) hc) (fun k hk => .inl hk)⟩
def Makes1 (w : World) (r : List Int) (e : Ending) (w' : World) : Prop := ∃ v : Value, e = .returned v ∧ Kd.R (Kd.int .i64) 3 w' w.heap.size (fun _ => True) v r ∧ Below w.heap.size w w'
theorem gcd_rd {k : Nat} {v0 v1 : Value} {l0 l1 r : List Int} {p : Int} {w : World} (h : modular_Gcd.f k l0 l1 p = some r) (h0 : RdI w v0 l0) (h1 : RdI w v1 l1) : Calls Try.prog 37 #[v0, v1, .int .i64 p] w (Makes1 w r) := by
  obtain ⟨A0, c0, rfl, hl0, hc0⟩ := h0
  obtain ⟨A1, c1, rfl, hl1, hc1⟩ := h1
  exact (modular_Gcd.calls k A0 c0 l0 A1 c1 l1 p r w hc0 hl0 hc1 hl1 h).mono fun _ _ h => h
theorem sub_rd {k : Nat} {v0 v1 : Value} {l0 l1 r : List Int} {p : Int} {w : World} (h : modular_Sub.f k l0 l1 p = some r) (h0 : RdI w v0 l0) (h1 : RdI w v1 l1) : Calls Try.prog 38 #[v0, v1, .int .i64 p] w (Makes1 w r) := by
  obtain ⟨A0, c0, rfl, hl0, hc0⟩ := h0
  obtain ⟨A1, c1, rfl, hl1, hc1⟩ := h1
  exact (modular_Sub.calls k A0 c0 l0 A1 c1 l1 p r w hc0 hl0 hc1 hl1 h).mono fun _ _ h => h
theorem monic_rd {k : Nat} {v0 : Value} {l0 r : List Int} {p : Int} {w : World} (h : modular_Monic.f k l0 p = some r) (h0 : RdI w v0 l0) : Calls Try.prog 32 #[v0, .int .i64 p] w (Makes1 w r) := by
  obtain ⟨A0, c0, rfl, hl0, hc0⟩ := h0
  exact (modular_Monic.calls k A0 c0 l0 p r w hc0 hl0 h).mono fun _ _ h => h
theorem rest_rd {k : Nat} {v0 v1 : Value} {l0 l1 r : List Int} {p : Int} {B : Nat} {w : World} (h : split_splitter_rest.f k p l0 l1 = some r) (hp : w.cell? ⟨B, 0, none⟩ = some (.int .i64 p)) (hB : B < w.heap.size) (h0 : RdI w v0 l0) (h1 : RdI w v1 l1) : Calls Try.prog 35 #[.pointer (some ⟨B, 0, none⟩), v0, v1] w (Makes1 w r) := by
  obtain ⟨A0, c0, rfl, hl0, hc0⟩ := h0
  obtain ⟨A1, c1, rfl, hl1, hc1⟩ := h1
  exact (split_splitter_rest.calls k p A0 c0 l0 A1 c1 l1 r B w hp hB hc0 hl0 hc1 hl1 h).mono fun _ _ h => h
theorem raise_rd {k : Nat} {v0 v1 : Value} {l0 l1 r : List Int} {p n : Int} {B : Nat} {w : World} (h : split_splitter_raise.f k p l0 n l1 = some r) (hp : w.cell? ⟨B, 0, none⟩ = some (.int .i64 p)) (hB : B < w.heap.size) (h0 : RdI w v0 l0) (h1 : RdI w v1 l1) : Calls Try.prog 36 #[.pointer (some ⟨B, 0, none⟩), v0, .int .i64 n, v1] w (Makes1 w r) := by
  obtain ⟨A0, c0, rfl, hl0, hc0⟩ := h0
  obtain ⟨A1, c1, rfl, hl1, hc1⟩ := h1
  exact (split_splitter_raise.calls k p A0 c0 l0 n A1 c1 l1 r B w hp hB hc0 hl0 hc1 hl1 h).mono fun _ _ h => h
theorem over_rd {k : Nat} {v0 v1 : Value} {l0 l1 r : List Int} {p : Int} {B : Nat} {w : World} (h : split_splitter_over.f k p l0 l1 = some r) (hp : w.cell? ⟨B, 0, none⟩ = some (.int .i64 p)) (hB : B < w.heap.size) (h0 : RdI w v0 l0) (h1 : RdI w v1 l1) : Calls Try.prog 39 #[.pointer (some ⟨B, 0, none⟩), v0, v1] w (Makes1 w r) := by
  obtain ⟨A0, c0, rfl, hl0, hc0⟩ := h0
  obtain ⟨A1, c1, rfl, hl1, hc1⟩ := h1
  exact (split_splitter_over.calls k p A0 c0 l0 A1 c1 l1 r B w hp hB hc0 hl0 hc1 hl1 h).mono fun _ _ h => h
theorem test_rd {k : Nat} {v0 v1 : Value} {l0 l1 r : List Int} {p d : Int} {B : Nat} {w : World} (h : split_splitter_test.f k p l0 l1 d = some r) (hp : w.cell? ⟨B, 0, none⟩ = some (.int .i64 p)) (hB : B < w.heap.size) (h0 : RdI w v0 l0) (h1 : RdI w v1 l1) : Calls Try.prog 40 #[.pointer (some ⟨B, 0, none⟩), v0, v1, .int .i64 d] w (Makes1 w r) := by
  obtain ⟨A0, c0, rfl, hl0, hc0⟩ := h0
  obtain ⟨A1, c1, rfl, hl1, hc1⟩ := h1
  exact (split_splitter_test.calls k p A0 c0 l0 A1 c1 l1 d r B w hp hB hc0 hl0 hc1 hl1 h).mono fun _ _ h => h
theorem digits_rd {k : Nat} {r : List Int} {p v n : Int} {B : Nat} {w : World} (h : split_splitter_digits.f k p v n = some r) (hp : w.cell? ⟨B, 0, none⟩ = some (.int .i64 p)) (hB : B < w.heap.size) : Calls Try.prog 34 #[.pointer (some ⟨B, 0, none⟩), .int .i64 v, .int .i64 n] w (Makes1 w r) :=
  (split_splitter_digits.calls k p v n r B w hp hB h).mono fun _ _ h => h
theorem asked_rd {k : Nat} {v0 : Value} {l0 r : List Int} {p e1 : Int} {w : World} (h : split_asked.f k l0 p = some (r, e1)) (h0 : RdI w v0 l0) : Calls Try.prog 16 #[v0, .int .i64 p] w fun e w' => ∃ v : Value, e = .returned (.tuple #[v, .int .i64 e1]) ∧ Kd.R (Kd.int .i64) 3 w' w.heap.size (fun _ => True) v r ∧ Below w.heap.size w w' := by
  obtain ⟨A0, c0, rfl, hl0, hc0⟩ := h0
  exact (split_asked.calls k A0 c0 l0 p r e1 w hc0 hl0 h).mono fun _ _ h => h
end Go.Proofs.Ytiflghgebeadiaa.M
end
section
namespace Go.Proofs.Ytiflghgebeadiaa.M
open Go.RowKit Go.Proofs.YtiflghgebeadiaaW.PrintWords Go.Proofs.YtiflghgebeadiaaW.PrintLast Go.Proofs.YtiflghgebeadiaaW.PrintMore
attribute [local go_sem] max2_int min2_int max_two min_two max_three min_three max_four min_four   -- for this text's walks alone
set_option linter.unusedVariables false
set_option linter.unusedSimpArgs false
theorem R_not_outer {w : World} {base base' : Nat} {ok ok' : Nat → Prop} {v u : Value} {xs : List Int} {us : List (List Int)} (h : Kd.R (Kd.int .i64) 3 w base ok v xs) (ho : Kd.R (Kd.slice 3 (Kd.int .i64)) 22 w base' ok' u us) :
    Kd.R (Kd.int .i64) 3 w base (fun k => ok k ∧ some k ≠ u.ownBlock) v xs := by
  refine Kd.R_mono (Kd.R_bound h) (fun k hk => ⟨hk.1, fun he => ?_⟩)
  obtain ⟨_, _, _, q, hq, cells, hc⟩ := hk
  obtain ⟨inner, hown⟩ := Kd.R_own ho
  obtain ⟨cells', hc'⟩ := own_typed hown k he.symm
  rw [hc] at hc'
  have h1 : q = 3 := by simpa [Kd.int, Kd.scalar] using hq
  have h2 : q = 22 := by simp at hc'; exact hc'.2
  omega
def split_splitter_degrees.l1 : Nat → Int → List Int → List Int → Option (List Int)
  | 0, _, _, _ => none
  | k + 1, p, left, h => if 1 < h.length then (split_splitter_over.f k p left h).bind fun left' => (modular_Gcd.f k left' h p).bind fun h' => split_splitter_degrees.l1 k p left' h' else some left
def split_splitter_degrees.l0 : Nat → Int → List Int → List (List Int) → List Int → List Int → Int → Option (List (List Int))
  | 0, _, _, _, _, _, _ => none
  | k + 1, p, f, out, left, power, i => if i < (f.length : Int) - 1 then
      (split_splitter_raise.f k p power p f).bind fun power' => (modular_Sub.f k power' [0, 1] p).bind fun s => (modular_Gcd.f k s left p).bind fun g =>
        if out.length < 5864062014805 then (split_splitter_degrees.l1 k p left g).bind fun left' => split_splitter_degrees.l0 k p f (out ++ [g]) left' power' (wrap64 (i + 1)) else none
    else some out
def split_splitter_degrees.f (k : Nat) (p : Int) (f : List Int) : Option (List (List Int)) := (split_splitter_rest.f k p [0, 1] f).bind fun power => split_splitter_degrees.l0 k p f [] f power 0
set_option maxHeartbeats 8000000 in
set_option maxRecDepth 100000 in
theorem split_splitter_degrees.calls (k : Nat) (p : Int) (f : List Int) (vf : Value) (r : List (List Int)) (B : Nat) (w : World) (hp : w.cell? ⟨B, 0, none⟩ = some (.int .i64 p)) (hB : B < w.heap.size) (hf : RdI w vf f) (h : split_splitter_degrees.f k p f = some r) :
    Calls Try.prog 18 #[.pointer (some ⟨B, 0, none⟩), vf] w fun e w' => ∃ v : Value, e = .returned v ∧ Kd.R (Kd.slice 3 (Kd.int .i64)) 22 w' w.heap.size (fun _ => True) v r ∧ Below w.heap.size w w' := by
  have HF := Aside0.mk (RdB.of_rd (E := fun _ => False) hf)
  obtain ⟨Af, cf, rfl, hlf, hcf⟩ := hf
  have hmf := hcf.2.1
  clear hcf
  have HB := Aside0.mk (Below.refl w.heap.size w)
  unfold split_splitter_degrees.f at h
  replace h := Option.bind_eq_some_iff.mp h; obtain ⟨power, hpw, h⟩ := h
  have Hpw := Aside0.mk hpw
  have H' := Aside0.mk h
  clear h hpw
  have hp_ := Aside0.mk hp
  go_enter Try.func18, Try.ntmps18
  go_wp2_with (
    first
    | ((with_reducible refine gate_dst (N := 11) rfl ?_); refine Kd.R_lit (Kd.slice 3 (Kd.int .i64)) (w0 := w) w.heap.size 22 ?hg (N := 11) ?hd (xs := ([] : List (List Int))) (inner := []) (ok := fun _ => True) (okp := fun _ => True) ?hr ?hp (fun _ hk => hk) trivial HB.out (Nat.le_refl _) (by simp) ?_; (case hd => rfl); (case hg => rfl); (case hr => first | (go_simp; done) | (go_simp; rfl)); (case hp => exact (Reps.none _ _)); intro vo w1 ho hb hg_ hnew_; clear hg_ hnew_; have HO := Aside0.mk ho; clear HB; have HB := Aside0.mk hb; clear hp; have hp := (HB.out.cell hB).trans hp_.out; clear ho hb)
    | ((with_reducible refine gate_dst (N := 13) rfl ?_); refine Kd.R_lit (Kd.int .i64) (w0 := w1) w1.heap.size 3 ?hg (N := 13) ?hd (xs := ([0, 1] : List Int)) (inner := [.int .i64 0, .int .i64 1]) (ok := fun _ => True) (okp := fun _ => True) ?hr ?hp (fun _ hk => hk) trivial (Below.refl _ _) (Nat.le_refl _) (by simp) ?_; (case hd => rfl); (case hg => rfl); (case hr => first | (go_simp; done) | (go_simp; rfl)); (case hp => exact (Reps.one (show Kd.M (Kd.int .i64) _ _ _ 0 [.int .i64 0] from rfl) (Reps.one (show Kd.M (Kd.int .i64) _ _ _ 1 [.int .i64 1] from rfl) (Reps.none _ _)))); intro vx w2 ho hb hg_ hnew_; clear hg_ hnew_; have HX := Aside0.mk (RdB.of_R (base := w.heap.size) (E := fun _ => False) ho (fun _ _ _ h => h)); have HO2 := Aside0.mk (Kd.R_below HO.out hb); clear HO; have HO := HO2; clear HO2; have HB2 := Aside0.mk (below_step HB.out hb); clear HB; have HB := HB2; clear HB2; clear hp; have hp := (HB.out.cell hB).trans hp_.out; clear ho hb)
    | ((with_reducible refine gate_callee (f := 35) rfl ?_); refine goesL_ (some 17) rfl rfl Try.func35 (by kernel_rfl) rfl #[.pointer (some ⟨B, 0, none⟩), vx, .slice Af f.length cf] rfl (by (try simp only [List.map_toArray, List.map_cons, List.map_nil]); first | done | rfl) ?_; (with_reducible refine (rest_rd Hpw.out (by assumption) (Nat.lt_of_lt_of_le hB HB.out.size) HX.out.rd (HF.out.below HB.out).rd).mono ?_); rintro e w3 ⟨vw, rfl, ho, hb⟩; refine ⟨_, rfl, ?_⟩; have HW := Aside0.mk (RdB.of_R (base := w.heap.size) (E := fun _ => False) ho (fun _ _ _ h => h)); have n_ := Aside0.mk (Kd.R_below HO.out hb); clear HO; have HO := n_; clear n_; have n_ := Aside0.mk (RdB.below HX.out hb); clear HX; have HX := n_; clear n_; have n_ := Aside0.mk (below_step HB.out hb); clear HB; have HB := n_; clear n_; clear hp; have hp := (HB.out.cell hB).trans hp_.out; clear ho hb))
  go_loopg [5, 6, 8, 21] k (fun kq v5 v6 v8 v21 w' => ∃ (out : List (List Int)) (left power : List Int) (i : Int), v21 = .int .i64 i ∧ Aside0 (split_splitter_degrees.l0 kq p f out left power i = some r) ∧ Aside0 (kq ≤ k) ∧ Aside0 (Kd.R (Kd.slice 3 (Kd.int .i64)) 22 w' w.heap.size (fun _ => True) v5 out) ∧ Aside0 (RdB w.heap.size (fun _ => False) w' v6 left) ∧ Aside0 (RdB w.heap.size (fun _ => False) w' v8 power) ∧ Aside0 (RdB w.heap.size (fun _ => False) w' vx [0, 1]) ∧ Aside0 (Below w.heap.size w w'))
  case atStart => exact ⟨[], f, power, 0, rfl, H', ⟨Nat.le_refl _⟩, HO, ⟨HF.out.below HB.out⟩, HW, HX, HB⟩
  case round =>
    clear H' HO HX HB HW hp Hpw
    obtain ⟨out, left, power1, i, rfl, HA, HK, HO, HL, HP, HX, HB⟩ := hrel
    have hp := (HB.out.cell hB).trans hp_.out
    cases gk with
    | zero => exact absurd HA.out (by simp [split_splitter_degrees.l0])
    | succ k1 =>
      have H := HA.out
      clear HA
      simp only [split_splitter_degrees.l0] at H
      by_cases c1 : i < (f.length : Int) - 1
      · rw [if_pos c1] at H
        have c1b : decide (i < (f.length : Int) - 1) = true := decide_eq_true c1
        clear c1
        replace H := Option.bind_eq_some_iff.mp H; obtain ⟨pw2, h1, H⟩ := H
        replace H := Option.bind_eq_some_iff.mp H; obtain ⟨s, h2, H⟩ := H
        replace H := Option.bind_eq_some_iff.mp H; obtain ⟨g, h3, H⟩ := H
        have H1 := Aside0.mk h1
        have H2 := Aside0.mk h2
        have H3 := Aside0.mk h3
        have H' := Aside0.mk H
        clear h1 h2 h3 H
        go_wp2_with (
          first
          | ((with_reducible refine gate_callee (f := 36) rfl ?_); refine goesL_ (some 30) rfl rfl Try.func36 (by kernel_rfl) rfl #[.pointer (some ⟨B, 0, none⟩), u8, .int .i64 p, .slice Af f.length cf] rfl (by (try simp only [List.map_toArray, List.map_cons, List.map_nil]); first | done | rfl) ?_; (with_reducible refine (raise_rd H1.out (by assumption) (Nat.lt_of_lt_of_le hB HB.out.size) HP.out.rd (HF.out.below HB.out).rd).mono ?_); rintro e w3 ⟨vw2, rfl, ho, hb⟩; refine ⟨_, rfl, ?_⟩; have HW := Aside0.mk (RdB.of_R (base := w.heap.size) (E := fun _ => False) ho (fun _ _ _ h => h)); have n_ := Aside0.mk (Kd.R_below HO.out hb); clear HO; have HO := n_; clear n_; have n_ := Aside0.mk (RdB.below HX.out hb); clear HX; have HX := n_; clear n_; have n_ := Aside0.mk (RdB.below HL.out hb); clear HL; have HL := n_; clear n_; have n_ := Aside0.mk (below_step HB.out hb); clear HB; have HB := n_; clear n_; clear hp; have hp := (HB.out.cell hB).trans hp_.out; clear ho hb))
        have hdr_ : Below w3.heap.size w3 w3.drew := below_drew1 (Below.refl _ _)
        refine start_ (n := 14) (S := fun w' => w'.cell? ⟨B, 0, none⟩ = some (.int .i64 p)) (ds := []) #[false, false, false, false, false, false, false, false, false, false, false, false, false, false] (by kernel_rfl) rfl rfl (hp) (fun hHeld => ?_)
        generalize w3.drew = w4 at hdr_ hHeld ⊢
        have n_ := Aside0.mk (Kd.R_below HO.out hdr_); clear HO; have HO := n_; clear n_; have n_ := Aside0.mk (RdB.below HX.out hdr_); clear HX; have HX := n_; clear n_; have n_ := Aside0.mk (RdB.below HL.out hdr_); clear HL; have HL := n_; clear n_; have n_ := Aside0.mk (RdB.below HW.out hdr_); clear HW; have HW := n_; clear n_; have n_ := Aside0.mk (below_step HB.out hdr_); clear HB; have HB := n_; clear n_; clear hp; have hp := (HB.out.cell hB).trans hp_.out
        clear hdr_
        refine pure_ (i := 0) (N := some 31) (v := ?_) (a' := ?_) #[true, false, false, false, false, false, false, false, false, false, false, false, false, false] rfl rfl (by kernel_rfl) (fun _ _ _ h => h) (Or.inl ⟨by rfl, ?_⟩) ?_ ?_
        rotate_left
        · intro w'
          go_simp
          with_reducible rfl
        rotate_left
        · simp only [Act.put, List.setIfInBounds_toArray, List.set_cons_zero, List.set_cons_succ, i64_w, i32_w]
          rfl
        refine pure_ (i := 1) (N := some 32) (v := ?_) (a' := ?_) #[true, true, false, false, false, false, false, false, false, false, false, false, false, false] rfl rfl (by kernel_rfl) (fun _ _ _ h => h) (Or.inl ⟨by rfl, ?_⟩) ?_ ?_
        rotate_left
        · intro w'
          go_simp
          with_reducible rfl
        rotate_left
        · simp only [Act.put, List.setIfInBounds_toArray, List.set_cons_zero, List.set_cons_succ, i64_w, i32_w]
          rfl
        refine pure_ (i := 2) (N := some 33) (v := ?_) (a' := ?_) #[true, true, true, false, false, false, false, false, false, false, false, false, false, false] rfl rfl (by kernel_rfl) (fun _ _ _ h => h) (Or.inl ⟨by rfl, ?_⟩) ?_ ?_
        rotate_left
        · intro w'
          go_simp
          with_reducible rfl
        rotate_left
        · simp only [Act.put, List.setIfInBounds_toArray, List.set_cons_zero, List.set_cons_succ, i64_w, i32_w]
          rfl
        refine pure_ (i := 3) (N := some 34) (v := ?_) (a' := ?_) #[true, true, true, true, false, false, false, false, false, false, false, false, false, false] rfl rfl (by kernel_rfl) (fun _ _ _ h => h) (Or.inl ⟨by rfl, ?_⟩) ?_ ?_
        rotate_left
        · intro w'
          go_simp
          with_reducible rfl
        rotate_left
        · simp only [Act.put, List.setIfInBounds_toArray, List.set_cons_zero, List.set_cons_succ, i64_w, i32_w]
          rfl
        refine pure_ (i := 4) (N := some 35) (v := ?_) (a' := ?_) #[true, true, true, true, true, false, false, false, false, false, false, false, false, false] rfl rfl (by kernel_rfl) (fun _ _ _ h => h) (Or.inl ⟨by rfl, ?_⟩) ?_ ?_
        rotate_left
        · intro w'
          go_simp
          with_reducible rfl
        rotate_left
        · simp only [Act.put, List.setIfInBounds_toArray, List.set_cons_zero, List.set_cons_succ, i64_w, i32_w]
          rfl
        refine take_ (i := 5) (N := some 36) (v := ?_) (a' := ?_) #[true, true, true, true, true, true, false, false, false, false, false, false, false, false] rfl rfl (by kernel_rfl) (fun _ _ _ h => h) (Or.inl ⟨by rfl, ?_⟩) hHeld ?_ ?_
        rotate_left
        · intro w' s0
          go_simp
          with_reducible rfl
        rotate_left
        · simp only [Act.put, List.setIfInBounds_toArray, List.set_cons_zero, List.set_cons_succ, i64_w, i32_w]
          rfl
        refine pure_ (i := 7) (N := some 38) (v := ?_) (a' := ?_) #[true, true, true, true, true, true, false, true, false, false, false, false, false, false] rfl rfl (by kernel_rfl) (fun _ _ _ h => h) (Or.inl ⟨by rfl, ?_⟩) ?_ ?_
        rotate_left
        · intro w'
          go_simp
          with_reducible rfl
        rotate_left
        · simp only [Act.put, List.setIfInBounds_toArray, List.set_cons_zero, List.set_cons_succ, i64_w, i32_w]
          rfl
        refine pure_ (i := 8) (N := some 39) (v := ?_) (a' := ?_) #[true, true, true, true, true, true, false, true, true, false, false, false, false, false] rfl rfl (by kernel_rfl) (fun _ _ _ h => h) (Or.inl ⟨by rfl, ?_⟩) ?_ ?_
        rotate_left
        · intro w'
          go_simp
          with_reducible rfl
        rotate_left
        · simp only [Act.put, List.setIfInBounds_toArray, List.set_cons_zero, List.set_cons_succ, i64_w, i32_w]
          rfl
        refine pure_ (i := 9) (N := some 40) (v := ?_) (a' := ?_) #[true, true, true, true, true, true, false, true, true, true, false, false, false, false] rfl rfl (by kernel_rfl) (fun _ _ _ h => h) (Or.inl ⟨by rfl, ?_⟩) ?_ ?_
        rotate_left
        · intro w'
          go_simp
          with_reducible rfl
        rotate_left
        · simp only [Act.put, List.setIfInBounds_toArray, List.set_cons_zero, List.set_cons_succ, i64_w, i32_w]
          rfl
        refine pure_ (i := 10) (N := some 41) (v := ?_) (a' := ?_) #[true, true, true, true, true, true, false, true, true, true, true, false, false, false] rfl rfl (by kernel_rfl) (fun _ _ _ h => h) (Or.inl ⟨by rfl, ?_⟩) ?_ ?_
        rotate_left
        · intro w'
          go_simp
          with_reducible rfl
        rotate_left
        · simp only [Act.put, List.setIfInBounds_toArray, List.set_cons_zero, List.set_cons_succ, i64_w, i32_w]
          rfl
        refine take_ (i := 11) (N := some 42) (v := ?_) (a' := ?_) #[true, true, true, true, true, true, false, true, true, true, true, true, false, false] rfl rfl (by kernel_rfl) (fun _ _ _ h => h) (Or.inl ⟨by rfl, ?_⟩) hHeld ?_ ?_
        rotate_left
        · intro w' s0
          go_simp
          with_reducible rfl
        rotate_left
        · simp only [Act.put, List.setIfInBounds_toArray, List.set_cons_zero, List.set_cons_succ, i64_w, i32_w]
          rfl
        refine one_ (i := 6) (N := some 37) #[true, true, true, true, true, true, true, true, true, true, true, true, false, false] rfl rfl (by kernel_rfl) (by decide) (fun K hK => ?_)
        refine goes_ Try.func38 (by kernel_rfl) rfl #[vw2, vx, .int .i64 p] (by rfl) rfl rfl (by (try simp only [List.map_toArray, List.map_cons, List.map_nil]); first | done | rfl) ?_
        with_reducible refine (sub_rd H2.out HW.out.rd HX.out.rd).mono ?_
        rintro e w5 ⟨vs, rfl, ho, hb⟩
        refine ⟨_, rfl, ?_⟩
        have HS := Aside0.mk (RdB.of_R (base := w.heap.size) (E := fun _ => False) ho (fun _ _ _ h => h))
        have n_ := Aside0.mk (Kd.R_below HO.out hb); clear HO; have HO := n_; clear n_; have n_ := Aside0.mk (RdB.below HX.out hb); clear HX; have HX := n_; clear n_; have n_ := Aside0.mk (RdB.below HL.out hb); clear HL; have HL := n_; clear n_; have n_ := Aside0.mk (RdB.below HW.out hb); clear HW; have HW := n_; clear n_; have n_ := Aside0.mk (below_step HB.out hb); clear HB; have HB := n_; clear n_; clear hp; have hp := (HB.out.cell hB).trans hp_.out
        clear ho hb
        refine hK.out _ _ (hp) (fun hHeld => ?_)
        clear hK K
        refine norm_ (a' := ?_) ?_ ?_
        rotate_left
        · show Act.put _ (some 37) _ = _
          simp only [Act.put, List.setIfInBounds_toArray, List.set_cons_zero, List.set_cons_succ, i64_w, i32_w]
          rfl
        refine one_ (i := 12) (N := some 43) #[true, true, true, true, true, true, true, true, true, true, true, true, true, false] rfl rfl (by kernel_rfl) (by decide) (fun K hK => ?_)
        refine goes_ Try.func37 (by kernel_rfl) rfl #[vs, u6, .int .i64 p] (by rfl) rfl rfl (by (try simp only [List.map_toArray, List.map_cons, List.map_nil]); first | done | rfl) ?_
        with_reducible refine (gcd_rd H3.out HS.out.rd HL.out.rd).mono ?_
        rintro e w6 ⟨vg, rfl, ho, hb⟩
        refine ⟨_, rfl, ?_⟩
        have HG := Aside0.mk (Kd.R_lower ho HB.out.size)
        have n_ := Aside0.mk (Kd.R_below HO.out hb); clear HO; have HO := n_; clear n_; have n_ := Aside0.mk (RdB.below HX.out hb); clear HX; have HX := n_; clear n_; have n_ := Aside0.mk (RdB.below HL.out hb); clear HL; have HL := n_; clear n_; have n_ := Aside0.mk (RdB.below HW.out hb); clear HW; have HW := n_; clear n_; have n_ := Aside0.mk (below_step HB.out hb); clear HB; have HB := n_; clear n_; clear hp; have hp := (HB.out.cell hB).trans hp_.out
        clear ho hb
        refine hK.out _ _ (hp) (fun hHeld => ?_)
        clear hK K
        refine norm_ (a' := ?_) ?_ ?_
        rotate_left
        · show Act.put _ (some 43) _ = _
          simp only [Act.put, List.setIfInBounds_toArray, List.set_cons_zero, List.set_cons_succ, i64_w, i32_w]
          rfl
        refine pure_ (i := 13) (N := some 9) (v := ?_) (a' := ?_) #[true, true, true, true, true, true, true, true, true, true, true, true, true, true] rfl rfl (by kernel_rfl) (fun _ _ _ h => h) (Or.inl ⟨by rfl, ?_⟩) ?_ ?_
        rotate_left
        · intro w'
          go_simp
          with_reducible rfl
        rotate_left
        · simp only [Act.put, List.setIfInBounds_toArray, List.set_cons_zero, List.set_cons_succ, i64_w, i32_w]
          rfl
        refine done_ (by kernel_rfl) ?_
        have H := H'.out
        clear H'
        by_cases c2 : out.length < 5864062014805
        · rw [if_pos c2] at H
          have HL2 := Aside0.mk c2
          clear c2
          replace H := Option.bind_eq_some_iff.mp H; obtain ⟨left2, h4, H⟩ := H
          have H4 := Aside0.mk h4
          have H' := Aside0.mk H
          clear h4 H
          obtain ⟨Ag, cg, eg⟩ := Kd.R_slice HG.out
          subst eg
          go_wp2_with (
            first
            | ((with_reducible refine gate_builtin (b := .append) (xs := #[.tmp 44, .tmp 46]) rfl ?_); at_builtin; refine Kd.R_append (Kd.slice 3 (Kd.int .i64)) (w0 := w) w.heap.size rfl (.tmp 44) (.tmp 46) 25 22 (.slice none 0 0) 24 rfl Try.underlying25 info22 rfl (by decide) (by omega) u5 out g [.slice Ag g.length cg] (fun _ => True) (fun k_ => True ∧ some k_ ≠ u5.ownBlock) rfl rfl ?aP (fun _ hk => hk) ?aF ?aO ?aB ?aS ?aL ?_; (case aP => exact ⟨_, rfl, R_not_outer HG.out HO.out⟩); (case aB => exact HB.out); (case aF => exact (fun _ _ => trivial)); (case aO => exact HO.out); (case aS => exact (below_size HB.out)); (case aL => have := HL2.out; omega); intro vo2 w7 ho hb hg hat; have hm := Mv.row (base := w.heap.size) (E := fun _ => False) HO.out (Nat.le_refl _) hg; clear HO; have HO := Aside0.mk ho; have HG2 := Aside0.mk ((RdB.of_R (base := w.heap.size) (E := fun _ => False) HG.out (fun _ _ _ h => h)).mv hm); clear HG; have HG := HG2; clear HG2; have HX2 := Aside0.mk (HX.out.mv hm); clear HX; have HX := HX2; clear HX2; have HL3 := Aside0.mk (HL.out.mv hm); clear HL; have HL := HL3; clear HL3; have HW2 := Aside0.mk (HW.out.mv hm); clear HW; have HW := HW2; clear HW2; clear HB; have HB := Aside0.mk hb; clear hp; have hp := (HB.out.cell hB).trans hp_.out; clear ho hb hg hat hm))
          go_loopg [6, 10] k1 (fun kq v6 v10 w' => ∃ (lf h : List Int), Aside0 (split_splitter_degrees.l1 kq p lf h = some left2) ∧ Aside0 (kq ≤ k1) ∧ Aside0 (Kd.R (Kd.slice 3 (Kd.int .i64)) 22 w' w.heap.size (fun _ => True) vo2 (out ++ [g])) ∧ Aside0 (RdB w.heap.size (fun _ => False) w' v6 lf) ∧ Aside0 (RdB w.heap.size (fun _ => False) w' v10 h) ∧ Aside0 (RdB w.heap.size (fun _ => False) w' vw2 pw2) ∧ Aside0 (RdB w.heap.size (fun _ => False) w' vx [0, 1]) ∧ Aside0 (Below w.heap.size w w'))
          case atStart => exact ⟨left, g, H4, ⟨Nat.le_refl _⟩, HO, HL, HG, HW, HX, HB⟩
          case round =>
            clear H4 HO HL HG HW HX HB hp H1 H2 H3 HP
            obtain ⟨lf, h, HA, HK1, HO, HL, HG, HW, HX, HB⟩ := hrel
            have hp := (HB.out.cell hB).trans hp_.out
            cases gk with
            | zero => exact absurd HA.out (by simp [split_splitter_degrees.l1])
            | succ k2 =>
              have H := HA.out
              clear HA
              simp only [split_splitter_degrees.l1] at H
              by_cases c3 : 1 < h.length
              · rw [if_pos c3] at H
                have c3b : decide ((1 : Int) < (h.length : Int)) = true := decide_eq_true (by omega)
                have c3c : decide (1 < h.length) = true := decide_eq_true c3
                clear c3
                replace H := Option.bind_eq_some_iff.mp H; obtain ⟨lf2, h5, H⟩ := H
                replace H := Option.bind_eq_some_iff.mp H; obtain ⟨hh2, h6, H⟩ := H
                have H5 := Aside0.mk h5
                have H6 := Aside0.mk h6
                have H7 := Aside0.mk H
                clear h5 h6 H
                obtain ⟨Ah, ch, eh, HG'⟩ := HG.out
                subst eh
                clear HG'
                go_wp2_with (
                  first
                  | ((with_reducible refine gate_callee (f := 39) rfl ?_); refine goesL_ (some 62) rfl rfl Try.func39 (by kernel_rfl) rfl #[.pointer (some ⟨B, 0, none⟩), u6, .slice Ah h.length ch] rfl (by (try simp only [List.map_toArray, List.map_cons, List.map_nil]); first | done | rfl) ?_; (with_reducible refine (over_rd H5.out (by assumption) (Nat.lt_of_lt_of_le hB HB.out.size) HL.out.rd HG.out.rd).mono ?_); rintro e w8 ⟨vl, rfl, ho, hb⟩; refine ⟨_, rfl, ?_⟩; have HL2 := Aside0.mk (RdB.of_R (base := w.heap.size) (E := fun _ => False) ho (fun _ _ _ h => h)); clear HL; have HL := HL2; clear HL2; have n_ := Aside0.mk (Kd.R_below HO.out hb); clear HO; have HO := n_; clear n_; have n_ := Aside0.mk (RdB.below HX.out hb); clear HX; have HX := n_; clear n_; have n_ := Aside0.mk (RdB.below HW.out hb); clear HW; have HW := n_; clear n_; have n_ := Aside0.mk (RdB.below HG.out hb); clear HG; have HG := n_; clear n_; have n_ := Aside0.mk (below_step HB.out hb); clear HB; have HB := n_; clear n_; clear hp; have hp := (HB.out.cell hB).trans hp_.out; clear ho hb)
                  | ((with_reducible refine gate_callee (f := 37) rfl ?_); refine goesL_ (some 58) rfl rfl Try.func37 (by kernel_rfl) rfl #[vl, .slice Ah h.length ch, .int .i64 p] rfl (by (try simp only [List.map_toArray, List.map_cons, List.map_nil]); first | done | rfl) ?_; (with_reducible refine (gcd_rd H6.out HL.out.rd HG.out.rd).mono ?_); rintro e w9 ⟨vh, rfl, ho, hb⟩; refine ⟨_, rfl, ?_⟩; have HG2 := Aside0.mk (RdB.of_R (base := w.heap.size) (E := fun _ => False) ho (fun _ _ _ h => h)); clear HG; have HG := HG2; clear HG2; have n_ := Aside0.mk (Kd.R_below HO.out hb); clear HO; have HO := n_; clear n_; have n_ := Aside0.mk (RdB.below HX.out hb); clear HX; have HX := n_; clear n_; have n_ := Aside0.mk (RdB.below HW.out hb); clear HW; have HW := n_; clear n_; have n_ := Aside0.mk (RdB.below HL.out hb); clear HL; have HL := n_; clear n_; have n_ := Aside0.mk (below_step HB.out hb); clear HB; have HB := n_; clear n_; clear hp; have hp := (HB.out.cell hB).trans hp_.out; clear ho hb))
                go_roundg k2
                case measure => have := HK1.out; omega
                case rel => exact ⟨lf2, hh2, H7, ⟨by have := HK1.out; omega⟩, HO, HL, HG, HW, HX, HB⟩
              · rw [if_neg c3] at H
                have c3b : decide ((1 : Int) < (h.length : Int)) = false := decide_eq_false (by omega)
                have c3c : decide (1 < h.length) = false := decide_eq_false c3
                clear c3
                obtain rfl := Option.some.inj H
                obtain ⟨Ah, ch, eh, HG'⟩ := HG.out
                subst eh
                clear HG'
                go_wp2
                go_roundg k1
                case measure => have := HK.out; omega
                case rel => exact ⟨out ++ [g], lf, pw2, wrap64 (i + 1), (by first | rfl | (simp; done) | (simp [*]; done)), H', ⟨by have := HK.out; omega⟩, HO, HL, HW, HX, HB⟩
        · rw [if_neg c2] at H
          exact absurd H (by simp)
      · rw [if_neg c1] at H
        have c1b : decide (i < (f.length : Int) - 1) = false := decide_eq_false c1
        clear c1
        obtain rfl := Option.some.inj H
        go_wp2
        go_ret
        exact ⟨_, rfl, HO.out, HB.out⟩
end Go.Proofs.Ytiflghgebeadiaa.M
end
section
namespace Go.Proofs.Ytiflghgebeadiaa.M
open Go.RowKit Go.Proofs.YtiflghgebeadiaaW.PrintWords Go.Proofs.YtiflghgebeadiaaW.PrintLast Go.Proofs.YtiflghgebeadiaaW.PrintMore
attribute [local go_sem] max2_int min2_int max_two min_two max_three min_three max_four min_four   -- for this text's walks alone
set_option linter.unusedVariables false
set_option linter.unusedSimpArgs false
def cmp_isNaN_int.f (a0 : Int) : Option (Bool) := some (a0 != a0)
set_option maxHeartbeats 8000000 in
set_option maxRecDepth 100000 in
theorem cmp_isNaN_int.calls (a0 : Int) (r : Bool) (w : World) (h : cmp_isNaN_int.f a0 = some r) :
    Calls Try.prog 77 #[.int .i64 a0] w fun e w' => e = .returned (.bool r) ∧ Drawn0 w w' := by
  have H : (some (a0 != a0)) = some r := h
  clear h
  obtain rfl := Option.some.inj H
  go_enter Try.func77, Try.ntmps77
  go_wp2
  go_ret
  exact ⟨by first | rfl | (simp; done) | (simp [*]; done), by repeat (first | exact Drawn0.refl _ | apply Drawn0.step)⟩
def cmp_Compare_int.f (a0 : Int) (a1 : Int) : Option (Int) := (cmp_isNaN_int.f a0).bind fun t399 => ((cmp_isNaN_int.f a1).bind fun t400 => (if t399 = true then (if t400 = true then (some 0) else (some (-1))) else (if t400 = true then (some 1) else (if a0 < a1 then (some (-1)) else (if a0 > a1 then (some 1) else (some 0))))))
set_option maxHeartbeats 8000000 in
set_option maxRecDepth 100000 in
theorem cmp_Compare_int.calls (a0 : Int) (a1 : Int) (r : Int) (w : World) (h : cmp_Compare_int.f a0 a1 = some r) :
    Calls Try.prog 45 #[.int .i64 a0, .int .i64 a1] w fun e w' => e = .returned (.int .i64 r) ∧ Drawn0 w w' := by
  have H : ((cmp_isNaN_int.f a0).bind fun t399 => ((cmp_isNaN_int.f a1).bind fun t400 => (if t399 = true then (if t400 = true then (some 0) else (some (-1))) else (if t400 = true then (some 1) else (if a0 < a1 then (some (-1)) else (if a0 > a1 then (some 1) else (some 0))))))) = some r := h
  clear h
  replace H := Option.bind_eq_some_iff.mp H
  obtain ⟨t399, A30, H⟩ := H
  replace H : ((cmp_isNaN_int.f a1).bind fun t400 => (if t399 = true then (if t400 = true then (some 0) else (some (-1))) else (if t400 = true then (some 1) else (if a0 < a1 then (some (-1)) else (if a0 > a1 then (some 1) else (some 0)))))) = some r := H
  have A3 := Aside0.mk A30
  clear A30
  replace H := Option.bind_eq_some_iff.mp H
  obtain ⟨t400, A40, H⟩ := H
  replace H : (if t399 = true then (if t400 = true then (some 0) else (some (-1))) else (if t400 = true then (some 1) else (if a0 < a1 then (some (-1)) else (if a0 > a1 then (some 1) else (some 0))))) = some r := H
  have A4 := Aside0.mk A40
  clear A40
  by_cases c5 : t399 = true
  · subst c5
    have H1 : (if t400 = true then (some 0) else (some (-1))) = some r := by rw [if_pos rfl] at H; exact H
    clear H
    have H := H1
    clear H1
    by_cases c6 : t400 = true
    · subst c6
      have H1 : (some 0) = some r := by rw [if_pos rfl] at H; exact H
      clear H
      have H := H1
      clear H1
      obtain rfl := Option.some.inj H
      go_enter Try.func45, Try.ntmps45
      go_wp2_with (first | ((with_reducible refine gate_callee (f := 77) rfl ?_); refine goesL_ (some 8) rfl rfl Try.func77 (by kernel_rfl) rfl #[.int .i64 a0] rfl (by (try simp only [List.map_toArray, List.map_cons, List.map_nil]); first | done | rfl | (simp only [List.length_drop, List.length_take]; rfl)) ?_; (with_reducible refine (cmp_isNaN_int.calls a0 true _ A3.out).mono ?_); rintro e w' ⟨rfl, ⟨nd, rfl⟩⟩; refine ⟨_, rfl, ?_⟩) | ((with_reducible refine gate_callee (f := 77) rfl ?_); refine goesL_ (some 10) rfl rfl Try.func77 (by kernel_rfl) rfl #[.int .i64 a1] rfl (by (try simp only [List.map_toArray, List.map_cons, List.map_nil]); first | done | rfl | (simp only [List.length_drop, List.length_take]; rfl)) ?_; (with_reducible refine (cmp_isNaN_int.calls a1 true _ A4.out).mono ?_); rintro e w' ⟨rfl, ⟨nd, rfl⟩⟩; refine ⟨_, rfl, ?_⟩))
      go_ret
      exact ⟨by first | rfl | (simp; done) | (simp [*]; done), by repeat (first | exact Drawn0.refl _ | apply Drawn0.step)⟩
    · replace c6 := Bool.eq_false_iff.mpr c6
      subst c6
      have H1 : (some (-1)) = some r := by rw [if_neg (show ¬ (false = true) by decide)] at H; exact H
      clear H
      have H := H1
      clear H1
      obtain rfl := Option.some.inj H
      go_enter Try.func45, Try.ntmps45
      go_wp2_with (first | ((with_reducible refine gate_callee (f := 77) rfl ?_); refine goesL_ (some 8) rfl rfl Try.func77 (by kernel_rfl) rfl #[.int .i64 a0] rfl (by (try simp only [List.map_toArray, List.map_cons, List.map_nil]); first | done | rfl | (simp only [List.length_drop, List.length_take]; rfl)) ?_; (with_reducible refine (cmp_isNaN_int.calls a0 true _ A3.out).mono ?_); rintro e w' ⟨rfl, ⟨nd, rfl⟩⟩; refine ⟨_, rfl, ?_⟩) | ((with_reducible refine gate_callee (f := 77) rfl ?_); refine goesL_ (some 10) rfl rfl Try.func77 (by kernel_rfl) rfl #[.int .i64 a1] rfl (by (try simp only [List.map_toArray, List.map_cons, List.map_nil]); first | done | rfl | (simp only [List.length_drop, List.length_take]; rfl)) ?_; (with_reducible refine (cmp_isNaN_int.calls a1 false _ A4.out).mono ?_); rintro e w' ⟨rfl, ⟨nd, rfl⟩⟩; refine ⟨_, rfl, ?_⟩))
      go_ret
      exact ⟨by first | rfl | (simp; done) | (simp [*]; done), by repeat (first | exact Drawn0.refl _ | apply Drawn0.step)⟩
  · replace c5 := Bool.eq_false_iff.mpr c5
    subst c5
    have H1 : (if t400 = true then (some 1) else (if a0 < a1 then (some (-1)) else (if a0 > a1 then (some 1) else (some 0)))) = some r := by rw [if_neg (show ¬ (false = true) by decide)] at H; exact H
    clear H
    have H := H1
    clear H1
    by_cases c7 : t400 = true
    · subst c7
      have H1 : (some 1) = some r := by rw [if_pos rfl] at H; exact H
      clear H
      have H := H1
      clear H1
      obtain rfl := Option.some.inj H
      go_enter Try.func45, Try.ntmps45
      go_wp2_with (first | ((with_reducible refine gate_callee (f := 77) rfl ?_); refine goesL_ (some 8) rfl rfl Try.func77 (by kernel_rfl) rfl #[.int .i64 a0] rfl (by (try simp only [List.map_toArray, List.map_cons, List.map_nil]); first | done | rfl | (simp only [List.length_drop, List.length_take]; rfl)) ?_; (with_reducible refine (cmp_isNaN_int.calls a0 false _ A3.out).mono ?_); rintro e w' ⟨rfl, ⟨nd, rfl⟩⟩; refine ⟨_, rfl, ?_⟩) | ((with_reducible refine gate_callee (f := 77) rfl ?_); refine goesL_ (some 10) rfl rfl Try.func77 (by kernel_rfl) rfl #[.int .i64 a1] rfl (by (try simp only [List.map_toArray, List.map_cons, List.map_nil]); first | done | rfl | (simp only [List.length_drop, List.length_take]; rfl)) ?_; (with_reducible refine (cmp_isNaN_int.calls a1 true _ A4.out).mono ?_); rintro e w' ⟨rfl, ⟨nd, rfl⟩⟩; refine ⟨_, rfl, ?_⟩))
      go_ret
      exact ⟨by first | rfl | (simp; done) | (simp [*]; done), by repeat (first | exact Drawn0.refl _ | apply Drawn0.step)⟩
    · replace c7 := Bool.eq_false_iff.mpr c7
      subst c7
      have H1 : (if a0 < a1 then (some (-1)) else (if a0 > a1 then (some 1) else (some 0))) = some r := by rw [if_neg (show ¬ (false = true) by decide)] at H; exact H
      clear H
      have H := H1
      clear H1
      by_cases c8 : a0 < a1
      · rw [if_pos c8] at H
        have c8b0 : decide (a0 < a1) = true := decide_eq_true c8
        clear c8
        obtain rfl := Option.some.inj H
        go_enter Try.func45, Try.ntmps45
        go_wp2_with (first | ((with_reducible refine gate_callee (f := 77) rfl ?_); refine goesL_ (some 8) rfl rfl Try.func77 (by kernel_rfl) rfl #[.int .i64 a0] rfl (by (try simp only [List.map_toArray, List.map_cons, List.map_nil]); first | done | rfl | (simp only [List.length_drop, List.length_take]; rfl)) ?_; (with_reducible refine (cmp_isNaN_int.calls a0 false _ A3.out).mono ?_); rintro e w' ⟨rfl, ⟨nd, rfl⟩⟩; refine ⟨_, rfl, ?_⟩) | ((with_reducible refine gate_callee (f := 77) rfl ?_); refine goesL_ (some 10) rfl rfl Try.func77 (by kernel_rfl) rfl #[.int .i64 a1] rfl (by (try simp only [List.map_toArray, List.map_cons, List.map_nil]); first | done | rfl | (simp only [List.length_drop, List.length_take]; rfl)) ?_; (with_reducible refine (cmp_isNaN_int.calls a1 false _ A4.out).mono ?_); rintro e w' ⟨rfl, ⟨nd, rfl⟩⟩; refine ⟨_, rfl, ?_⟩))
        go_ret
        exact ⟨by first | rfl | (simp; done) | (simp [*]; done), by repeat (first | exact Drawn0.refl _ | apply Drawn0.step)⟩
      · rw [if_neg c8] at H
        have c8b0 : decide (a0 < a1) = false := decide_eq_false c8
        clear c8
        by_cases c9 : a0 > a1
        · rw [if_pos c9] at H
          have c9b0 : decide (a1 < a0) = true := decide_eq_true c9
          clear c9
          obtain rfl := Option.some.inj H
          go_enter Try.func45, Try.ntmps45
          go_wp2_with (first | ((with_reducible refine gate_callee (f := 77) rfl ?_); refine goesL_ (some 8) rfl rfl Try.func77 (by kernel_rfl) rfl #[.int .i64 a0] rfl (by (try simp only [List.map_toArray, List.map_cons, List.map_nil]); first | done | rfl | (simp only [List.length_drop, List.length_take]; rfl)) ?_; (with_reducible refine (cmp_isNaN_int.calls a0 false _ A3.out).mono ?_); rintro e w' ⟨rfl, ⟨nd, rfl⟩⟩; refine ⟨_, rfl, ?_⟩) | ((with_reducible refine gate_callee (f := 77) rfl ?_); refine goesL_ (some 10) rfl rfl Try.func77 (by kernel_rfl) rfl #[.int .i64 a1] rfl (by (try simp only [List.map_toArray, List.map_cons, List.map_nil]); first | done | rfl | (simp only [List.length_drop, List.length_take]; rfl)) ?_; (with_reducible refine (cmp_isNaN_int.calls a1 false _ A4.out).mono ?_); rintro e w' ⟨rfl, ⟨nd, rfl⟩⟩; refine ⟨_, rfl, ?_⟩))
          go_ret
          exact ⟨by first | rfl | (simp; done) | (simp [*]; done), by repeat (first | exact Drawn0.refl _ | apply Drawn0.step)⟩
        · rw [if_neg c9] at H
          have c9b0 : decide (a1 < a0) = false := decide_eq_false c9
          clear c9
          obtain rfl := Option.some.inj H
          go_enter Try.func45, Try.ntmps45
          go_wp2_with (first | ((with_reducible refine gate_callee (f := 77) rfl ?_); refine goesL_ (some 8) rfl rfl Try.func77 (by kernel_rfl) rfl #[.int .i64 a0] rfl (by (try simp only [List.map_toArray, List.map_cons, List.map_nil]); first | done | rfl | (simp only [List.length_drop, List.length_take]; rfl)) ?_; (with_reducible refine (cmp_isNaN_int.calls a0 false _ A3.out).mono ?_); rintro e w' ⟨rfl, ⟨nd, rfl⟩⟩; refine ⟨_, rfl, ?_⟩) | ((with_reducible refine gate_callee (f := 77) rfl ?_); refine goesL_ (some 10) rfl rfl Try.func77 (by kernel_rfl) rfl #[.int .i64 a1] rfl (by (try simp only [List.map_toArray, List.map_cons, List.map_nil]); first | done | rfl | (simp only [List.length_drop, List.length_take]; rfl)) ?_; (with_reducible refine (cmp_isNaN_int.calls a1 false _ A4.out).mono ?_); rintro e w' ⟨rfl, ⟨nd, rfl⟩⟩; refine ⟨_, rfl, ?_⟩))
          go_ret
          exact ⟨by first | rfl | (simp; done) | (simp [*]; done), by repeat (first | exact Drawn0.refl _ | apply Drawn0.step)⟩
def split_compare.l0 : Nat → List Int → List Int → Int → Int → Option (Int)
  | 0, _, _, _, _ => none
  | k + 1, x0, x1, x17, x18 => if x18 < x17 then (if 0 ≤ (wrap64 ((wrap64 ((x0.length : Int) - 1)) - x18)) then (if (wrap64 ((wrap64 ((x0.length : Int) - 1)) - x18)) < (x0.length : Int) then (if (wrap64 ((wrap64 ((x0.length : Int) - 1)) - x18)) < (x1.length : Int) then (if (rd x0 (wrap64 ((wrap64 ((x0.length : Int) - 1)) - x18))) = (rd x1 (wrap64 ((wrap64 ((x0.length : Int) - 1)) - x18))) then (split_compare.l0 k x0 x1 x17 (wrap64 (x18 + 1))) else ((cmp_Compare_int.f (rd x0 (wrap64 ((wrap64 ((x0.length : Int) - 1)) - x18))) (rd x1 (wrap64 ((wrap64 ((x0.length : Int) - 1)) - x18)))).bind fun t406 => (some t406))) else (none)) else (none)) else (none)) else (some 0)
def split_compare.f (k : Nat) (l0 : List Int) (l1 : List Int) : Option (Int) := (cmp_Compare_int.f (l0.length : Int) (l1.length : Int)).bind fun t401 => (if t401 = 0 then (split_compare.l0 k l0 l1 (l0.length : Int) 0) else (some t401))
set_option maxHeartbeats 8000000 in
set_option maxRecDepth 100000 in
theorem split_compare.calls (k : Nat) (A0 : Option Addr) (c0 : Nat) (l0 : List Int) (A1 : Option Addr) (c1 : Nat) (l1 : List Int) (r : Int) (w : World) (hr0 : Kd.C (Kd.int .i64) w A0 l0.length l0) (hc0 : l0.length ≤ c0) (hr1 : Kd.C (Kd.int .i64) w A1 l1.length l1) (hc1 : l1.length ≤ c1) (h : split_compare.f k l0 l1 = some r) :
    Calls Try.prog 22 #[.slice A0 l0.length c0, .slice A1 l1.length c1] w fun e w' => e = .returned (.int .i64 r) ∧ Drawn0 w w' := by
  have HR0 := Aside0.mk hr0
  have HC0 := Aside0.mk hc0
  clear hr0 hc0
  have HR1 := Aside0.mk hr1
  have HC1 := Aside0.mk hc1
  clear hr1 hc1
  have H : ((cmp_Compare_int.f (l0.length : Int) (l1.length : Int)).bind fun t401 => (if t401 = 0 then (split_compare.l0 k l0 l1 (l0.length : Int) 0) else (some t401))) = some r := h
  clear h
  replace H := Option.bind_eq_some_iff.mp H
  obtain ⟨t401, A30, H⟩ := H
  replace H : (if t401 = 0 then (split_compare.l0 k l0 l1 (l0.length : Int) 0) else (some t401)) = some r := H
  have A3 := Aside0.mk A30
  clear A30
  by_cases c4 : t401 = 0
  · rw [if_pos c4] at H
    have c4b0 : (t401 == 0) = true := beq_iff_eq.mpr c4
    have c4b1 : (t401 != 0) = false := bne_eq_false_iff_eq.mpr c4
    clear c4
    have H' := Aside0.mk H
    clear H
    go_enter Try.func22, Try.ntmps22
    go_wp2_with (first | (go_at_call 45; (with_reducible refine (cmp_Compare_int.calls (l0.length : Int) (l1.length : Int) t401 _ A3.out).mono ?_); rintro e w' ⟨rfl, ⟨nd, rfl⟩⟩; (try first | exact ⟨rfl, _, World.drewN_drewN _ _ _⟩ | exact ⟨rfl, _, Eq.trans (World.drewN_drewN _ _ _) (congrArg (World.drewN _) (Nat.add_assoc _ _ _))⟩)))
    repeat (go_quiet (first | (go_at_call 45; (with_reducible refine (cmp_Compare_int.calls (l0.length : Int) (l1.length : Int) t401 _ A3.out).mono ?_); rintro e w' ⟨rfl, ⟨nd, rfl⟩⟩; (try first | exact ⟨rfl, _, World.drewN_drewN _ _ _⟩ | exact ⟨rfl, _, Eq.trans (World.drewN_drewN _ _ _) (congrArg (World.drewN _) (Nat.add_assoc _ _ _))⟩))); try go_wp2_with (first | (go_at_call 45; (with_reducible refine (cmp_Compare_int.calls (l0.length : Int) (l1.length : Int) t401 _ A3.out).mono ?_); rintro e w' ⟨rfl, ⟨nd, rfl⟩⟩; (try first | exact ⟨rfl, _, World.drewN_drewN _ _ _⟩ | exact ⟨rfl, _, Eq.trans (World.drewN_drewN _ _ _) (congrArg (World.drewN _) (Nat.add_assoc _ _ _))⟩))))
    go_loopg [18] k (fun kq v18 w' => ∃ (x18_1 : Int), v18 = .int .i64 x18_1 ∧ Aside0 (split_compare.l0 kq l0 l1 (l0.length : Int) x18_1 = some r) ∧ Aside0 (kq ≤ k) ∧ Drawn0 w w')
    case atStart => exact ⟨(0), (by first | rfl | (simp; done) | (simp [*]; done)), H', ⟨Nat.le_refl _⟩, by repeat (first | exact Drawn0.refl _ | apply Drawn0.step)⟩
    case round =>
      clear H'
      try clear c1
      try clear c2
      try clear p2
      try clear c4
      try clear c4b0
      try clear c4b1
      obtain ⟨x18_1, rfl, HA, HK1, ⟨m1, rfl⟩⟩ := hrel
      cases gk with
      | zero => exact absurd HA.out (by simp [split_compare.l0])
      | succ k1 =>
        have H := HA.out
        clear HA
        simp only [split_compare.l0] at H
        by_cases c5 : x18_1 < (l0.length : Int)
        · rw [if_pos c5] at H
          have c5b0 : decide (x18_1 < (l0.length : Int)) = true := decide_eq_true c5
          clear c5
          obtain ⟨ji6, hji6⟩ : ∃ j_ : Int, (wrap64 ((wrap64 ((l0.length : Int) - 1)) - x18_1)) = j_ := ⟨_, rfl⟩
          replace H : (if 0 ≤ (ji6) then (if (ji6) < (l0.length : Int) then (if (ji6) < (l1.length : Int) then (if (rd l0 (ji6)) = (rd l1 (ji6)) then (split_compare.l0 k1 l0 l1 (l0.length : Int) (wrap64 (x18_1 + 1))) else ((cmp_Compare_int.f (rd l0 (ji6)) (rd l1 (ji6))).bind fun t406 => (some t406))) else (none)) else (none)) else (none)) = some r := by first | (rw [hji6] at H; exact H) | (simp only [hji6] at H ⊢; exact H)
          have hji6w : (IntKind.i64.wrap ((wrap64 ((l0.length : Int) - 1)) - x18_1)) = ji6 := (i64_w _).trans hji6
          by_cases c7 : 0 ≤ (ji6)
          · rw [if_pos c7] at H
            have c7b0 : decide (0 ≤ (ji6)) = true := decide_eq_true c7
            clear c7
            by_cases c8 : (ji6) < (l0.length : Int)
            · rw [if_pos c8] at H
              have c8b0 : decide ((ji6) < (l0.length : Int)) = true := decide_eq_true c8
              clear c8
              by_cases c9 : (ji6) < (l1.length : Int)
              · rw [if_pos c9] at H
                have c9b0 : decide ((ji6) < (l1.length : Int)) = true := decide_eq_true c9
                clear c9
                by_cases c10 : (rd l0 (ji6)) = (rd l1 (ji6))
                · rw [if_pos c10] at H
                  have c10b0 : ((rd l0 (ji6)) == (rd l1 (ji6))) = true := beq_iff_eq.mpr c10
                  have c10b1 : ((rd l0 (ji6)) != (rd l1 (ji6))) = false := bne_eq_false_iff_eq.mpr c10
                  clear c10
                  have H' := Aside0.mk H
                  clear H
                  have p402 : 0 ≤ ((ji6) : Int) := of_decide_eq_true (by first | (with_reducible assumption) | assumption)
                  have q402 : (ji6) < (l0.length : Int) := of_decide_eq_true (by first | (with_reducible assumption) | assumption)
                  obtain ⟨ad402, e402, hx402_0⟩ := Kd.at_int HR0.out (ji6) p402 q402
                  cases e402
                  replace p402 := eq_true p402
                  replace q402 := eq_true q402
                  have p403 : 0 ≤ ((ji6) : Int) := of_decide_eq_true (by first | (with_reducible assumption) | assumption)
                  have q403 : (ji6) < (l1.length : Int) := of_decide_eq_true (by first | (with_reducible assumption) | assumption)
                  obtain ⟨ad403, e403, hx403_0⟩ := Kd.at_int HR1.out (ji6) p403 q403
                  cases e403
                  replace p403 := eq_true p403
                  replace q403 := eq_true q403
                  go_wp2
                  repeat (go_quiet (fail); try go_wp2)
                  go_roundg k1
                  case measure => have := HK1.out; omega
                  case rel => exact ⟨(wrap64 (x18_1 + 1)), (by first | rfl | (simp; done) | (simp [*]; done)), H', ⟨by have := HK1.out; omega⟩, by repeat (first | exact Drawn0.refl _ | apply Drawn0.step)⟩
                · rw [if_neg c10] at H
                  have c10b0 : ((rd l0 (ji6)) == (rd l1 (ji6))) = false := beq_eq_false_iff_ne.mpr c10
                  have c10b1 : ((rd l0 (ji6)) != (rd l1 (ji6))) = true := bne_iff_ne.mpr c10
                  replace H := Option.bind_eq_some_iff.mp H
                  obtain ⟨t406, A110, H⟩ := H
                  replace H : (some t406) = some r := H
                  have A11 := Aside0.mk A110
                  clear A110
                  obtain rfl := Option.some.inj H
                  have p402 : 0 ≤ ((ji6) : Int) := of_decide_eq_true (by first | (with_reducible assumption) | assumption)
                  have q402 : (ji6) < (l0.length : Int) := of_decide_eq_true (by first | (with_reducible assumption) | assumption)
                  obtain ⟨ad402, e402, hx402_0⟩ := Kd.at_int HR0.out (ji6) p402 q402
                  cases e402
                  replace p402 := eq_true p402
                  replace q402 := eq_true q402
                  have p403 : 0 ≤ ((ji6) : Int) := of_decide_eq_true (by first | (with_reducible assumption) | assumption)
                  have q403 : (ji6) < (l1.length : Int) := of_decide_eq_true (by first | (with_reducible assumption) | assumption)
                  obtain ⟨ad403, e403, hx403_0⟩ := Kd.at_int HR1.out (ji6) p403 q403
                  cases e403
                  replace p403 := eq_true p403
                  replace q403 := eq_true q403
                  have p404 : 0 ≤ ((ji6) : Int) := of_decide_eq_true (by first | (with_reducible assumption) | assumption)
                  have q404 : (ji6) < (l0.length : Int) := of_decide_eq_true (by first | (with_reducible assumption) | assumption)
                  obtain ⟨ad404, e404, hx404_0⟩ := Kd.at_int HR0.out (ji6) p404 q404
                  obtain rfl : ad402 = ad404 := (by injection e404)
                  replace p404 := eq_true p404
                  replace q404 := eq_true q404
                  have p405 : 0 ≤ ((ji6) : Int) := of_decide_eq_true (by first | (with_reducible assumption) | assumption)
                  have q405 : (ji6) < (l1.length : Int) := of_decide_eq_true (by first | (with_reducible assumption) | assumption)
                  obtain ⟨ad405, e405, hx405_0⟩ := Kd.at_int HR1.out (ji6) p405 q405
                  obtain rfl : ad403 = ad405 := (by injection e405)
                  replace p405 := eq_true p405
                  replace q405 := eq_true q405
                  go_wp2_with (first | (go_at_call 45; (with_reducible refine (cmp_Compare_int.calls (rd l0 (ji6)) (rd l1 (ji6)) t406 _ A11.out).mono ?_); rintro e w' ⟨rfl, ⟨nd, rfl⟩⟩; (try first | exact ⟨rfl, _, World.drewN_drewN _ _ _⟩ | exact ⟨rfl, _, Eq.trans (World.drewN_drewN _ _ _) (congrArg (World.drewN _) (Nat.add_assoc _ _ _))⟩)))
                  repeat (go_quiet (first | (go_at_call 45; (with_reducible refine (cmp_Compare_int.calls (rd l0 (ji6)) (rd l1 (ji6)) t406 _ A11.out).mono ?_); rintro e w' ⟨rfl, ⟨nd, rfl⟩⟩; (try first | exact ⟨rfl, _, World.drewN_drewN _ _ _⟩ | exact ⟨rfl, _, Eq.trans (World.drewN_drewN _ _ _) (congrArg (World.drewN _) (Nat.add_assoc _ _ _))⟩))); try go_wp2_with (first | (go_at_call 45; (with_reducible refine (cmp_Compare_int.calls (rd l0 (ji6)) (rd l1 (ji6)) t406 _ A11.out).mono ?_); rintro e w' ⟨rfl, ⟨nd, rfl⟩⟩; (try first | exact ⟨rfl, _, World.drewN_drewN _ _ _⟩ | exact ⟨rfl, _, Eq.trans (World.drewN_drewN _ _ _) (congrArg (World.drewN _) (Nat.add_assoc _ _ _))⟩))))
                  go_ret
                  exact ⟨by first | rfl | (simp; done) | (simp only [← hji6] <;> (first | rfl | simp)) | (simp [*]; done), by repeat (first | exact Drawn0.refl _ | apply Drawn0.step)⟩
              · rw [if_neg c9] at H
                exact absurd H (by simp)
            · rw [if_neg c8] at H
              exact absurd H (by simp)
          · rw [if_neg c7] at H
            exact absurd H (by simp)
        · rw [if_neg c5] at H
          have c5b0 : decide (x18_1 < (l0.length : Int)) = false := decide_eq_false c5
          clear c5
          obtain rfl := Option.some.inj H
          go_wp2
          repeat (go_quiet (fail); try go_wp2)
          go_ret
          exact ⟨by first | rfl | (simp; done) | (simp [*]; done), by repeat (first | exact Drawn0.refl _ | apply Drawn0.step)⟩
  · rw [if_neg c4] at H
    have c4b0 : (t401 == 0) = false := beq_eq_false_iff_ne.mpr c4
    have c4b1 : (t401 != 0) = true := bne_iff_ne.mpr c4
    obtain rfl := Option.some.inj H
    go_enter Try.func22, Try.ntmps22
    go_wp2_with (first | (go_at_call 45; (with_reducible refine (cmp_Compare_int.calls (l0.length : Int) (l1.length : Int) t401 _ A3.out).mono ?_); rintro e w' ⟨rfl, ⟨nd, rfl⟩⟩; (try first | exact ⟨rfl, _, World.drewN_drewN _ _ _⟩ | exact ⟨rfl, _, Eq.trans (World.drewN_drewN _ _ _) (congrArg (World.drewN _) (Nat.add_assoc _ _ _))⟩)))
    repeat (go_quiet (first | (go_at_call 45; (with_reducible refine (cmp_Compare_int.calls (l0.length : Int) (l1.length : Int) t401 _ A3.out).mono ?_); rintro e w' ⟨rfl, ⟨nd, rfl⟩⟩; (try first | exact ⟨rfl, _, World.drewN_drewN _ _ _⟩ | exact ⟨rfl, _, Eq.trans (World.drewN_drewN _ _ _) (congrArg (World.drewN _) (Nat.add_assoc _ _ _))⟩))); try go_wp2_with (first | (go_at_call 45; (with_reducible refine (cmp_Compare_int.calls (l0.length : Int) (l1.length : Int) t401 _ A3.out).mono ?_); rintro e w' ⟨rfl, ⟨nd, rfl⟩⟩; (try first | exact ⟨rfl, _, World.drewN_drewN _ _ _⟩ | exact ⟨rfl, _, Eq.trans (World.drewN_drewN _ _ _) (congrArg (World.drewN _) (Nat.add_assoc _ _ _))⟩))))
    go_ret
    exact ⟨by first | rfl | (simp; done) | (simp [*]; done), by repeat (first | exact Drawn0.refl _ | apply Drawn0.step)⟩
end Go.Proofs.Ytiflghgebeadiaa.M
end
