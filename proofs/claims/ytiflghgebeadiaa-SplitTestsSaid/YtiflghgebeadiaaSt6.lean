/- Part 6 of this claim's texts, written by slim.py, a program of this claim's writer, out of its own texts and of what the kit's print wrote for this seat: rows that this claim does not need are left out. -/
import Derived.OneCell
import Derived.Laws.EntriesVeiled
import Derived.Test.YtiflghgebeadiaaSt5
section
namespace Go.Proofs.Ytiflghgebeadiaa.M
open Go.RowKit Go.Proofs.YtiflghgebeadiaaW.PrintWords Go.Proofs.YtiflghgebeadiaaW.PrintLast Go.Proofs.YtiflghgebeadiaaW.PrintMore
attribute [local go_sem] max2_int min2_int max_two min_two max_three min_three max_four min_four   -- for this text's walks alone
set_option linter.unusedVariables false
set_option linter.unusedSimpArgs false
def SpFn (n : Nat) : Value := .func (.func 33) #[] #[.pointer (some ⟨n + 4, 0, none⟩), .pointer (some ⟨n + 1, 0, none⟩), .pointer (some ⟨n + 3, 0, none⟩), .pointer (some ⟨n + 5, 0, none⟩), .pointer (some ⟨n, 0, none⟩)]
structure SpSt (w : World) (n : Nat) (p : Int) (vd : Value) (a c : Int) (vo : Value) : Prop where
  bp : w.heap[n]? = some (.cells #[.int .i64 p] 3 (0, 0))
  bd : w.heap[n + 1]? = some (.cells #[vd] 22 (0, 0))
  bs : w.heap[n + 2]? = some (.cells #[.int .i64 p, SpFn n, vo] 42 (0, 0))
  bx : w.heap[n + 3]? = some (.cells #[.pointer (some ⟨n + 2, 0, none⟩)] 36 (0, 0))
  ba : w.heap[n + 4]? = some (.cells #[.int .i64 a] 3 (0, 0))
  bc : w.heap[n + 5]? = some (.cells #[.int .i64 c] 3 (0, 0))
theorem heap_lt_ {w : World} {k : Nat} {o : Obj} (h : w.heap[k]? = some o) : k < w.heap.size := (Array.getElem?_eq_some_iff.1 h).1
theorem SpSt.move {w w' : World} {n : Nat} {p a c : Int} {vd vo : Value} (h : SpSt w n p vd a c vo) (hm : ∀ k, n ≤ k → k < n + 6 → w'.heap[k]? = w.heap[k]?) : SpSt w' n p vd a c vo :=
  ⟨(hm n (by omega) (by omega)).trans h.bp, (hm _ (by omega) (by omega)).trans h.bd, (hm _ (by omega) (by omega)).trans h.bs, (hm _ (by omega) (by omega)).trans h.bx, (hm _ (by omega) (by omega)).trans h.ba, (hm _ (by omega) (by omega)).trans h.bc⟩
theorem SpSt.size {w : World} {n : Nat} {p a c : Int} {vd vo : Value} (h : SpSt w n p vd a c vo) : n + 6 ≤ w.heap.size := heap_lt_ h.bc
theorem SpSt.below {w w' : World} {n : Nat} {p a c : Int} {vd vo : Value} (h : SpSt w n p vd a c vo) (hb : Below w.heap.size w w') : SpSt w' n p vd a c vo :=
  h.move (fun k _ hk => hb.block k (by have := h.size; omega))
theorem setCell_self_ {w : World} {b i : Nat} {cs : Array Value} {t : TypeId} {f : Nat × Nat} (v : Value) (h : w.heap[b]? = some (.cells cs t f)) : (w.setCell ⟨b, i, none⟩ v).heap[b]? = some (.cells (cs.setIfInBounds i v) t f) := by
  obtain ⟨hlt, hk⟩ := Array.getElem?_eq_some_iff.1 h
  show (w.heap.modify b _)[b]? = _
  rw [Array.getElem?_eq_getElem (by rw [Array.size_modify]; exact hlt), Array.getElem_modify_self, hk]
  rfl
theorem alloc_new_ (w : World) (o : Obj) {k : Nat} (hk : k = w.heap.size) : (w.alloc o).heap[k]? = some o := by subst hk; show (w.heap.push o)[w.heap.size]? = _; simp
theorem alloc_old_ {w : World} (o : Obj) {k : Nat} {x : Obj} (h : w.heap[k]? = some x) : (w.alloc o).heap[k]? = some x := ((below_alloc (Below.refl _ _) o).block k (heap_lt_ h)).trans h
theorem set_old_ {w : World} {b i k : Nat} (v : Value) {x : Obj} (h : w.heap[k]? = some x) (hne : k ≠ b) : (w.setCell ⟨b, i, none⟩ v).heap[k]? = some x := (Below.heap_setCell w ⟨b, i, none⟩ v k hne).trans h
set_option maxHeartbeats 8000000 in
set_option maxRecDepth 100000 in
theorem split_started.calls (p : Int) (vd : Value) (hvd : ∃ A l c, vd = .slice A l c) (w : World) :
    Calls Try.prog 17 #[.int .i64 p, vd] w fun e w' => e = .returned (.pointer (some ⟨w.heap.size + 2, 0, none⟩)) ∧ SpSt w' w.heap.size p vd 0 0 (.slice none 0 0) ∧ Below w.heap.size w w' := by
  obtain ⟨Ad, ld, cd, rfl⟩ := hvd
  go_enter Try.func17, Try.ntmps17
  go_wp2
  go_ret
  refine ⟨rfl, ⟨?_, ?_, ?_, ?_, ?_, ?_⟩, ?_⟩
  · exact alloc_old_ _ (alloc_old_ _ (alloc_old_ _ (alloc_old_ _ (alloc_old_ _ (alloc_new_ _ _ rfl)))))
  · exact alloc_old_ _ (alloc_old_ _ (alloc_old_ _ (alloc_old_ _ (alloc_new_ _ _ (by simp)))))
  · exact alloc_old_ _ (alloc_old_ _ (alloc_old_ _ (alloc_new_ _ _ (by simp))))
  · exact alloc_old_ _ (alloc_old_ _ (alloc_new_ _ _ (by simp)))
  · exact alloc_old_ _ (alloc_new_ _ _ (by simp))
  · exact alloc_new_ _ _ (by simp)
  · repeat (first | exact Below.refl _ _ | apply below_alloc)
end Go.Proofs.Ytiflghgebeadiaa.M
end
section
namespace Go.Proofs.Ytiflghgebeadiaa.M
open Go.RowKit Go.Proofs.YtiflghgebeadiaaW.PrintWords Go.Proofs.YtiflghgebeadiaaW.PrintLast Go.Proofs.YtiflghgebeadiaaW.PrintMore
attribute [local go_sem] max2_int min2_int max_two min_two max_three min_three max_four min_four   -- for this text's walks alone
set_option linter.unusedVariables false
set_option linter.unusedSimpArgs false
def SpE (n : Nat) (k : Nat) : Prop := n ≤ k ∧ k < n + 6
structure KeepE (n : Nat) (w w' : World) : Prop where
  below : Below 0 w w'
  keep : ∀ k, k < w.heap.size → ¬ SpE n k → w'.heap[k]? = w.heap[k]?
theorem KeepE.of_below {n : Nat} {w w' : World} (h : Below w.heap.size w w') : KeepE n w w' := ⟨h.mono (Nat.zero_le _), fun k hk _ => h.block k hk⟩
theorem KeepE.trans {n : Nat} {w w' w2 : World} (h : KeepE n w w') (h2 : KeepE n w' w2) : KeepE n w w2 :=
  ⟨h.below.trans h2.below, fun k hk hE => (h2.keep k (Nat.lt_of_lt_of_le hk h.below.size) hE).trans (h.keep k hk hE)⟩
theorem KeepE.set {n : Nat} (w : World) {p : Addr} (u : Value) (hE : SpE n p.block) : KeepE n w (w.setCell p u) :=
  ⟨(Below.refl 0 w).setCell (Nat.zero_le _) u, fun k hk hn => Below.heap_setCell w p u k (fun e => hn (e ▸ hE))⟩
theorem KeepE.mv {base n : Nat} {w w' : World} (h : KeepE n w w') (hb : base ≤ n) : Mv base (SpE n) w w' := fun k hk ho => h.keep k hk (by
  rcases ho with ho | ⟨ho, _⟩
  · rintro ⟨h1, _⟩; omega
  · exact ho)
theorem KeepE.lower {base n : Nat} {w w' : World} (h : KeepE n w w') (hb : base ≤ n) (hz : base ≤ w.heap.size) : Below base w w' :=
  ⟨h.below.os, h.below.tape, h.below.output, h.below.size, fun k hk => h.keep k (Nat.lt_of_lt_of_le hk hz) (fun hE => by have := hE.1; omega)⟩
theorem SpSt.setA {w : World} {n : Nat} {p a c : Int} {vd vo : Value} (h : SpSt w n p vd a c vo) (a' : Int) : SpSt (w.setCell ⟨n + 4, 0, none⟩ (.int .i64 a')) n p vd a' c vo :=
  ⟨set_old_ _ h.bp (by omega), set_old_ _ h.bd (by omega), set_old_ _ h.bs (by omega), set_old_ _ h.bx (by omega), setCell_self_ _ h.ba, set_old_ _ h.bc (by omega)⟩
theorem SpSt.setC {w : World} {n : Nat} {p a c : Int} {vd vo : Value} (h : SpSt w n p vd a c vo) (c' : Int) : SpSt (w.setCell ⟨n + 5, 0, none⟩ (.int .i64 c')) n p vd a c' vo :=
  ⟨set_old_ _ h.bp (by omega), set_old_ _ h.bd (by omega), set_old_ _ h.bs (by omega), set_old_ _ h.bx (by omega), set_old_ _ h.ba (by omega), setCell_self_ _ h.bc⟩
theorem SpSt.cP {w : World} {n : Nat} {p a c : Int} {vd vo : Value} (h : SpSt w n p vd a c vo) : w.cell? ⟨n, 0, none⟩ = some (.int .i64 p) := cell_of_one h.bp
theorem SpSt.cD {w : World} {n : Nat} {p a c : Int} {vd vo : Value} (h : SpSt w n p vd a c vo) : w.cell? ⟨n + 1, 0, none⟩ = some vd := cell_of_one h.bd
theorem SpSt.cX {w : World} {n : Nat} {p a c : Int} {vd vo : Value} (h : SpSt w n p vd a c vo) : w.cell? ⟨n + 3, 0, none⟩ = some (.pointer (some ⟨n + 2, 0, none⟩)) := cell_of_one h.bx
theorem SpSt.cA {w : World} {n : Nat} {p a c : Int} {vd vo : Value} (h : SpSt w n p vd a c vo) : w.cell? ⟨n + 4, 0, none⟩ = some (.int .i64 a) := cell_of_one h.ba
theorem SpSt.cC {w : World} {n : Nat} {p a c : Int} {vd vo : Value} (h : SpSt w n p vd a c vo) : w.cell? ⟨n + 5, 0, none⟩ = some (.int .i64 c) := cell_of_one h.bc
theorem SpSt.fA {w : World} {n : Nat} {p a c : Int} {vd vo : Value} (h : SpSt w n p vd a c vo) : w.frozen? ⟨n + 4, 0, none⟩ = false := free_of_one h.ba
theorem SpSt.fC {w : World} {n : Nat} {p a c : Int} {vd vo : Value} (h : SpSt w n p vd a c vo) : w.frozen? ⟨n + 5, 0, none⟩ = false := free_of_one h.bc
theorem SpSt.s0 {w : World} {n : Nat} {p a c : Int} {vd vo : Value} (h : SpSt w n p vd a c vo) : w.cell? ⟨n + 2, 0, none⟩ = some (.int .i64 p) := by simp [World.cell?, h.bs]
theorem SpSt.s1 {w : World} {n : Nat} {p a c : Int} {vd vo : Value} (h : SpSt w n p vd a c vo) : w.cell? ⟨n + 2, 1, none⟩ = some (SpFn n) := by simp [World.cell?, h.bs]
theorem SpSt.s2 {w : World} {n : Nat} {p a c : Int} {vd vo : Value} (h : SpSt w n p vd a c vo) : w.cell? ⟨n + 2, 2, none⟩ = some vo := by simp [World.cell?, h.bs]
theorem SpSt.f2 {w : World} {n : Nat} {p a c : Int} {vd vo : Value} (h : SpSt w n p vd a c vo) : w.frozen? ⟨n + 2, 2, none⟩ = false := by simp [World.frozen?, h.bs]
def split_guess.f (k : Nat) (p : Int) (draws : List Int) (a c n : Int) : Option (List Int × Int × Int) :=
  if a < (draws.length : Int) then if 0 ≤ a then (split_splitter_digits.f k p (Go.bits .and .i64 (rd draws a) 4611686018427387903) n).bind fun g => some (g, a + 1, c) else none
  else (split_splitter_digits.f k p (wrap64 (wrap64 (p - 1) + wrap64 (c + 1))) n).bind fun g => some (g, a, wrap64 (c + 1))
set_option maxHeartbeats 8000000 in
set_option maxRecDepth 100000 in
theorem split_guess.calls (k : Nat) (p : Int) (draws : List Int) (a c n a' c' : Int) (g : List Int) (vd vo : Value) (base N : Nat) (w : World) (hs : SpSt w N p vd a c vo) (hd : RdB base (SpE N) w vd draws) (hN : base ≤ N) (h : split_guess.f k p draws a c n = some (g, a', c')) :
    Calls Try.prog 33 #[.int .i64 n, .pointer (some ⟨N + 4, 0, none⟩), .pointer (some ⟨N + 1, 0, none⟩), .pointer (some ⟨N + 3, 0, none⟩), .pointer (some ⟨N + 5, 0, none⟩), .pointer (some ⟨N, 0, none⟩)] w fun e w' =>
      ∃ v : Value, e = .returned v ∧ Kd.R (Kd.int .i64) 3 w' w.heap.size (fun _ => True) v g ∧ SpSt w' N p vd a' c' vo ∧ KeepE N w w' := by
  have HS := Aside0.mk hs
  have HD := Aside0.mk hd
  obtain ⟨Ad, cd, rfl, hld, hF⟩ := hd
  have hmd := Kd.F_max hF
  clear hF
  have h1 := hs.cA
  have h2 := hs.cD
  have h3 := hs.cX
  have h4 := hs.cC
  have h5 := hs.cP
  have h6 := hs.fA
  have h7 := hs.fC
  clear hs
  unfold split_guess.f at h
  by_cases c1 : a < (draws.length : Int)
  · rw [if_pos c1] at h
    by_cases c2 : 0 ≤ a
    · rw [if_pos c2] at h
      replace h := Option.bind_eq_some_iff.mp h; obtain ⟨g', hg, h⟩ := h
      simp only [Option.some.injEq, Prod.mk.injEq] at h
      obtain ⟨rfl, rfl, rfl⟩ := h
      have Hg := Aside0.mk hg
      clear hg
      have c1b : decide (a < (draws.length : Int)) = true := decide_eq_true c1
      have e1 : IntKind.i64.wrap (a + 1) = a + 1 := by rw [i64_w]; unfold wrap64; omega
      go_enter Try.func33, Try.ntmps33
      go_wp2
      have HK := Aside0.mk (KeepE.set (n := N) w (p := ⟨N + 4, 0, none⟩) (.int .i64 (a + 1)) (show SpE N (N + 4) from ⟨by omega, by omega⟩))
      have HS1 := Aside0.mk (HS.out.setA (a + 1))
      have HD1 := Aside0.mk (HD.out.mv (HK.out.mv hN))
      generalize w.setCell ⟨N + 4, 0, none⟩ (.int .i64 (a + 1)) = w1 at HK HS1 HD1 ⊢
      clear h1 h2 h3 h4 h5 h6 h7 HD
      obtain ⟨ad, ead, hx⟩ : ∃ ad, Ad = some ad ∧ w1.cell? (ad.add a.toNat) = some (.int .i64 (rd draws a)) := by
        obtain ⟨A_, c_, he, _, hF⟩ := HD1.out
        injection he with he _ _
        subst he
        exact Kd.at_int (Kd.F_now hF) a c2 c1
      subst ead
      have Hx := Aside0.mk hx
      clear hx
      have e2 : IntKind.i64.wrap (a + 1 - 1) = a := by rw [i64_w]; unfold wrap64; omega
      have e3 : wrap64 a = a := by unfold wrap64; omega
      have e4 : IntKind.i64.wrap a = a := by rw [i64_w]; exact e3
      have p1 := eq_true c2
      have q1 := eq_true c1
      have hdr_ : Below w1.heap.size w1 w1.drew := below_drew1 (Below.refl _ _)
      refine start_ (n := 10) (S := fun w' => Below w1.heap.size w1 w') (ds := []) #[false, false, false, false, false, false, false, false, false, false] (by kernel_rfl) rfl rfl (hdr_) (fun hHeld => ?_)
      generalize w1.drew = w2 at hdr_ hHeld ⊢
      clear HS
      refine take_ (i := 0) (N := some 14) (v := ?_) (a' := ?_) #[true, false, false, false, false, false, false, false, false, false] rfl rfl (by kernel_rfl) (fun _ _ _ h => h) (Or.inl ⟨by rfl, ?_⟩) hHeld ?_ ?_
      rotate_left
      · intro w' s0
        have q_ := (HS1.out.below s0).cX
        go_simp
        with_reducible rfl
      rotate_left
      · simp only [Act.put, List.setIfInBounds_toArray, List.set_cons_zero, List.set_cons_succ, i64_w, i32_w]
        rfl
      refine take_ (i := 1) (N := some 15) (v := ?_) (a' := ?_) #[true, true, false, false, false, false, false, false, false, false] rfl rfl (by kernel_rfl) (fun _ _ _ h => h) (Or.inl ⟨by rfl, ?_⟩) hHeld ?_ ?_
      rotate_left
      · intro w' s0
        have q_ := (HS1.out.below s0).cD
        go_simp
        with_reducible rfl
      rotate_left
      · simp only [Act.put, List.setIfInBounds_toArray, List.set_cons_zero, List.set_cons_succ, i64_w, i32_w]
        rfl
      refine take_ (i := 2) (N := some 16) (v := ?_) (a' := ?_) #[true, true, true, false, false, false, false, false, false, false] rfl rfl (by kernel_rfl) (fun _ _ _ h => h) (Or.inl ⟨by rfl, ?_⟩) hHeld ?_ ?_
      rotate_left
      · intro w' s0
        have q_ := (HS1.out.below s0).cA
        go_simp
        with_reducible rfl
      rotate_left
      · simp only [Act.put, List.setIfInBounds_toArray, List.set_cons_zero, List.set_cons_succ, i64_w, i32_w]
        rfl
      refine pure_ (i := 3) (N := some 17) (v := ?_) (a' := ?_) #[true, true, true, true, false, false, false, false, false, false] rfl rfl (by kernel_rfl) (fun _ _ _ h => h) (Or.inl ⟨by rfl, ?_⟩) ?_ ?_
      rotate_left
      · intro w'
        go_simp
        with_reducible rfl
      rotate_left
      · simp only [Act.put, List.setIfInBounds_toArray, List.set_cons_zero, List.set_cons_succ, i64_w, i32_w]
        rfl
      refine pure_ (i := 4) (N := some 18) (v := ?_) (a' := ?_) #[true, true, true, true, true, false, false, false, false, false] rfl rfl (by kernel_rfl) (fun _ _ _ h => h) (Or.inl ⟨by rfl, ?_⟩) ?_ ?_
      rotate_left
      · intro w'
        go_simp
        with_reducible rfl
      rotate_left
      · simp only [Act.put, List.setIfInBounds_toArray, List.set_cons_zero, List.set_cons_succ, i64_w, i32_w]
        rfl
      refine take_ (i := 5) (N := some 19) (v := ?_) (a' := ?_) #[true, true, true, true, true, true, false, false, false, false] rfl rfl (by kernel_rfl) (fun _ _ _ h => h) (Or.inl ⟨by rfl, ?_⟩) hHeld ?_ ?_
      rotate_left
      · intro w' s0
        have q_ := pw_cell_below s0 Hx.out
        go_simp
        with_reducible rfl
      rotate_left
      · simp only [Act.put, List.setIfInBounds_toArray, List.set_cons_zero, List.set_cons_succ, i64_w, i32_w]
        rfl
      refine pure_ (i := 6) (N := some 20) (v := ?_) (a' := ?_) #[true, true, true, true, true, true, true, false, false, false] rfl rfl (by kernel_rfl) (fun _ _ _ h => h) (Or.inl ⟨by rfl, ?_⟩) ?_ ?_
      rotate_left
      · intro w'
        go_simp
        with_reducible rfl
      rotate_left
      · simp only [Act.put, List.setIfInBounds_toArray, List.set_cons_zero, List.set_cons_succ, i64_w, i32_w]
        rfl
      refine pure_ (i := 7) (N := some 21) (v := ?_) (a' := ?_) #[true, true, true, true, true, true, true, true, false, false] rfl rfl (by kernel_rfl) (fun _ _ _ h => h) (Or.inl ⟨by rfl, ?_⟩) ?_ ?_
      rotate_left
      · intro w'
        go_simp
        with_reducible rfl
      rotate_left
      · simp only [Act.put, List.setIfInBounds_toArray, List.set_cons_zero, List.set_cons_succ, i64_w, i32_w]
        rfl
      refine one_ (i := 8) (N := some 22) #[true, true, true, true, true, true, true, true, true, false] rfl rfl (by kernel_rfl) (by decide) (fun K hK => ?_)
      refine goes_ Try.func34 (by kernel_rfl) rfl #[.pointer (some ⟨N + 2, 0, none⟩), .int .i64 (Go.bits .and .i64 (rd draws a) 4611686018427387903), .int .i64 n] (by rfl) rfl rfl (by (try simp only [List.map_toArray, List.map_cons, List.map_nil]); first | done | rfl) ?_
      with_reducible refine (digits_rd Hg.out (HS1.out.below hdr_).s0 (by have := (HS1.out.below hdr_).size; omega)).mono ?_
      rintro e w3 ⟨vg, rfl, ho, hb⟩
      refine ⟨_, rfl, ?_⟩
      have HG := Aside0.mk (Kd.R_lower ho (Nat.le_trans HK.out.below.size hdr_.size))
      have HB := Aside0.mk (below_step hdr_ hb)
      have HK2 := Aside0.mk (HK.out.trans (KeepE.of_below HB.out))
      have HS2 := Aside0.mk (HS1.out.below HB.out)
      clear ho hb hdr_
      refine hK.out _ _ (HB.out) (fun hHeld => ?_)
      clear hK K
      refine norm_ (a' := ?_) ?_ ?_
      rotate_left
      · show Act.put _ (some 22) _ = _
        simp only [Act.put, List.setIfInBounds_toArray, List.set_cons_zero, List.set_cons_succ, i64_w, i32_w]
        rfl
      refine pure_ (i := 9) (N := some 7) (v := ?_) (a' := ?_) #[true, true, true, true, true, true, true, true, true, true] rfl rfl (by kernel_rfl) (fun _ _ _ h => h) (Or.inl ⟨by rfl, ?_⟩) ?_ ?_
      rotate_left
      · intro w'
        go_simp
        with_reducible rfl
      rotate_left
      · simp only [Act.put, List.setIfInBounds_toArray, List.set_cons_zero, List.set_cons_succ, i64_w, i32_w]
        rfl
      refine done_ (by kernel_rfl) ?_
      go_wp2
      go_ret
      exact ⟨_, rfl, HG.out, HS2.out, HK2.out⟩
    · rw [if_neg c2] at h
      exact absurd h (by simp)
  · rw [if_neg c1] at h
    replace h := Option.bind_eq_some_iff.mp h; obtain ⟨g', hg, h⟩ := h
    simp only [Option.some.injEq, Prod.mk.injEq] at h
    obtain ⟨rfl, rfl, rfl⟩ := h
    have Hg := Aside0.mk hg
    clear hg
    have c1b : decide (a < (draws.length : Int)) = false := decide_eq_false c1
    have HK := Aside0.mk (KeepE.set (n := N) w (p := ⟨N + 5, 0, none⟩) (.int .i64 (wrap64 (c + 1))) (show SpE N (N + 5) from ⟨by omega, by omega⟩))
    have HS1 := Aside0.mk (HS.out.setC (wrap64 (c + 1)))
    go_enter Try.func33, Try.ntmps33
    go_wp2_with (
      first
      | ((with_reducible refine gate_callee (f := 34) rfl ?_); refine goesL_ (some 31) rfl rfl Try.func34 (by kernel_rfl) rfl #[.pointer (some ⟨N + 2, 0, none⟩), .int .i64 (wrap64 (wrap64 (p - 1) + wrap64 (c + 1))), .int .i64 n] rfl (by (try simp only [List.map_toArray, List.map_cons, List.map_nil]); first | done | rfl) ?_; (with_reducible refine (digits_rd Hg.out HS1.out.s0 (by have := HS1.out.size; omega)).mono ?_); rintro e w3 ⟨vg, rfl, ho, hb⟩; refine ⟨_, rfl, ?_⟩; have HG := Aside0.mk (Kd.R_lower ho HK.out.below.size); have HK2 := Aside0.mk (HK.out.trans (KeepE.of_below hb)); have HS2 := Aside0.mk (HS1.out.below hb); clear ho hb))
    go_ret
    exact ⟨_, rfl, HG.out, HS2.out, HK2.out⟩
end Go.Proofs.Ytiflghgebeadiaa.M
end
section
namespace Go.Proofs.Ytiflghgebeadiaa.M
open Go.RowKit Go.Proofs.YtiflghgebeadiaaW.PrintWords Go.Proofs.YtiflghgebeadiaaW.PrintLast Go.Proofs.YtiflghgebeadiaaW.PrintMore
attribute [local go_sem] max2_int min2_int max_two min_two max_three min_three max_four min_four   -- for this text's walks alone
set_option linter.unusedVariables false
set_option linter.unusedSimpArgs false
theorem SpSt.setO {w : World} {n : Nat} {p a c : Int} {vd vo : Value} (h : SpSt w n p vd a c vo) (vo' : Value) : SpSt (w.setCell ⟨n + 2, 2, none⟩ vo') n p vd a c vo' :=
  ⟨set_old_ _ h.bp (by omega), set_old_ _ h.bd (by omega), setCell_self_ _ h.bs, set_old_ _ h.bx (by omega), set_old_ _ h.ba (by omega), set_old_ _ h.bc (by omega)⟩
theorem R_mv {base n : Nat} {w w' : World} {v : Value} {xs : List Int} (h : Kd.R (Kd.int .i64) 3 w base (fun k => ¬ SpE n k) v xs) (hm : Mv base (SpE n) w w') : Kd.R (Kd.int .i64) 3 w' base (fun k => ¬ SpE n k) v xs := by
  refine Kd.R_mono (Kd.R_move (Kd.R_bound h) (fun k hk => ?_)) (fun k hk => hk.1)
  obtain ⟨h1, h2, h3, q, hq, cells, hc⟩ := hk
  have h4 : q = 3 := by simpa [Kd.int, Kd.scalar] using hq
  subst h4
  exact hm k h3 (.inr ⟨h1, cells, hc⟩)
theorem R_new_sp {base b n : Nat} {w : World} {v : Value} {xs : List Int} (h : Kd.R (Kd.int .i64) 3 w b (fun _ => True) v xs) (h6 : n + 6 ≤ b) (hb : base ≤ n) : Kd.R (Kd.int .i64) 3 w base (fun k => ¬ SpE n k) v xs :=
  Kd.R_lower (Kd.R_mono (Kd.R_bound h) (fun k hk hE => by
    have h1 := hk.2.1
    have h2 := hE.2
    omega)) (by omega)
mutual
def split_equal.f : Nat → Int → List Int → List Int → Int → Int → Int → List (List Int) → Option (Int × Int × List (List Int))
  | 0, _, _, _, _, _, _, _ => none
  | k + 1, p, draws, g, d, a, c, out => if (g.length : Int) - 1 = d then (if out.length < 5864062014805 then some (a, c, out ++ [g]) else none) else split_equal.l0 k p draws g d a c out
def split_equal.l0 : Nat → Int → List Int → List Int → Int → Int → Int → List (List Int) → Option (Int × Int × List (List Int))
  | 0, _, _, _, _, _, _, _ => none
  | k + 1, p, draws, g, d, a, c, out => (split_guess.f k p draws a c ((g.length : Int) - 1)).bind fun s => (split_splitter_test.f k p s.1 g d).bind fun t => (modular_Gcd.f k t g p).bind fun h =>
      if h.length < 2 then split_equal.l0 k p draws g d s.2.1 s.2.2 out else if h.length = g.length then split_equal.l0 k p draws g d s.2.1 s.2.2 out else
        (split_equal.f k p draws h d s.2.1 s.2.2 out).bind fun y => (split_splitter_over.f k p g h).bind fun q => (modular_Monic.f k q p).bind fun m => split_equal.f k p draws m d y.1 y.2.1 y.2.2
end
structure Kp (n : Nat) (w w' : World) (vo vo' : Value) : Prop where
  keep : ∀ k, k < w.heap.size → ¬ SpE n k → some k ≠ vo.ownBlock → w'.heap[k]? = w.heap[k]?
  own : vo'.ownBlock = vo.ownBlock ∨ ∃ b, vo'.ownBlock = some b ∧ w.heap.size ≤ b
theorem Kp.refl (n : Nat) (w : World) (vo : Value) : Kp n w w vo vo := ⟨fun _ _ _ _ => rfl, .inl rfl⟩
theorem Kp.below {n : Nat} {w w' : World} {vo : Value} (h : Below w.heap.size w w') : Kp n w w' vo vo := ⟨fun k hk _ _ => h.block k hk, .inl rfl⟩
theorem Kp.ofKeep {n : Nat} {w w' : World} {vo : Value} (h : KeepE n w w') : Kp n w w' vo vo := ⟨fun k hk hE _ => h.keep k hk hE, .inl rfl⟩
theorem Kp.trans {n : Nat} {w w' w2 : World} {vo vo' vo2 : Value} (h : Kp n w w' vo vo') (hs : w.heap.size ≤ w'.heap.size) (h2 : Kp n w' w2 vo' vo2) : Kp n w w2 vo vo2 := by
  refine ⟨fun k hk hE hne => (h2.keep k (by omega) hE (fun he => ?_)).trans (h.keep k hk hE hne), ?_⟩
  · rcases h.own with e | ⟨b, e, hb⟩
    · exact hne (he.trans e)
    · rw [e] at he
      injection he with he
      omega
  · rcases h2.own with e2 | ⟨b, e2, hb⟩
    · rcases h.own with e | ⟨b, e, hb⟩
      · exact .inl (e2.trans e)
      · exact .inr ⟨b, e2.trans e, hb⟩
    · exact .inr ⟨b, e2, by omega⟩
def EqPost (base N : Nat) (p : Int) (vd vo : Value) (a' c' : Int) (out' : List (List Int)) (w : World) (e : Ending) (w' : World) : Prop :=
  ∃ vo' : Value, Kp N w w' vo vo' ∧ e = .returned (.tuple #[]) ∧ SpSt w' N p vd a' c' vo' ∧ Kd.R (Kd.slice 3 (Kd.int .i64)) 22 w' base (fun k => ¬ SpE N k) vo' out' ∧ Mv base (SpE N) w w' ∧ Below base w w'
set_option maxHeartbeats 8000000 in
set_option maxRecDepth 100000 in
theorem split_equal.calls (k : Nat) : ∀ (p : Int) (draws g : List Int) (d a c a' c' : Int) (out out' : List (List Int)) (vd vg vo : Value) (base N : Nat) (w : World) (hs : SpSt w N p vd a c vo) (hd : RdB base (SpE N) w vd draws) (hN : base ≤ N)
    (hg : Kd.R (Kd.int .i64) 3 w base (fun k => ¬ SpE N k) vg g) (ho : Kd.R (Kd.slice 3 (Kd.int .i64)) 22 w base (fun k => ¬ SpE N k) vo out) (h : split_equal.f k p draws g d a c out = some (a', c', out')),
    Calls Try.prog 19 #[.pointer (some ⟨N + 2, 0, none⟩), vg, .int .i64 d] w (EqPost base N p vd vo a' c' out' w) := by
  induction k using Nat.strongRecOn with
  | _ k ih =>
  intro p draws g d a c a' c' out out' vd vg vo base N w hs hd hN hg ho h
  cases k with
  | zero => exact absurd h (by simp [split_equal.f])
  | succ k =>
  have HS := Aside0.mk hs
  have HD := Aside0.mk hd
  have HG := Aside0.mk hg
  have HO := Aside0.mk ho
  have hmg := (RdI.of_R hg).len
  obtain ⟨Ag, cg, eg⟩ := Kd.R_slice hg
  subst eg
  simp only [split_equal.f] at h
  by_cases c1 : (g.length : Int) - 1 = d
  · rw [if_pos c1] at h
    by_cases c2 : out.length < 5864062014805
    · rw [if_pos c2] at h
      simp only [Option.some.injEq, Prod.mk.injEq] at h
      obtain ⟨rfl, rfl, rfl⟩ := h
      have HL := Aside0.mk c2
      clear c2
      have c1b : (((g.length : Int) - 1) == d) = true := beq_iff_eq.mpr c1
      subst c1
      obtain ⟨Ao, co, eo⟩ := Kd.R_slice ho
      subst eo
      have h1 := hs.s2
      have h2 := hs.f2
      clear hs hd hg ho ih
      go_enter Try.func19, Try.ntmps19
      go_wp2
      go_step3
      go_wp2_with (
        first
        | ((with_reducible refine gate_builtin (b := .append) (xs := #[.tmp 17, .tmp 19]) rfl ?_); at_builtin; refine Kd.R_append (Kd.slice 3 (Kd.int .i64)) (w0 := w) base rfl (.tmp 17) (.tmp 19) 25 22 (.slice none 0 0) 24 rfl Try.underlying25 info22 rfl (by decide) (by omega) (.slice Ao out.length co) out g [.slice Ag g.length cg] (fun k => ¬ SpE N k) (fun k_ => (¬ SpE N k_) ∧ some k_ ≠ (Value.slice Ao out.length co).ownBlock) rfl rfl ?aP (fun _ hk => hk) ?aF ?aO ?aB ?aS ?aL ?_; (case aP => exact ⟨_, rfl, R_not_outer HG.out HO.out⟩); (case aB => exact Below.refl _ _); (case aF => exact (fun k_ hk hE => by have := HS.out.size; have := hE.2; omega)); (case aO => exact HO.out); (case aS => exact Nat.le_trans hN (by have := HS.out.size; omega)); (case aL => have := HL.out; omega); intro vo2 w1 ho hb hg hat; obtain ⟨A1, c1, e1⟩ := Kd.R_slice ho; rw [List.length_append, List.length_singleton] at e1; subst e1; have hm := Mv.row (base := base) (E := SpE N) HO.out (Nat.le_refl _) hg; have HS1 := Aside0.mk (HS.out.move (fun k_ h1_ h2_ => hg.block k_ (by have := HS.out.size; omega) (fun he => HO.out.1 k_ he.symm ⟨h1_, h2_⟩))); have HO1 := Aside0.mk ho; have HB1 := Aside0.mk hb; have HM1 := Aside0.mk hm; have HG1 := Aside0.mk hg; have HA1 := Aside0.mk hat; clear h1 h2; have h1 := HS1.out.s2; have h2 := HS1.out.f2; clear ho hb hg hat hm))
      rw [Exit.noGoto_ret]
      refine bodyPost_ret (results_none rfl _ _ _) rfl ?_
      refine ⟨_, ⟨fun k_ lt_ hE_ ne_ => (Below.heap_setCell _ _ _ _ (fun e_ => hE_ ⟨by subst e_; show N ≤ N + 2; omega, by subst e_; show N + 2 < N + 6; omega⟩)).trans (HG1.out.block k_ lt_ ne_), HA1.out⟩, rfl, HS1.out.setO _, Kd.R_far HO1.out (fun k_ hk => ?_) _, HM1.out.trans HB1.out.size (Mv.set _ (Nat.le_trans hN (Nat.le_add_right _ _)) (.inl ⟨?_, ?_⟩)), HB1.out.setCell (p := ⟨N + 2, 2, none⟩) (Nat.le_trans hN (Nat.le_add_right _ _)) _⟩
      · exact fun e_ => hk ⟨by subst e_; show N ≤ N + 2; omega, by subst e_; show N + 2 < N + 6; omega⟩
      · show N ≤ N + 2; omega
      · show N + 2 < N + 6; omega
    · rw [if_neg c2] at h
      exact absurd h (by simp)
  · rw [if_neg c1] at h
    have c1b : (((g.length : Int) - 1) == d) = false := beq_eq_false_iff_ne.mpr c1
    have H' := Aside0.mk h
    clear hs hd hg ho h
    go_enter Try.func19, Try.ntmps19
    go_wp2
    go_step3
    go_wp2
    try (go_step3; go_wp2)
    go_loopg [6] k (fun kq v6 w' => ∃ (a1 c2 : Int), Aside0 (split_equal.l0 kq p draws g d a1 c2 out = some (a', c', out')) ∧ Aside0 (kq ≤ k) ∧ Aside0 (SpSt w' N p vd a1 c2 vo) ∧ Aside0 (RdB base (SpE N) w' vd draws) ∧ Aside0 (Kd.R (Kd.int .i64) 3 w' base (fun k => ¬ SpE N k) (.slice Ag g.length cg) g) ∧ Aside0 (Kd.R (Kd.slice 3 (Kd.int .i64)) 22 w' base (fun k => ¬ SpE N k) vo out) ∧ Aside0 (Mv base (SpE N) w w') ∧ Aside0 (Below base w w') ∧ Aside0 (Kp N w w' vo vo))
    case atStart => exact ⟨a, c, H', ⟨Nat.le_refl _⟩, HS, HD, HG, HO, ⟨fun _ _ _ => rfl⟩, ⟨Below.refl _ _⟩, ⟨Kp.refl _ _ _⟩⟩
    case round =>
      clear H' HS HD HG HO
      obtain ⟨a1, c2, HA, HK, HS, HD, HG, HO, HM, HB, HP⟩ := hrel
      cases gk with
      | zero => exact absurd HA.out (by simp [split_equal.l0])
      | succ k1 =>
        have H := HA.out
        clear HA
        simp only [split_equal.l0] at H
        replace H := Option.bind_eq_some_iff.mp H; obtain ⟨⟨s, a3, c3⟩, h1, H⟩ := H
        replace H := Option.bind_eq_some_iff.mp H; obtain ⟨t, h2, H⟩ := H
        replace H := Option.bind_eq_some_iff.mp H; obtain ⟨hh, h3, H⟩ := H
        have H1 := Aside0.mk h1
        have H2 := Aside0.mk h2
        have H3 := Aside0.mk h3
        have H' := Aside0.mk H
        clear h1 h2 h3 H
        have q1 := HS.out.s1
        unfold SpFn at q1
        go_wp2_with (
          first
          | (go_at_call 33; go_loud (with_reducible refine (split_guess.calls k1 p draws a1 c2 ((g.length : Int) - 1) a3 c3 s vd vo base N _ HS.out HD.out hN H1.out).mono ?_); rintro e w1 ⟨va, rfl, ho, hs1, hk⟩; have HV := Aside0.mk (RdI.of_R ho); have hm := hk.mv hN; have HD2 := Aside0.mk (HD.out.mv hm); clear HD; have HD := HD2; clear HD2; have HG2 := Aside0.mk (R_mv HG.out hm); clear HG; have HG := HG2; clear HG2; have HO2 := Aside0.mk (Kd.R_step HO.out (fun k_ ok_ lt_ => hk.keep k_ lt_ ok_)); clear HO; have HO := HO2; clear HO2; have HP2 := Aside0.mk (HP.out.trans HB.out.size (Kp.ofKeep hk)); clear HP; have HP := HP2; clear HP2; have HM2 := Aside0.mk (HM.out.trans HB.out.size hm); clear HM; have HM := HM2; clear HM2; have HB2 := Aside0.mk (HB.out.trans (hk.lower hN (Nat.le_trans hN (by have := HS.out.size; omega)))); clear HB; have HB := HB2; clear HB2; clear HS q1; have HS := Aside0.mk hs1; clear ho hs1 hk hm))
        have hdr_ : Below w1.heap.size w1 w1.drew := below_drew1 (Below.refl _ _)
        refine start_ (n := 12) (S := fun w' => w'.cell? ⟨N + 2, 0, none⟩ = some (.int .i64 p)) (ds := []) #[false, false, false, false, false, false, false, false, false, false, false, false] (by kernel_rfl) rfl rfl (HS.out.s0) (fun hHeld => ?_)
        generalize w1.drew = w2 at hdr_ hHeld ⊢
        have hz_ := HB.out.size; have n_ := Aside0.mk (below_then HB.out (Nat.le_trans hN (by have := HS.out.size; omega)) hdr_); clear HB; have HB := n_; clear n_; have n_ := Aside0.mk (HM.out.trans hz_ (Mv.below hdr_)); clear HM; have HM := n_; clear n_; have n_ := Aside0.mk (HP.out.trans hz_ (Kp.below hdr_)); clear HP; have HP := n_; clear n_; have n_ := Aside0.mk (SpSt.below HS.out hdr_); clear HS; have HS := n_; clear n_; have n_ := Aside0.mk (RdB.below HD.out hdr_); clear HD; have HD := n_; clear n_; have n_ := Aside0.mk (Kd.R_below HG.out hdr_); clear HG; have HG := n_; clear n_; have n_ := Aside0.mk (Kd.R_below HO.out hdr_); clear HO; have HO := n_; clear n_; have n_ := Aside0.mk (RdI.below HV.out hdr_); clear HV; have HV := n_; clear n_; clear hz_
        clear hdr_
        refine pure_ (i := 0) (N := some 31) (v := ?_) (a' := ?_) #[true, false, false, false, false, false, false, false, false, false, false, false] rfl rfl (by kernel_rfl) (fun _ _ _ h => h) (Or.inl ⟨by rfl, ?_⟩) ?_ ?_
        rotate_left
        · intro w'
          go_simp
          with_reducible rfl
        rotate_left
        · simp only [Act.put, List.setIfInBounds_toArray, List.set_cons_zero, List.set_cons_succ, i64_w, i32_w]
          rfl
        refine pure_ (i := 1) (N := some 32) (v := ?_) (a' := ?_) #[true, true, false, false, false, false, false, false, false, false, false, false] rfl rfl (by kernel_rfl) (fun _ _ _ h => h) (Or.inl ⟨by rfl, ?_⟩) ?_ ?_
        rotate_left
        · intro w'
          go_simp
          with_reducible rfl
        rotate_left
        · simp only [Act.put, List.setIfInBounds_toArray, List.set_cons_zero, List.set_cons_succ, i64_w, i32_w]
          rfl
        refine pure_ (i := 2) (N := some 33) (v := ?_) (a' := ?_) #[true, true, true, false, false, false, false, false, false, false, false, false] rfl rfl (by kernel_rfl) (fun _ _ _ h => h) (Or.inl ⟨by rfl, ?_⟩) ?_ ?_
        rotate_left
        · intro w'
          go_simp
          with_reducible rfl
        rotate_left
        · simp only [Act.put, List.setIfInBounds_toArray, List.set_cons_zero, List.set_cons_succ, i64_w, i32_w]
          rfl
        refine pure_ (i := 3) (N := some 34) (v := ?_) (a' := ?_) #[true, true, true, true, false, false, false, false, false, false, false, false] rfl rfl (by kernel_rfl) (fun _ _ _ h => h) (Or.inl ⟨by rfl, ?_⟩) ?_ ?_
        rotate_left
        · intro w'
          go_simp
          with_reducible rfl
        rotate_left
        · simp only [Act.put, List.setIfInBounds_toArray, List.set_cons_zero, List.set_cons_succ, i64_w, i32_w]
          rfl
        refine pure_ (i := 5) (N := some 36) (v := ?_) (a' := ?_) #[true, true, true, true, false, true, false, false, false, false, false, false] rfl rfl (by kernel_rfl) (fun _ _ _ h => h) (Or.inl ⟨by rfl, ?_⟩) ?_ ?_
        rotate_left
        · intro w'
          go_simp
          with_reducible rfl
        rotate_left
        · simp only [Act.put, List.setIfInBounds_toArray, List.set_cons_zero, List.set_cons_succ, i64_w, i32_w]
          rfl
        refine pure_ (i := 6) (N := some 37) (v := ?_) (a' := ?_) #[true, true, true, true, false, true, true, false, false, false, false, false] rfl rfl (by kernel_rfl) (fun _ _ _ h => h) (Or.inl ⟨by rfl, ?_⟩) ?_ ?_
        rotate_left
        · intro w'
          go_simp
          with_reducible rfl
        rotate_left
        · simp only [Act.put, List.setIfInBounds_toArray, List.set_cons_zero, List.set_cons_succ, i64_w, i32_w]
          rfl
        refine pure_ (i := 7) (N := some 38) (v := ?_) (a' := ?_) #[true, true, true, true, false, true, true, true, false, false, false, false] rfl rfl (by kernel_rfl) (fun _ _ _ h => h) (Or.inl ⟨by rfl, ?_⟩) ?_ ?_
        rotate_left
        · intro w'
          go_simp
          with_reducible rfl
        rotate_left
        · simp only [Act.put, List.setIfInBounds_toArray, List.set_cons_zero, List.set_cons_succ, i64_w, i32_w]
          rfl
        refine pure_ (i := 8) (N := some 39) (v := ?_) (a' := ?_) #[true, true, true, true, false, true, true, true, true, false, false, false] rfl rfl (by kernel_rfl) (fun _ _ _ h => h) (Or.inl ⟨by rfl, ?_⟩) ?_ ?_
        rotate_left
        · intro w'
          go_simp
          with_reducible rfl
        rotate_left
        · simp only [Act.put, List.setIfInBounds_toArray, List.set_cons_zero, List.set_cons_succ, i64_w, i32_w]
          rfl
        refine take_ (i := 9) (N := some 40) (v := ?_) (a' := ?_) #[true, true, true, true, false, true, true, true, true, true, false, false] rfl rfl (by kernel_rfl) (fun _ _ _ h => h) (Or.inl ⟨by rfl, ?_⟩) hHeld ?_ ?_
        rotate_left
        · intro w' s0
          go_simp
          with_reducible rfl
        rotate_left
        · simp only [Act.put, List.setIfInBounds_toArray, List.set_cons_zero, List.set_cons_succ, i64_w, i32_w]
          rfl
        refine one_ (i := 4) (N := some 35) #[true, true, true, true, true, true, true, true, true, true, false, false] rfl rfl (by kernel_rfl) (by decide) (fun K hK => ?_)
        refine goes_ Try.func40 (by kernel_rfl) rfl #[.pointer (some ⟨N + 2, 0, none⟩), va, .slice Ag g.length cg, .int .i64 d] (by rfl) rfl rfl (by (try simp only [List.map_toArray, List.map_cons, List.map_nil]); first | done | rfl) ?_
        with_reducible refine (test_rd H2.out HS.out.s0 (by have := HS.out.size; omega) HV.out (RdI.of_R HG.out)).mono ?_
        rintro e w3 ⟨vt, rfl, ho, hb⟩
        refine ⟨_, rfl, ?_⟩
        have HT := Aside0.mk (RdI.of_R ho)
        have hz_ := HB.out.size; have n_ := Aside0.mk (below_then HB.out (Nat.le_trans hN (by have := HS.out.size; omega)) hb); clear HB; have HB := n_; clear n_; have n_ := Aside0.mk (HM.out.trans hz_ (Mv.below hb)); clear HM; have HM := n_; clear n_; have n_ := Aside0.mk (HP.out.trans hz_ (Kp.below hb)); clear HP; have HP := n_; clear n_; have n_ := Aside0.mk (SpSt.below HS.out hb); clear HS; have HS := n_; clear n_; have n_ := Aside0.mk (RdB.below HD.out hb); clear HD; have HD := n_; clear n_; have n_ := Aside0.mk (Kd.R_below HG.out hb); clear HG; have HG := n_; clear n_; have n_ := Aside0.mk (Kd.R_below HO.out hb); clear HO; have HO := n_; clear n_; clear hz_
        clear ho hb
        refine hK.out _ _ (HS.out.s0) (fun hHeld => ?_)
        clear hK K
        refine norm_ (a' := ?_) ?_ ?_
        rotate_left
        · show Act.put _ (some 35) _ = _
          simp only [Act.put, List.setIfInBounds_toArray, List.set_cons_zero, List.set_cons_succ, i64_w, i32_w]
          rfl
        refine one_ (i := 10) (N := some 41) #[true, true, true, true, true, true, true, true, true, true, true, false] rfl rfl (by kernel_rfl) (by decide) (fun K hK => ?_)
        refine goes_ Try.func37 (by kernel_rfl) rfl #[vt, .slice Ag g.length cg, .int .i64 p] (by rfl) rfl rfl (by (try simp only [List.map_toArray, List.map_cons, List.map_nil]); first | done | rfl) ?_
        with_reducible refine (gcd_rd H3.out HT.out (RdI.of_R HG.out)).mono ?_
        rintro e w4 ⟨vh, rfl, ho, hb⟩
        refine ⟨_, rfl, ?_⟩
        have HH := Aside0.mk (R_new_sp ho HS.out.size hN)
        have hz_ := HB.out.size; have n_ := Aside0.mk (below_then HB.out (Nat.le_trans hN (by have := HS.out.size; omega)) hb); clear HB; have HB := n_; clear n_; have n_ := Aside0.mk (HM.out.trans hz_ (Mv.below hb)); clear HM; have HM := n_; clear n_; have n_ := Aside0.mk (HP.out.trans hz_ (Kp.below hb)); clear HP; have HP := n_; clear n_; have n_ := Aside0.mk (SpSt.below HS.out hb); clear HS; have HS := n_; clear n_; have n_ := Aside0.mk (RdB.below HD.out hb); clear HD; have HD := n_; clear n_; have n_ := Aside0.mk (Kd.R_below HG.out hb); clear HG; have HG := n_; clear n_; have n_ := Aside0.mk (Kd.R_below HO.out hb); clear HO; have HO := n_; clear n_; clear hz_
        clear ho hb
        refine hK.out _ _ (HS.out.s0) (fun hHeld => ?_)
        clear hK K
        refine norm_ (a' := ?_) ?_ ?_
        rotate_left
        · show Act.put _ (some 41) _ = _
          simp only [Act.put, List.setIfInBounds_toArray, List.set_cons_zero, List.set_cons_succ, i64_w, i32_w]
          rfl
        refine pure_ (i := 11) (N := some 7) (v := ?_) (a' := ?_) #[true, true, true, true, true, true, true, true, true, true, true, true] rfl rfl (by kernel_rfl) (fun _ _ _ h => h) (Or.inl ⟨by rfl, ?_⟩) ?_ ?_
        rotate_left
        · intro w'
          go_simp
          with_reducible rfl
        rotate_left
        · simp only [Act.put, List.setIfInBounds_toArray, List.set_cons_zero, List.set_cons_succ, i64_w, i32_w]
          rfl
        refine done_ (by kernel_rfl) ?_
        have H := H'.out
        clear H' H1 H2 H3
        obtain ⟨Ah, ch, eh⟩ := Kd.R_slice HH.out
        subst eh
        have hmh := (RdI.of_R HH.out).len
        by_cases c4 : hh.length < 2
        · rw [if_pos c4] at H
          have c4b : decide ((hh.length : Int) < 2) = true := decide_eq_true (by omega)
          have c4c : decide (hh.length < 2) = true := decide_eq_true c4
          clear c4
          have H' := Aside0.mk H
          clear H
          go_wp2
          go_roundg k1
          case measure => have := HK.out; omega
          case rel => exact ⟨a3, c3, H', ⟨by have := HK.out; omega⟩, HS, HD, HG, HO, HM, HB, HP⟩
        · rw [if_neg c4] at H
          have c4b : decide ((hh.length : Int) < 2) = false := decide_eq_false (by omega)
          have c4c : decide (hh.length < 2) = false := decide_eq_false c4
          clear c4
          by_cases c5 : hh.length = g.length
          · rw [if_pos c5] at H
            have c5b : ((hh.length : Int) == (g.length : Int)) = true := beq_iff_eq.mpr (by omega)
            have c5c : (hh.length == g.length) = true := beq_iff_eq.mpr c5
            have H' := Aside0.mk H
            clear H c5
            go_wp2
            go_roundg k1
            case measure => have := HK.out; omega
            case rel => exact ⟨a3, c3, H', ⟨by have := HK.out; omega⟩, HS, HD, HG, HO, HM, HB, HP⟩
          · rw [if_neg c5] at H
            have c5b : ((hh.length : Int) == (g.length : Int)) = false := beq_eq_false_iff_ne.mpr (by omega)
            have c5c : (hh.length == g.length) = false := beq_eq_false_iff_ne.mpr c5
            clear c5
            replace H := Option.bind_eq_some_iff.mp H; obtain ⟨⟨a4, c6, out2⟩, h4, H⟩ := H
            replace H := Option.bind_eq_some_iff.mp H; obtain ⟨q, h5, H⟩ := H
            replace H := Option.bind_eq_some_iff.mp H; obtain ⟨m, h6, H⟩ := H
            have H4 := Aside0.mk h4
            have H5 := Aside0.mk h5
            have H6 := Aside0.mk h6
            have H7 := Aside0.mk H
            have IH1 := Aside0.mk (ih k1 (by have := HK.out; omega))
            clear h4 h5 h6 H ih
            go_wp2_with (
              first
              | ((with_reducible refine gate_callee (f := 19) rfl ?_); refine goesL_ (some 55) rfl rfl Try.func19 (by kernel_rfl) rfl #[.pointer (some ⟨N + 2, 0, none⟩), .slice Ah hh.length ch, .int .i64 d] rfl (by (try simp only [List.map_toArray, List.map_cons, List.map_nil]); first | done | rfl) ?_; (with_reducible refine (IH1.out p draws hh d a3 c3 a4 c6 out out2 vd (.slice Ah hh.length ch) vo base N _ HS.out HD.out hN HH.out HO.out H4.out).mono ?_); rintro e w5 ⟨vo2, hkp, rfl, hs1, ho1, hm, hb⟩; refine ⟨_, rfl, ?_⟩; have HP2 := Aside0.mk (HP.out.trans HB.out.size hkp); clear HP; have HP := HP2; clear HP2 hkp; have HD2 := Aside0.mk (HD.out.mv hm); clear HD; have HD := HD2; clear HD2; have HG2 := Aside0.mk (R_mv HG.out hm); clear HG; have HG := HG2; clear HG2; have HH2 := Aside0.mk (R_mv HH.out hm); clear HH; have HH := HH2; clear HH2; have HM2 := Aside0.mk (HM.out.trans HB.out.size hm); clear HM; have HM := HM2; clear HM2; have HB2 := Aside0.mk (HB.out.trans hb); clear HB; have HB := HB2; clear HB2; clear HS; have HS := Aside0.mk hs1; clear HO; have HO := Aside0.mk ho1; clear hs1 ho1 hm hb))
            have hdr_ : Below w5.heap.size w5 w5.drew := below_drew1 (Below.refl _ _)
            refine start_ (n := 12) (S := fun w' => w'.cell? ⟨N + 2, 0, none⟩ = some (.int .i64 p)) (ds := []) #[false, false, false, false, false, false, false, false, false, false, false, false] (by kernel_rfl) rfl rfl (HS.out.s0) (fun hHeld => ?_)
            generalize w5.drew = w6 at hdr_ hHeld ⊢
            have hz_ := HB.out.size; have n_ := Aside0.mk (below_then HB.out (Nat.le_trans hN (by have := HS.out.size; omega)) hdr_); clear HB; have HB := n_; clear n_; have n_ := Aside0.mk (HM.out.trans hz_ (Mv.below hdr_)); clear HM; have HM := n_; clear n_; have n_ := Aside0.mk (HP.out.trans hz_ (Kp.below hdr_)); clear HP; have HP := n_; clear n_; have n_ := Aside0.mk (SpSt.below HS.out hdr_); clear HS; have HS := n_; clear n_; have n_ := Aside0.mk (RdB.below HD.out hdr_); clear HD; have HD := n_; clear n_; have n_ := Aside0.mk (Kd.R_below HG.out hdr_); clear HG; have HG := n_; clear n_; have n_ := Aside0.mk (Kd.R_below HO.out hdr_); clear HO; have HO := n_; clear n_; have n_ := Aside0.mk (Kd.R_below HH.out hdr_); clear HH; have HH := n_; clear n_; clear hz_
            clear hdr_
            refine pure_ (i := 0) (N := some 56) (v := ?_) (a' := ?_) #[true, false, false, false, false, false, false, false, false, false, false, false] rfl rfl (by kernel_rfl) (fun _ _ _ h => h) (Or.inl ⟨by rfl, ?_⟩) ?_ ?_
            rotate_left
            · intro w'
              go_simp
              with_reducible rfl
            rotate_left
            · simp only [Act.put, List.setIfInBounds_toArray, List.set_cons_zero, List.set_cons_succ, i64_w, i32_w]
              rfl
            refine pure_ (i := 1) (N := some 57) (v := ?_) (a' := ?_) #[true, true, false, false, false, false, false, false, false, false, false, false] rfl rfl (by kernel_rfl) (fun _ _ _ h => h) (Or.inl ⟨by rfl, ?_⟩) ?_ ?_
            rotate_left
            · intro w'
              go_simp
              with_reducible rfl
            rotate_left
            · simp only [Act.put, List.setIfInBounds_toArray, List.set_cons_zero, List.set_cons_succ, i64_w, i32_w]
              rfl
            refine pure_ (i := 2) (N := some 58) (v := ?_) (a' := ?_) #[true, true, true, false, false, false, false, false, false, false, false, false] rfl rfl (by kernel_rfl) (fun _ _ _ h => h) (Or.inl ⟨by rfl, ?_⟩) ?_ ?_
            rotate_left
            · intro w'
              go_simp
              with_reducible rfl
            rotate_left
            · simp only [Act.put, List.setIfInBounds_toArray, List.set_cons_zero, List.set_cons_succ, i64_w, i32_w]
              rfl
            refine pure_ (i := 3) (N := some 59) (v := ?_) (a' := ?_) #[true, true, true, true, false, false, false, false, false, false, false, false] rfl rfl (by kernel_rfl) (fun _ _ _ h => h) (Or.inl ⟨by rfl, ?_⟩) ?_ ?_
            rotate_left
            · intro w'
              go_simp
              with_reducible rfl
            rotate_left
            · simp only [Act.put, List.setIfInBounds_toArray, List.set_cons_zero, List.set_cons_succ, i64_w, i32_w]
              rfl
            refine pure_ (i := 5) (N := some 61) (v := ?_) (a' := ?_) #[true, true, true, true, false, true, false, false, false, false, false, false] rfl rfl (by kernel_rfl) (fun _ _ _ h => h) (Or.inl ⟨by rfl, ?_⟩) ?_ ?_
            rotate_left
            · intro w'
              go_simp
              with_reducible rfl
            rotate_left
            · simp only [Act.put, List.setIfInBounds_toArray, List.set_cons_zero, List.set_cons_succ, i64_w, i32_w]
              rfl
            refine pure_ (i := 6) (N := some 62) (v := ?_) (a' := ?_) #[true, true, true, true, false, true, true, false, false, false, false, false] rfl rfl (by kernel_rfl) (fun _ _ _ h => h) (Or.inl ⟨by rfl, ?_⟩) ?_ ?_
            rotate_left
            · intro w'
              go_simp
              with_reducible rfl
            rotate_left
            · simp only [Act.put, List.setIfInBounds_toArray, List.set_cons_zero, List.set_cons_succ, i64_w, i32_w]
              rfl
            refine pure_ (i := 7) (N := some 63) (v := ?_) (a' := ?_) #[true, true, true, true, false, true, true, true, false, false, false, false] rfl rfl (by kernel_rfl) (fun _ _ _ h => h) (Or.inl ⟨by rfl, ?_⟩) ?_ ?_
            rotate_left
            · intro w'
              go_simp
              with_reducible rfl
            rotate_left
            · simp only [Act.put, List.setIfInBounds_toArray, List.set_cons_zero, List.set_cons_succ, i64_w, i32_w]
              rfl
            refine take_ (i := 8) (N := some 64) (v := ?_) (a' := ?_) #[true, true, true, true, false, true, true, true, true, false, false, false] rfl rfl (by kernel_rfl) (fun _ _ _ h => h) (Or.inl ⟨by rfl, ?_⟩) hHeld ?_ ?_
            rotate_left
            · intro w' s0
              go_simp
              with_reducible rfl
            rotate_left
            · simp only [Act.put, List.setIfInBounds_toArray, List.set_cons_zero, List.set_cons_succ, i64_w, i32_w]
              rfl
            refine pure_ (i := 10) (N := some 66) (v := ?_) (a' := ?_) #[true, true, true, true, false, true, true, true, true, false, true, false] rfl rfl (by kernel_rfl) (fun _ _ _ h => h) (Or.inl ⟨by rfl, ?_⟩) ?_ ?_
            rotate_left
            · intro w'
              go_simp
              with_reducible rfl
            rotate_left
            · simp only [Act.put, List.setIfInBounds_toArray, List.set_cons_zero, List.set_cons_succ, i64_w, i32_w]
              rfl
            refine one_ (i := 4) (N := some 60) #[true, true, true, true, true, true, true, true, true, false, true, false] rfl rfl (by kernel_rfl) (by decide) (fun K hK => ?_)
            refine goes_ Try.func39 (by kernel_rfl) rfl #[.pointer (some ⟨N + 2, 0, none⟩), .slice Ag g.length cg, .slice Ah hh.length ch] (by rfl) rfl rfl (by (try simp only [List.map_toArray, List.map_cons, List.map_nil]); first | done | rfl) ?_
            with_reducible refine (over_rd H5.out HS.out.s0 (by have := HS.out.size; omega) (RdI.of_R HG.out) (RdI.of_R HH.out)).mono ?_
            rintro e w7 ⟨vq, rfl, ho, hb⟩
            refine ⟨_, rfl, ?_⟩
            have HQ := Aside0.mk (RdI.of_R ho)
            have hz_ := HB.out.size; have n_ := Aside0.mk (below_then HB.out (Nat.le_trans hN (by have := HS.out.size; omega)) hb); clear HB; have HB := n_; clear n_; have n_ := Aside0.mk (HM.out.trans hz_ (Mv.below hb)); clear HM; have HM := n_; clear n_; have n_ := Aside0.mk (HP.out.trans hz_ (Kp.below hb)); clear HP; have HP := n_; clear n_; have n_ := Aside0.mk (SpSt.below HS.out hb); clear HS; have HS := n_; clear n_; have n_ := Aside0.mk (RdB.below HD.out hb); clear HD; have HD := n_; clear n_; have n_ := Aside0.mk (Kd.R_below HG.out hb); clear HG; have HG := n_; clear n_; have n_ := Aside0.mk (Kd.R_below HO.out hb); clear HO; have HO := n_; clear n_; have n_ := Aside0.mk (Kd.R_below HH.out hb); clear HH; have HH := n_; clear n_; clear hz_
            clear ho hb
            refine hK.out _ _ (HS.out.s0) (fun hHeld => ?_)
            clear hK K
            refine norm_ (a' := ?_) ?_ ?_
            rotate_left
            · show Act.put _ (some 60) _ = _
              simp only [Act.put, List.setIfInBounds_toArray, List.set_cons_zero, List.set_cons_succ, i64_w, i32_w]
              rfl
            refine one_ (i := 9) (N := some 65) #[true, true, true, true, true, true, true, true, true, true, true, false] rfl rfl (by kernel_rfl) (by decide) (fun K hK => ?_)
            refine goes_ Try.func32 (by kernel_rfl) rfl #[vq, .int .i64 p] (by rfl) rfl rfl (by (try simp only [List.map_toArray, List.map_cons, List.map_nil]); first | done | rfl) ?_
            with_reducible refine (monic_rd H6.out HQ.out).mono ?_
            rintro e w8 ⟨vm, rfl, ho, hb⟩
            refine ⟨_, rfl, ?_⟩
            have HN := Aside0.mk (R_new_sp ho HS.out.size hN)
            have hz_ := HB.out.size; have n_ := Aside0.mk (below_then HB.out (Nat.le_trans hN (by have := HS.out.size; omega)) hb); clear HB; have HB := n_; clear n_; have n_ := Aside0.mk (HM.out.trans hz_ (Mv.below hb)); clear HM; have HM := n_; clear n_; have n_ := Aside0.mk (HP.out.trans hz_ (Kp.below hb)); clear HP; have HP := n_; clear n_; have n_ := Aside0.mk (SpSt.below HS.out hb); clear HS; have HS := n_; clear n_; have n_ := Aside0.mk (RdB.below HD.out hb); clear HD; have HD := n_; clear n_; have n_ := Aside0.mk (Kd.R_below HG.out hb); clear HG; have HG := n_; clear n_; have n_ := Aside0.mk (Kd.R_below HO.out hb); clear HO; have HO := n_; clear n_; clear hz_
            clear ho hb
            refine hK.out _ _ (HS.out.s0) (fun hHeld => ?_)
            clear hK K
            refine norm_ (a' := ?_) ?_ ?_
            rotate_left
            · show Act.put _ (some 65) _ = _
              simp only [Act.put, List.setIfInBounds_toArray, List.set_cons_zero, List.set_cons_succ, i64_w, i32_w]
              rfl
            refine one_ (i := 11) (N := some 67) #[true, true, true, true, true, true, true, true, true, true, true, true] rfl rfl (by kernel_rfl) (by decide) (fun K hK => ?_)
            refine goes_ Try.func19 (by kernel_rfl) rfl #[.pointer (some ⟨N + 2, 0, none⟩), vm, .int .i64 d] (by rfl) rfl rfl (by (try simp only [List.map_toArray, List.map_cons, List.map_nil]); first | done | rfl) ?_
            with_reducible refine (IH1.out p draws m d a4 c6 a' c' out2 out' vd vm vo2 base N _ HS.out HD.out hN HN.out HO.out H7.out).mono ?_
            rintro e w9 ⟨vo3, hkp, rfl, hs1, ho1, hm, hb⟩
            refine ⟨_, rfl, ?_⟩
            have HP2 := Aside0.mk (HP.out.trans HB.out.size hkp)
            have HM2 := Aside0.mk (HM.out.trans HB.out.size hm)
            have HB2 := Aside0.mk (HB.out.trans hb)
            have HS1 := Aside0.mk hs1
            have HO1 := Aside0.mk ho1
            clear hs1 ho1 hm hb
            refine hK.out _ _ (HS1.out.s0) (fun hHeld => ?_)
            clear hK K
            refine norm_ (a' := ?_) ?_ ?_
            rotate_left
            · show Act.put _ (some 67) _ = _
              simp only [Act.put, List.setIfInBounds_toArray, List.set_cons_zero, List.set_cons_succ, i64_w, i32_w]
              rfl
            refine done_ (by kernel_rfl) ?_
            try go_wp2
            rw [Exit.noGoto_ret]
            refine bodyPost_ret (results_none rfl _ _ _) rfl ?_
            exact ⟨_, HP2.out, rfl, HS1.out, HO1.out, HM2.out, HB2.out⟩
end Go.Proofs.Ytiflghgebeadiaa.M
end
