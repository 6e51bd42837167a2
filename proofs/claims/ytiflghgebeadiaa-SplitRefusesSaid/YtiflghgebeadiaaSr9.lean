/- Part 9 of this claim's texts, written by slim.py, a program of this claim's writer, out of its own texts and of what the kit's print wrote for this seat: rows that this claim does not need are left out. -/
import Derived.Test.YtiflghgebeadiaaSr3
import Derived.Test.YtiflghgebeadiaaSr7
import Derived.Test.YtiflghgebeadiaaSr8
section
namespace Go.Proofs.Ytiflghgebeadiaa.M
open Go.Shelf Go.RowKit Go.Sort Go.Proofs.YtiflghgebeadiaaW.PrintWords Go.Proofs.YtiflghgebeadiaaW.PrintLast Go.Proofs.YtiflghgebeadiaaW.PrintMore
set_option linter.unusedVariables false
set_option linter.unusedSimpArgs false
def Elt (w : World) (base : Nat) (ok : Nat → Prop) : Type := { x : (Option Addr × Nat) × List Int // Kd.R (Kd.int .i64) 3 w base ok (.slice x.1.1 x.2.length x.1.2) x.2 }
instance (w : World) (base : Nat) (ok : Nat → Prop) : Inhabited (Elt w base ok) := ⟨⟨((none, 0), []), Kd.R_nil _ _ _ _ _⟩⟩
def eltV {w : World} {base : Nat} {ok : Nat → Prop} (x : Elt w base ok) : Value := .slice x.1.1.1 x.1.2.length x.1.1.2
def eltMk {w : World} {base : Nat} {ok : Nat → Prop} {A : Option Addr} {c : Nat} {p : List Int} (h : Kd.R (Kd.int .i64) 3 w base ok (.slice A p.length c) p) : Elt w base ok := ⟨((A, c), p), h⟩
def eltL {w : World} {base : Nat} {ok : Nat → Prop} (x : Elt w base ok) : List Int := x.1.2
theorem extract_all {α : Type} (d : Array α) (n : Nat) (h : n = d.size) : d.extract 0 n = d := by subst h; simp
theorem elts_of {w : World} {base : Nat} {ok : Nat → Prop} : ∀ (out : List (List Int)) (inner : List Value), Reps ((Kd.slice 3 (Kd.int .i64)).M w base ok) 1 out inner → ∃ ds : List (Elt w base ok), ds.map eltV = inner ∧ ds.map eltL = out
  | [], inner, h => by
    have : inner = [] := List.length_eq_zero_iff.1 (by simpa using h.1)
    exact ⟨[], by simp [this], rfl⟩
  | p :: ps, inner, h => by
    have hl := h.1
    simp only [List.length_cons, Nat.mul_one] at hl
    match inner, hl with
    | u :: us, hl =>
      obtain ⟨v, hv, hR⟩ := h.2 0 p rfl
      simp only [Nat.zero_mul, List.drop_zero, List.take_succ_cons, List.take_zero, List.cons.injEq, and_true] at hv
      subst hv
      obtain ⟨ds, h1, h2⟩ := elts_of ps us ⟨by simpa using hl, fun j q hq => by
        have := h.2 (j + 1) q (by simpa using hq)
        simpa using this⟩
      obtain ⟨A, c, rfl⟩ := Kd.R_slice hR
      exact ⟨eltMk hR :: ds, by rw [List.map_cons, h1]; rfl, by rw [List.map_cons, h2]; rfl⟩
theorem reps_of {w w' : World} {base : Nat} {ok : Nat → Prop} (hm : ∀ k, ok k → k < w.heap.size → w'.heap[k]? = w.heap[k]?) : ∀ ds : List (Elt w base ok), Reps ((Kd.slice 3 (Kd.int .i64)).M w' base ok) 1 (ds.map eltL) (ds.map eltV)
  | [] => Reps.none _ _
  | x :: xs => by
    obtain ⟨h1, h2⟩ := reps_of hm xs
    refine ⟨by simp, fun j p hj => ?_⟩
    cases j with
    | zero =>
      simp only [List.map_cons, List.getElem?_cons_zero, Option.some.injEq] at hj
      subst hj
      exact ⟨eltV x, by simp, Kd.R_step x.2 hm⟩
    | succ j =>
      simp only [List.map_cons, List.getElem?_cons_succ] at hj
      have := h2 j p hj
      simpa using this
section
variable {α : Type} [Inhabited α]
theorem sortWorld_keep (enc : α → Value) (w : World) (blk n : Nat) (d : Array α) (os : Array Obj) {k : Nat} (hk : k < w.heap.size) (hne : k ≠ blk) : (sortWorld enc w blk 0 n d os).heap[k]? = w.heap[k]? := by
  unfold sortWorld
  rw [heap_grow_old _ _ (by simpa using hk)]
  simp only [putRow, mapBlock, Array.getElem?_modify]
  rw [if_neg (Ne.symm hne)]
  rfl
theorem sortWorld_row (enc : α → Value) (w : World) (blk n : Nat) (d : Array α) (os : Array Obj) {cur : Array Value} {e : TypeId} {fr : Nat × Nat} (h : w.heap[blk]? = some (.cells cur e fr)) : (sortWorld enc w blk 0 n d os).heap[blk]? = some (.cells (putCells enc 0 d cur) e fr) := by
  unfold sortWorld
  rw [heap_grow_old _ _ (by simpa using heap_lt_ h)]
  simp only [putRow, mapBlock, Array.getElem?_modify]
  rw [if_pos trivial]
  show Option.map _ w.heap[blk]? = _
  rw [h]
  rfl
theorem sortWorld_size (enc : α → Value) (w : World) (blk n : Nat) (d : Array α) (os : Array Obj) : w.heap.size ≤ (sortWorld enc w blk 0 n d os).heap.size := by
  unfold sortWorld
  simp
theorem putCells_take (enc : α → Value) (d : Array α) (cur : Array Value) (h : d.size ≤ cur.size) : (putCells enc 0 d cur).toList.take d.size = d.toList.map enc := by
  apply List.ext_getElem?
  intro i
  by_cases hi : i < d.size
  · have h1 : i < cur.size := by omega
    rw [List.getElem?_take_of_lt hi, List.getElem?_map]
    simp only [putCells, Array.getElem?_toList, Array.getElem?_mapIdx]
    rw [Array.getElem?_eq_getElem h1, Array.getElem?_eq_getElem hi]
    simp only [Option.map_some, Nat.zero_le, Nat.zero_add, true_and, if_pos hi, Nat.sub_zero]
    rw [getElem!_pos d i hi]
  · rw [List.getElem?_take_eq_none (by omega), List.getElem?_map, List.getElem?_eq_none (by simpa using hi)]
    rfl
end
theorem split_sort.calls (base : Nat) (ok : Nat → Prop) (vo : Value) (out : List (List Int)) (w : World) (HO : Kd.R (Kd.slice 3 (Kd.int .i64)) 22 w base ok vo out) (hb : ∃ b, vo.ownBlock = some b) (hsz : out.length < 4611686018427387904) :
    Calls Try.prog 21 #[vo, .func (.func 22) #[] #[]] w fun e w' => e = .returned (.tuple #[]) ∧ ∃ out', out'.Perm out ∧ List.Pairwise (fun x y => ltL y x = false) out' ∧ Kd.R (Kd.slice 3 (Kd.int .i64)) 22 w' base ok vo out' ∧ Below base w w' := by
  obtain ⟨h0, inner, hown, hrep⟩ := HO
  rcases hown.2 with ⟨rfl, _⟩ | ⟨g, cap, cur, rfl, hg, hh, hn, hcap, hcur, htake⟩
  · obtain ⟨b, hb⟩ := hb
    simp [Value.ownBlock] at hb
  · obtain ⟨ds, e1, e2⟩ := elts_of out inner hrep
    have hlen : ds.length = out.length := by have h_ := congrArg List.length e2; rwa [List.length_map] at h_
    have hdsz : ds.toArray.size = out.length := by simpa using hlen
    have hgw : g < w.heap.size := heap_lt_ hh
    have hH : Holds eltV w g 0 ds.toArray := by
      intro j hj
      have hj' : j < ds.length := by simpa using hj
      have hc : cur[j]? = some (eltV ds.toArray[j]!) := by
        have h1 : (cur.toList.take (out.length * (Kd.slice 3 (Kd.int .i64)).sz))[j]? = (ds.map eltV)[j]? := by rw [htake, e1]
        have h2 : j < out.length * (Kd.slice 3 (Kd.int .i64)).sz := by show j < out.length * 1; omega
        rw [List.getElem?_take_of_lt h2, List.getElem?_map, List.getElem?_eq_getElem hj'] at h1
        rw [getElem!_pos ds.toArray j hj]
        simpa using h1
      constructor
      · simp [World.cell?, hh, hc]
      · simp [World.frozen?, hh]
    have hcmp : CmpReads Try.prog 22 #[] eltV (fun x y : Elt w base (fun k => ok k ∧ some k ≠ (Value.slice (some ⟨g, 0, none⟩) out.length cap).ownBlock) => cmpL (eltL x) (eltL y)) g 0 ds.toArray.size w := by
      intro m os dk hdk x y
      have hm : ∀ k, (ok k ∧ some k ≠ (Value.slice (some ⟨g, 0, none⟩) out.length cap).ownBlock) → k < w.heap.size → (sortWorld eltV w g 0 m dk os).heap[k]? = w.heap[k]? := fun k hk hlt => sortWorld_keep _ _ _ _ _ _ hlt (fun he => hk.2 (by subst he; rfl))
      have hx := Kd.R_reads' (Kd.R_step x.2 hm)
      have hy := Kd.R_reads' (Kd.R_step y.2 hm)
      have := split_compare.calls _ x.1.1.1 x.1.1.2 x.1.2 y.1.1.1 y.1.1.2 y.1.2 _ (sortWorld eltV w g 0 m dk os) hx.2.2 hx.2.1 hy.2.2 hy.2.1 (compare_is x.1.2 y.1.2 hx.2.2.2.1)
      exact this.mono fun e w' h => ⟨h.1, h.2.out⟩
    have hO : SWO (ltOf (fun x y : Elt w base (fun k => ok k ∧ some k ≠ (Value.slice (some ⟨g, 0, none⟩) out.length cap).ownBlock) => cmpL (eltL x) (eltL y))) := ⟨fun x => ltL_swo.irrefl _, fun x y z => ltL_swo.trans _ _ _, fun x y z => ltL_swo.ntrans _ _ _⟩
    have hcon := Any.slices_SortFunc sortL eltV (fun _ => rfl) _ hO 22 #[] g 0 cap ds.toArray w (fun args w => enters_ Try.func22 (by kernel_rfl) rfl args w) hcmp.lays hH hgw (by rw [hdsz]; exact hsz)
    change Calls Try.prog 21 _ _ _ at hcon
    rw [hdsz] at hcon
    refine hcon.mono ?_
    rintro e w' ⟨rfl, d', n, os, hp, hs, rfl⟩
    obtain ⟨hp1, hp2, hp3⟩ := hp
    have hp4 : d'.toList.Perm ds := by
      have a1 : d'.extract 0 out.length = d' := extract_all d' _ (hdsz.symm.trans hp1.symm)
      have a2 : ds.toArray.extract 0 out.length = ds.toArray := extract_all ds.toArray _ hdsz.symm
      rw [a1, a2] at hp3
      simpa using hp3
    have hd' : d'.size = out.length := by rw [hp1, hdsz]
    refine ⟨rfl, d'.toList.map eltL, ?_, ?_, ⟨h0, d'.toList.map eltV, ⟨?_, .inr ⟨g, cap, putCells eltV 0 d' cur, ?_, hg, sortWorld_row _ _ _ _ _ _ hh, ?_, hcap, ?_, ?_⟩⟩, ?_⟩, ⟨rfl, rfl, rfl, ?_, ?_⟩⟩
    · rw [← e2]; exact hp4.map _
    · rw [List.pairwise_map, List.pairwise_iff_getElem]
      intro i j hi hj hij
      have hi' : i < d'.size := by simpa using hi
      have hj' : j < d'.size := by simpa using hj
      have := hs i j (Nat.zero_le _) hij (by omega)
      rw [getElem!_pos d' i hi', getElem!_pos d' j hj'] at this
      exact this
    · show (d'.toList.map eltV).length = (d'.toList.map eltL).length * 1
      simp
    · simp [hd']
    · simpa [hd'] using hn
    · simpa [putCells] using hcur
    · have : (d'.toList.map eltL).length * (Kd.slice 3 (Kd.int .i64)).sz = d'.size := by show (d'.toList.map eltL).length * 1 = d'.size; simp
      rw [this]
      refine putCells_take _ _ _ ?_
      have h3 : cur.size = cap * 1 := hcur
      omega
    · exact reps_of (fun k hk hlt => sortWorld_keep _ _ _ _ _ _ hlt (fun he => hk.2 (by subst he; rfl))) d'.toList
    · exact sortWorld_size _ _ _ _ _ _
    · intro k hk
      exact sortWorld_keep _ _ _ _ _ _ (by omega) (by omega)
end Go.Proofs.Ytiflghgebeadiaa.M
end
section
namespace Go.Proofs.Ytiflghgebeadiaa.M
open Go.RowKit Go.Proofs.YtiflghgebeadiaaW.PrintWords Go.Proofs.YtiflghgebeadiaaW.PrintLast Go.Proofs.YtiflghgebeadiaaW.PrintMore
attribute [local go_sem] max2_int min2_int max_two min_two max_three min_three max_four min_four   -- for this text's walks alone
set_option linter.unusedVariables false
set_option linter.unusedSimpArgs false
def split_Degrees.f (k : Nat) (l0 : List Int) (a1 : Int) : Option (List (List Int) × Int) := (split_asked.f k l0 a1).bind fun b => if b.2 = 0 then (split_splitter_degrees.f k a1 b.1).bind fun d => some (d, 0) else some ([], b.2)
def MakesN (w : World) (r1 : List (List Int)) (r2 : Int) (e : Ending) (w' : World) : Prop := ∃ v0_ : Value, e = .returned (.tuple #[v0_, .int .i64 r2]) ∧ Kd.N (Kd.slice 3 (Kd.int .i64)) 22 w' w.heap.size (fun k_ => (w.heap.size ≤ k_)) v0_ r1 ∧ Below w.heap.size w w'
theorem N_of_R_ {w : World} {base : Nat} {v : Value} {xs : List (List Int)} (h : Kd.R (Kd.slice 3 (Kd.int .i64)) 22 w base (fun _ => True) v xs) : Kd.N (Kd.slice 3 (Kd.int .i64)) 22 w base (fun k => base ≤ k) v xs := Kd.R_N (Kd.R_mono (Kd.R_bound h) (fun _ hk => hk.2.1))
set_option maxHeartbeats 8000000 in
set_option maxRecDepth 100000 in
theorem split_Degrees.calls0 (k : Nat) (A0 : Option Addr) (c0 : Nat) (l0 : List Int) (a1 : Int) (r1 : List (List Int)) (r2 : Int) (w : World) (hr0 : Kd.C (Kd.int .i64) w A0 l0.length l0) (hc0 : l0.length ≤ c0) (h : split_Degrees.f k l0 a1 = some (r1, r2)) :
    Calls Try.prog 15 #[.slice A0 l0.length c0, .int .i64 a1] w (MakesN w r1 r2) := by
  have HF := Aside0.mk (RdI.mk hr0 hc0)
  clear hr0 hc0
  unfold split_Degrees.f at h
  replace h := Option.bind_eq_some_iff.mp h; obtain ⟨⟨f, e1⟩, h1, h⟩ := h
  have H1 := Aside0.mk h1
  clear h1
  by_cases c1 : e1 = 0
  · subst c1
    rw [if_pos rfl] at h
    replace h := Option.bind_eq_some_iff.mp h; obtain ⟨ds, h2, h⟩ := h
    have H2 := Aside0.mk h2
    clear h2
    simp only [Option.some.injEq, Prod.mk.injEq] at h
    obtain ⟨rfl, rfl⟩ := h
    go_enter Try.func15, Try.ntmps15
    go_wp2_with (
      first
      | ((with_reducible refine gate_callee (f := 16) rfl ?_); refine goesL_ (some 10) rfl rfl Try.func16 (by kernel_rfl) rfl #[.slice A0 l0.length c0, .int .i64 a1] rfl (by (try simp only [List.map_toArray, List.map_cons, List.map_nil]); first | done | rfl) ?_; (with_reducible refine (asked_rd H1.out HF.out).mono ?_); rintro e w1 ⟨vf, rfl, ho, hb⟩; refine ⟨_, rfl, ?_⟩; have HV := Aside0.mk (RdI.of_R ho); have HB := Aside0.mk hb; clear ho hb)
      | ((with_reducible refine gate_callee (f := 17) rfl ?_); refine goesL_ (some 17) rfl rfl Try.func17 (by kernel_rfl) rfl #[.int .i64 a1, .slice none 0 0] rfl (by (try simp only [List.map_toArray, List.map_cons, List.map_nil]); first | done | rfl) ?_; (with_reducible refine (split_started.calls a1 (.slice none 0 0) ⟨_, _, _, rfl⟩ w1).mono ?_); rintro e w2 ⟨rfl, hs, hb⟩; refine ⟨_, rfl, ?_⟩; have HS := Aside0.mk hs; have HV2 := Aside0.mk (HV.out.below hb); clear HV; have HV := HV2; clear HV2; have HB2 := Aside0.mk (below_step HB.out hb); clear HB; have HB := HB2; clear HB2; clear hs hb)
      | ((with_reducible refine gate_callee (f := 18) rfl ?_); refine goesL_ (some 19) rfl rfl Try.func18 (by kernel_rfl) rfl #[.pointer (some ⟨w1.heap.size + 2, 0, none⟩), vf] rfl (by (try simp only [List.map_toArray, List.map_cons, List.map_nil]); first | done | rfl) ?_; (with_reducible refine (split_splitter_degrees.calls k a1 f vf ds (w1.heap.size + 2) w2 HS.out.s0 (by have := HS.out.size; omega) HV.out H2.out).mono ?_); rintro e w3 ⟨vr, rfl, ho, hb⟩; refine ⟨_, rfl, ?_⟩; have HR := Aside0.mk (Kd.R_lower ho (below_size HB.out)); have HB2 := Aside0.mk (below_step HB.out hb); clear HB; have HB := HB2; clear HB2; clear ho hb))
    go_ret2
    exact ⟨_, rfl, N_of_R_ HR.out, HB.out⟩
  · rw [if_neg c1] at h
    have c1b : (e1 != 0) = true := bne_iff_ne.mpr c1
    have c1c : (e1 == 0) = false := beq_eq_false_iff_ne.mpr c1
    clear c1
    simp only [Option.some.injEq, Prod.mk.injEq] at h
    obtain ⟨rfl, rfl⟩ := h
    go_enter Try.func15, Try.ntmps15
    go_wp2_with (
      first
      | ((with_reducible refine gate_callee (f := 16) rfl ?_); refine goesL_ (some 10) rfl rfl Try.func16 (by kernel_rfl) rfl #[.slice A0 l0.length c0, .int .i64 a1] rfl (by (try simp only [List.map_toArray, List.map_cons, List.map_nil]); first | done | rfl) ?_; (with_reducible refine (asked_rd H1.out HF.out).mono ?_); rintro e w1 ⟨vf, rfl, ho, hb⟩; refine ⟨_, rfl, ?_⟩; have HB := Aside0.mk hb; clear ho hb))
    go_ret2
    exact ⟨_, rfl, Kd.N_nil _ _ _ _ _, HB.out⟩
theorem split_Degrees.calls (k : Nat) (A0 : Option Addr) (c0 : Nat) (l0 : List Int) (a1 : Int) (r1 : List (List Int)) (r2 : Int) (w : World) (hr0 : Kd.C (Kd.int .i64) w A0 l0.length l0) (hc0 : l0.length ≤ c0) (h : split_Degrees.f k l0 a1 = some (r1, r2)) :
    Calls Try.prog 15 #[.slice A0 l0.length c0, .int .i64 a1] w fun e w' => ∃ v0_ : Value, e = .returned (.tuple #[v0_, .int .i64 r2]) ∧ Kd.N (Kd.slice 3 (Kd.int .i64)) 22 w' w.heap.size (fun k_ => (w.heap.size ≤ k_)) v0_ r1 ∧ Below w.heap.size w w' := split_Degrees.calls0 k A0 c0 l0 a1 r1 r2 w hr0 hc0 h
end Go.Proofs.Ytiflghgebeadiaa.M
end
section
namespace Go.Proofs.Ytiflghgebeadiaa.M
open Go.RowKit Go.Proofs.YtiflghgebeadiaaW.PrintWords Go.Proofs.YtiflghgebeadiaaW.PrintLast Go.Proofs.YtiflghgebeadiaaW.PrintMore
attribute [local go_sem] max2_int min2_int max_two min_two max_three min_three max_four min_four   -- for this text's walks alone
set_option linter.unusedVariables false
set_option linter.unusedSimpArgs false
theorem R_elem {w : World} {base : Nat} {ok : Nat → Prop} {v : Value} {xs : List (List Int)} (h : Kd.R (Kd.slice 3 (Kd.int .i64)) 22 w base ok v xs) (i : Nat) (hi : i < xs.length) :
    ∃ ad cap A c, v = .slice (some ad) xs.length cap ∧ w.cell? (ad.add i) = some (.slice A (xs.getD i []).length c) ∧ Kd.R (Kd.int .i64) 3 w base (fun k => ok k ∧ some k ≠ v.ownBlock) (.slice A (xs.getD i []).length c) (xs.getD i []) := by
  obtain ⟨h0, inner, hown, hrep⟩ := h
  rcases hown.2 with ⟨rfl, hn⟩ | ⟨g, cap, cur, rfl, hg, hh, hn, hcap, hcur, htake⟩
  · omega
  · have hx : xs[i]? = some (xs.getD i []) := by rw [List.getD_eq_getElem?_getD, List.getElem?_eq_getElem hi]; rfl
    obtain ⟨u, hu, hR⟩ := hrep.2 i _ hx
    obtain ⟨A, c, rfl⟩ := Kd.R_slice hR
    refine ⟨⟨g, 0, none⟩, cap, A, c, rfl, ?_, hR⟩
    rw [add_plain]
    have hu' : (List.drop (i * 1) inner).take 1 = [Value.slice A (xs.getD i []).length c] := hu
    have h1 : inner[i]? = some (.slice A (xs.getD i []).length c) := by
      have := congrArg (fun l => l[0]?) hu'
      simpa using this
    rw [← htake] at h1
    rw [List.getElem?_take_of_lt (by show i < xs.length * 1; omega)] at h1
    simp only [World.cell?, hh]
    simpa using h1
theorem R_kp {α : Type} {d : Kd α} {e : Nat} {w w' : World} {base n : Nat} {vo vo' v : Value} {xs : List α} (h : d.R e w base (fun k => ¬ SpE n k ∧ some k ≠ vo.ownBlock) v xs) (hk : Kp n w w' vo vo') : d.R e w' base (fun k => ¬ SpE n k ∧ some k ≠ vo'.ownBlock) v xs := by
  refine Kd.R_mono (Kd.R_move (Kd.R_bound h) (fun k hb => hk.keep k hb.2.2.1 hb.1.1 hb.1.2)) (fun k hb => ⟨hb.1.1, fun he => ?_⟩)
  rcases hk.own with e | ⟨b, e, hle⟩
  · exact hb.1.2 (he.trans e)
  · rw [e] at he
    injection he with he
    have := hb.2.2.1
    omega
theorem divmod_rd {k : Nat} {v0 v1 : Value} {l0 l1 r1 r2 : List Int} {p r3 : Int} {w : World} (h : modular_DivMod.f k l0 l1 p = some (r1, r2, r3)) (h0 : RdI w v0 l0) (h1 : RdI w v1 l1) :
    Calls Try.prog 20 #[v0, v1, .int .i64 p] w fun e w' => ∃ va vb : Value, e = .returned (.tuple #[va, vb, .int .i64 r3]) ∧ Kd.R (Kd.int .i64) 3 w' w.heap.size (fun _ => True) va r1 ∧ Kd.R (Kd.int .i64) 3 w' w.heap.size (fun _ => True) vb r2 ∧ Below w.heap.size w w' := by
  obtain ⟨A0, c0, rfl, hl0, hc0⟩ := h0
  obtain ⟨A1, c1, rfl, hl1, hc1⟩ := h1
  exact (modular_DivMod.calls k A0 c0 l0 A1 c1 l1 p r1 r2 r3 w hc0 hl0 hc1 hl1 h).mono fun _ _ ⟨va, vb, he, ha, hb, hw⟩ => ⟨va, vb, he, Kd.R_mono ha (fun _ _ => trivial), Kd.R_mono hb (fun _ _ => trivial), hw⟩
def split_Factor.l0 (k : Nat) (p : Int) (draws : List Int) : List (List Int) → Int → Int → Int → List (List Int) → Option (Int × Int × List (List Int))
  | [], _, a, c, out => some (a, c, out)
  | g :: gs, i, a, c, out => if 1 < g.length then (split_equal.f k p draws g (i + 1) a c out).bind fun y => split_Factor.l0 k p draws gs (i + 1) y.1 y.2.1 y.2.2 else split_Factor.l0 k p draws gs (i + 1) a c out
def split_Factor.l2 : Nat → Int → List Int → List Int → List (List Int) → Option (List (List Int))
  | 0, _, _, _, _ => none
  | k + 1, p, g, q, out => (modular_DivMod.f k q g p).bind fun b => if 0 < b.2.1.length then some out else if out.length < 5864062014805 then split_Factor.l2 k p g b.1 (out ++ [g]) else none
def split_Factor.l1 (k : Nat) (p : Int) (f : List Int) : List (List Int) → List (List Int) → Option (List (List Int))
  | [], out => some out
  | g :: gs, out => (split_Factor.l2 k p g f out).bind fun out' => split_Factor.l1 k p f gs out'
def split_Factor.f (k : Nat) (l0 : List Int) (a1 : Int) (l2 : List Int) : Option (List (List Int) × Int) := (split_asked.f k l0 a1).bind fun b => if b.2 = 0 then
    (split_splitter_degrees.f k a1 b.1).bind fun ds => (split_Factor.l0 k a1 l2 ds 0 0 0 []).bind fun y => (split_Factor.l1 k a1 b.1 y.2.2 []).bind fun out => if out.length < 5864062014806 then some (srt out, 0) else none
  else some ([], b.2)
set_option maxHeartbeats 8000000 in
set_option maxRecDepth 100000 in
theorem split_Factor.calls0 (k : Nat) (A0 : Option Addr) (c0 : Nat) (l0 : List Int) (a1 : Int) (A2 : Option Addr) (c2 : Nat) (l2 : List Int) (r1 : List (List Int)) (r2 : Int) (w : World) (hr0 : Kd.C (Kd.int .i64) w A0 l0.length l0) (hc0 : l0.length ≤ c0) (hr2 : Kd.C (Kd.int .i64) w A2 l2.length l2) (hc2 : l2.length ≤ c2) (h : split_Factor.f k l0 a1 l2 = some (r1, r2)) :
    Calls Try.prog 8 #[.slice A0 l0.length c0, .int .i64 a1, .slice A2 l2.length c2] w (MakesN w r1 r2) := by
  have HF := Aside0.mk (RdI.mk hr0 hc0)
  have HD := Aside0.mk (RdI.mk hr2 hc2)
  clear hr0 hc0 hr2 hc2
  unfold split_Factor.f at h
  replace h := Option.bind_eq_some_iff.mp h; obtain ⟨⟨f, e1⟩, h1, h⟩ := h
  have H1 := Aside0.mk h1
  clear h1
  by_cases c1 : e1 = 0
  · subst c1
    rw [if_pos rfl] at h
    replace h := Option.bind_eq_some_iff.mp h; obtain ⟨ds, h2, h⟩ := h
    replace h := Option.bind_eq_some_iff.mp h; obtain ⟨⟨a', c', gs⟩, h3, h⟩ := h
    replace h := Option.bind_eq_some_iff.mp h; obtain ⟨out, h4, h⟩ := h
    have H2 := Aside0.mk h2
    have H3 := Aside0.mk h3
    have H4 := Aside0.mk h4
    clear h2 h3 h4
    by_cases c5 : out.length < 5864062014806
    · rw [if_pos c5] at h
      have H5 := Aside0.mk c5
      clear c5
      simp only [Option.some.injEq, Prod.mk.injEq] at h
      obtain ⟨rfl, rfl⟩ := h
      go_enter Try.func8, Try.ntmps8
      go_wp2_with (
        first
        | ((with_reducible refine gate_callee (f := 16) rfl ?_); refine goesL_ (some 22) rfl rfl Try.func16 (by kernel_rfl) rfl #[.slice A0 l0.length c0, .int .i64 a1] rfl (by (try simp only [List.map_toArray, List.map_cons, List.map_nil]); first | done | rfl) ?_; (with_reducible refine (asked_rd H1.out HF.out).mono ?_); rintro e w1 ⟨vf, rfl, ho, hb⟩; refine ⟨_, rfl, ?_⟩; have HV := Aside0.mk (RdB.of_R (base := w.heap.size) (E := SpE w1.heap.size) (Kd.R_bound ho) (fun k_ hk_ _ hE_ => by have h1_ := hk_.2.2.1; have h2_ := hE_.1; omega)); have HB := Aside0.mk hb; have HD2 := Aside0.mk ((RdB.of_rd (E := SpE w1.heap.size) HD.out).below hb); clear HD; have HD := HD2; clear HD2 ho hb)
        | ((with_reducible refine gate_callee (f := 17) rfl ?_); refine goesL_ (some 30) rfl rfl Try.func17 (by kernel_rfl) rfl #[.int .i64 a1, .slice A2 l2.length c2] rfl (by (try simp only [List.map_toArray, List.map_cons, List.map_nil]); first | done | rfl) ?_; (with_reducible refine (split_started.calls a1 (.slice A2 l2.length c2) ⟨_, _, _, rfl⟩ w1).mono ?_); rintro e w2 ⟨rfl, hs, hb⟩; refine ⟨_, rfl, ?_⟩; have HS := Aside0.mk hs; have HN := Aside0.mk HB.out.size; have n_ := Aside0.mk (HV.out.below hb); clear HV; have HV := n_; clear n_; have n_ := Aside0.mk (HD.out.below hb); clear HD; have HD := n_; clear n_; have n_ := Aside0.mk (below_step HB.out hb); clear HB; have HB := n_; clear n_; clear hs hb)
        | ((with_reducible refine gate_callee (f := 18) rfl ?_); refine goesL_ (some 33) rfl rfl Try.func18 (by kernel_rfl) rfl #[.pointer (some ⟨w1.heap.size + 2, 0, none⟩), vf] rfl (by (try simp only [List.map_toArray, List.map_cons, List.map_nil]); first | done | rfl) ?_; (with_reducible refine (split_splitter_degrees.calls k a1 f vf ds (w1.heap.size + 2) w2 HS.out.s0 (by have := HS.out.size; omega) HV.out.rd H2.out).mono ?_); rintro e w3 ⟨vds, rfl, ho, hb⟩; refine ⟨_, rfl, ?_⟩; have HDS := Aside0.mk (show Kd.R (Kd.slice 3 (Kd.int .i64)) 22 w3 w.heap.size (fun k_ => ¬ SpE w1.heap.size k_ ∧ some k_ ≠ (.slice none 0 0 : Value).ownBlock) vds ds from Kd.R_lower (Kd.R_mono (Kd.R_bound ho) (fun k_ hk_ => ⟨fun hE_ => by have h1_ := hk_.2.1; have h2_ := hE_.2; have h3_ := HS.out.size; omega, by simp [Value.ownBlock]⟩)) HB.out.size); have n_ := Aside0.mk (HV.out.below hb); clear HV; have HV := n_; clear n_; have n_ := Aside0.mk (HD.out.below hb); clear HD; have HD := n_; clear n_; have n_ := Aside0.mk (HS.out.below hb); clear HS; have HS := n_; clear n_; have n_ := Aside0.mk (below_step HB.out hb); clear HB; have HB := n_; clear n_; obtain ⟨Ads, cds, eds⟩ := Kd.R_slice ho; subst eds; clear ho hb))
      have hmds : ds.length ≤ 9223372036854775807 := (Kd.R_reads' HDS.out).2.2.2.1
      go_loopg [35] ds.length (fun kq v35 w' => ∃ (n : Nat) (ax cx : Int) (vo : Value) (o1 : List (List Int)), v35 = .int .i64 n ∧ Aside0 (n + kq = ds.length) ∧ Aside0 (split_Factor.l0 k a1 l2 (ds.drop n) n ax cx o1 = some (a', c', gs)) ∧ Aside0 (SpSt w' w1.heap.size a1 (.slice A2 l2.length c2) ax cx vo) ∧ Aside0 (Kd.R (Kd.slice 3 (Kd.int .i64)) 22 w' w.heap.size (fun k_ => ¬ SpE w1.heap.size k_) vo o1) ∧ Aside0 (Kd.R (Kd.slice 3 (Kd.int .i64)) 22 w' w.heap.size (fun k_ => ¬ SpE w1.heap.size k_ ∧ some k_ ≠ (vo : Value).ownBlock) (.slice Ads ds.length cds) ds) ∧ Aside0 (RdB w.heap.size (SpE w1.heap.size) w' vf f) ∧ Aside0 (RdB w.heap.size (SpE w1.heap.size) w' (.slice A2 l2.length c2) l2) ∧ Aside0 (Below w.heap.size w w'))
      case atStart => exact ⟨0, 0, 0, .slice none 0 0, [], rfl, ⟨Nat.zero_add _⟩, H3, HS, ⟨Kd.R_nil _ _ _ _ _⟩, HDS, HV, HD, HB⟩
      case round =>
        clear H1 H2 H3 HS HDS HV HD HB HF
        obtain ⟨n, ax, cx, vo, o1, rfl, HK, HA, HS, HO, HDS, HV, HD, HB⟩ := hrel
        by_cases hlt : n < ds.length
        · have hltb : decide ((n : Int) < (ds.length : Int)) = true := decide_eq_true (by omega)
          have hltc : decide (n < ds.length) = true := decide_eq_true hlt
          obtain ⟨ad, cap, Ag, cg, eds, hcell, hG⟩ := R_elem HDS.out n hlt
          injection eds with eA _ eC
          subst eA eC
          have hdrop : ds.drop n = ds.getD n [] :: ds.drop (n + 1) := by
            rw [List.drop_eq_getElem_cons hlt, List.getD_eq_getElem?_getD, List.getElem?_eq_getElem hlt]; rfl
          have H := HA.out
          rw [hdrop] at H
          clear HA hdrop
          generalize ds.getD n [] = g at H hcell hG
          have HG := Aside0.mk (Kd.R_mono hG (fun _ hk_ => hk_.1.1))
          have hmg : g.length ≤ 9223372036854775807 := (RdI.of_R hG).len
          clear hG
          simp only [split_Factor.l0] at H
          have hp1 : (0 ≤ (n : Int)) = True := eq_true (by omega)
          have hq1 : ((n : Int) < (ds.length : Int)) = True := eq_true (by omega)
          have hw1 : IntKind.i64.wrap ((n : Int) + 1) = (n : Int) + 1 := by rw [i64_w]; unfold wrap64; omega
          by_cases c3 : 1 < g.length
          · rw [if_pos c3] at H
            have c3b : decide ((1 : Int) < (g.length : Int)) = true := decide_eq_true (by omega)
            have c3c : decide (1 < g.length) = true := decide_eq_true c3
            clear c3
            replace H := Option.bind_eq_some_iff.mp H; obtain ⟨⟨a4, c4, o2⟩, h1, H⟩ := H
            have H1 := Aside0.mk h1
            have H' := Aside0.mk H
            clear h1 H
            go_wp2_with (
              first
              | ((with_reducible refine gate_callee (f := 19) rfl ?_); refine goesL_ (some 47) rfl rfl Try.func19 (by kernel_rfl) rfl #[.pointer (some ⟨w1.heap.size + 2, 0, none⟩), .slice Ag g.length cg, .int .i64 ((n : Int) + 1)] rfl (by (try simp only [List.map_toArray, List.map_cons, List.map_nil]); first | done | rfl) ?_; (with_reducible refine (split_equal.calls k a1 l2 g ((n : Int) + 1) ax cx a4 c4 o1 o2 (.slice A2 l2.length c2) (.slice Ag g.length cg) vo w.heap.size w1.heap.size _ HS.out HD.out HN.out HG.out HO.out H1.out).mono ?_); rintro e w5 ⟨vo2, hkp, rfl, hs1, ho1, hm, hb⟩; refine ⟨_, rfl, ?_⟩; have n_ := Aside0.mk (R_kp HDS.out hkp); clear HDS; have HDS := n_; clear n_; have n_ := Aside0.mk (HV.out.mv hm); clear HV; have HV := n_; clear n_; have n_ := Aside0.mk (HD.out.mv hm); clear HD; have HD := n_; clear n_; clear HS HO; have HS := Aside0.mk hs1; have HO := Aside0.mk ho1; have n_ := Aside0.mk (HB.out.trans hb); clear HB; have HB := n_; clear n_; clear hkp hs1 ho1 hm hb))
            go_roundg (ds.length - (n + 1))
            case measure => have := HK.out; omega
            case rel => exact ⟨n + 1, a4, c4, vo2, o2, (by first | rfl | go_num), ⟨by omega⟩, H', HS, HO, HDS, HV, HD, HB⟩
          · rw [if_neg c3] at H
            have c3b : decide ((1 : Int) < (g.length : Int)) = false := decide_eq_false (by omega)
            have c3c : decide (1 < g.length) = false := decide_eq_false c3
            clear c3
            have H' := Aside0.mk H
            clear H
            go_wp2
            go_roundg (ds.length - (n + 1))
            case measure => have := HK.out; omega
            case rel => exact ⟨n + 1, ax, cx, vo, o1, (by first | rfl | go_num), ⟨by omega⟩, H', HS, HO, HDS, HV, HD, HB⟩
        · have hltb : decide ((n : Int) < (ds.length : Int)) = false := decide_eq_false (by omega)
          have hltc : decide (n < ds.length) = false := decide_eq_false hlt
          have H := HA.out
          rw [List.drop_eq_nil_of_le (by omega)] at H
          simp only [split_Factor.l0, Option.some.injEq, Prod.mk.injEq] at H
          obtain ⟨rfl, rfl, rfl⟩ := H
          clear HA
          have q2 := HS.out.s2
          have HZ := Aside0.mk HS.out.size
          obtain ⟨Ao, co, eo⟩ := Kd.R_slice HO.out
          subst eo
          have hmo : o1.length ≤ 9223372036854775807 := (Kd.R_reads' HO.out).2.2.2.1
          go_wp2_with (
            first
            | ((with_reducible refine gate_dst (N := 49) rfl ?_); refine Kd.R_lit (Kd.slice 3 (Kd.int .i64)) (w0 := w) w.heap.size 22 ?hg (N := 49) ?hd (xs := ([] : List (List Int))) (inner := []) (ok := (fun k_ => ¬ SpE w1.heap.size k_)) (okp := fun _ => False) ?hr ?hp (fun _ h_ => h_.elim) ?hf HB.out HB.out.size (by simp) ?_; (case hd => rfl); (case hg => rfl); (case hr => first | (go_simp; done) | (go_simp; rfl)); (case hp => exact (Reps.none _ _)); (case hf => exact fun hE_ => by have h1_ := hE_.2; have h2_ := HS.out.size; omega); intro vout w4 ho hb hg hnew; have n_ := Aside0.mk (show Kd.R (Kd.slice 3 (Kd.int .i64)) 22 w4 w.heap.size (fun k_ => ¬ SpE w1.heap.size k_ ∧ some k_ ≠ (vout : Value).ownBlock) (.slice Ao o1.length co) o1 from Kd.R_mono (Kd.R_move (Kd.R_bound HO.out) (fun k_ hk_ => hg.block k_ hk_.2.2.1 (by simp))) (fun k_ hk_ => ⟨hk_.1, fun he_ => by obtain ⟨b_, hb_, hle_⟩ := hnew; rw [hb_] at he_; injection he_ with he_; have h3_ := hk_.2.2.1; omega⟩)); clear HO; have HO := n_; clear n_; have n_ := Aside0.mk (HV.out.mv (Mv.grown hg (fun k_ hk_ => by cases hk_))); clear HV; have HV := n_; clear n_; have n_ := Aside0.mk (HS.out.move (fun k_ _ h2_ => hg.block k_ (by have h3_ := HS.out.size; omega) (by simp))); clear HS; have HS := n_; clear n_; have n_ := Aside0.mk (hb); clear HB; have HB := n_; clear n_; have HOUT := Aside0.mk ho; have HNEW := Aside0.mk (show ∃ b_, vout.ownBlock = some b_ from hnew.imp fun _ h_ => h_.1); clear q2; have q2 := HS.out.s2; clear ho hb hg hnew))
          go_loopg [12, 55] o1.length (fun kq v12 v55 w' => ∃ (n2 : Nat) (o : List (List Int)), v55 = .int .i64 n2 ∧ Aside0 (n2 + kq = o1.length) ∧ Aside0 (split_Factor.l1 k a1 f (o1.drop n2) o = some out) ∧ Aside0 (w1.heap.size + 6 ≤ w'.heap.size) ∧ Aside0 (Kd.R (Kd.slice 3 (Kd.int .i64)) 22 w' w.heap.size (fun k_ => ¬ SpE w1.heap.size k_) v12 o) ∧ Aside0 (∃ b_, v12.ownBlock = some b_) ∧ Aside0 (Kd.R (Kd.slice 3 (Kd.int .i64)) 22 w' w.heap.size (fun k_ => ¬ SpE w1.heap.size k_ ∧ some k_ ≠ (v12 : Value).ownBlock) (.slice Ao o1.length co) o1) ∧ Aside0 (RdB w.heap.size (SpE w1.heap.size) w' vf f) ∧ Aside0 (Below w.heap.size w w'))
          case atStart => exact ⟨0, [], rfl, ⟨Nat.zero_add _⟩, H4, ⟨HS.out.size⟩, HOUT, HNEW, HO, HV, HB⟩
          case round =>
            clear H4 HS HOUT HNEW HO HV HB HD HDS q2 HZ
            obtain ⟨n2, o, rfl, HK2, HA, HZ, HOUT, HNEW, HO, HV, HB⟩ := hrel
            by_cases hlt2 : n2 < o1.length
            · have hltb2 : decide ((n2 : Int) < (o1.length : Int)) = true := decide_eq_true (by omega)
              have hltc2 : decide (n2 < o1.length) = true := decide_eq_true hlt2
              obtain ⟨ad, cap, Ag, cg, eds, hcell, hG⟩ := R_elem HO.out n2 hlt2
              injection eds with eA _ eC
              subst eA eC
              have hdrop : o1.drop n2 = o1.getD n2 [] :: o1.drop (n2 + 1) := by
                rw [List.drop_eq_getElem_cons hlt2, List.getD_eq_getElem?_getD, List.getElem?_eq_getElem hlt2]; rfl
              have H := HA.out
              rw [hdrop] at H
              clear HA hdrop
              generalize o1.getD n2 [] = g at H hcell hG
              have HG := Aside0.mk (show Kd.R (Kd.int .i64) 3 _ w.heap.size (fun k_ => ¬ SpE w1.heap.size k_) _ g from Kd.R_mono hG (fun _ hk_ => hk_.1.1))
              have hmg : g.length ≤ 9223372036854775807 := (RdI.of_R hG).len
              clear hG
              simp only [split_Factor.l1] at H
              replace H := Option.bind_eq_some_iff.mp H; obtain ⟨o3, h1, H⟩ := H
              have H1 := Aside0.mk h1
              have H' := Aside0.mk H
              clear h1 H
              have hp1 : (0 ≤ (n2 : Int)) = True := eq_true (by omega)
              have hq1 : ((n2 : Int) < (o1.length : Int)) = True := eq_true (by omega)
              have hw1 : IntKind.i64.wrap ((n2 : Int) + 1) = (n2 : Int) + 1 := by rw [i64_w]; unfold wrap64; omega
              go_wp2
              go_loopg [12, 15] k (fun kq v12 v15 w' => ∃ (ox : List (List Int)) (q : List Int), Aside0 (split_Factor.l2 kq a1 g q ox = some o3) ∧ Aside0 (kq ≤ k) ∧ Aside0 (w1.heap.size + 6 ≤ w'.heap.size) ∧ Aside0 (Kd.R (Kd.slice 3 (Kd.int .i64)) 22 w' w.heap.size (fun k_ => ¬ SpE w1.heap.size k_) v12 ox) ∧ Aside0 (∃ b_, v12.ownBlock = some b_) ∧ Aside0 (Kd.R (Kd.slice 3 (Kd.int .i64)) 22 w' w.heap.size (fun k_ => ¬ SpE w1.heap.size k_ ∧ some k_ ≠ (v12 : Value).ownBlock) (.slice (some ad) o1.length co) o1) ∧ Aside0 (RdB w.heap.size (SpE w1.heap.size) w' v15 q) ∧ Aside0 (RdB w.heap.size (SpE w1.heap.size) w' vf f) ∧ Aside0 (Kd.R (Kd.int .i64) 3 w' w.heap.size (fun k_ => ¬ SpE w1.heap.size k_) (.slice Ag g.length cg) g) ∧ Aside0 (Below w.heap.size w w'))
              case atStart => exact ⟨o, f, H1, ⟨Nat.le_refl _⟩, HZ, HOUT, HNEW, HO, HV, HV, HG, HB⟩
              case round =>
                clear H1 HZ HOUT HNEW HO HV HG HB hcell
                obtain ⟨ox, q, HA, HK3, HZ, HOUT, HNEW, HO, HQ, HV, HG, HB⟩ := hrel
                cases gk with
                | zero => exact absurd HA.out (by simp [split_Factor.l2])
                | succ k1 =>
                  have H := HA.out
                  clear HA
                  simp only [split_Factor.l2] at H
                  replace H := Option.bind_eq_some_iff.mp H; obtain ⟨⟨q2, r2, e2⟩, h2, H⟩ := H
                  have H2 := Aside0.mk h2
                  clear h2
                  by_cases c6 : 0 < r2.length
                  · rw [if_pos c6] at H
                    obtain rfl := Option.some.inj H
                    have c6b : decide ((0 : Int) < (r2.length : Int)) = true := decide_eq_true (by omega)
                    have c6c : decide (0 < r2.length) = true := decide_eq_true c6
                    clear c6 H
                    go_wp2_with (
                      first
                      | ((with_reducible refine gate_callee (f := 20) rfl ?_); refine goesL_ (some 64) rfl rfl Try.func20 (by kernel_rfl) rfl #[u15, .slice Ag g.length cg, .int .i64 a1] rfl (by (try simp only [List.map_toArray, List.map_cons, List.map_nil]); first | done | rfl) ?_; (with_reducible refine (divmod_rd H2.out HQ.out.rd (RdI.of_R HG.out)).mono ?_); rintro e w5 ⟨vq, vr, rfl, hoq, hor, hb⟩; refine ⟨_, rfl, ?_⟩; have HQ2 := Aside0.mk (RdB.of_R (base := w.heap.size) (E := SpE w1.heap.size) (Kd.R_bound hoq) (fun k_ hk_ _ hE_ => by have h1_ := hk_.2.1; have h2_ := hE_.2; have h3_ := HZ.out; omega)); obtain ⟨Ar, cr, er⟩ := Kd.R_slice hor; subst er; have n_ := Aside0.mk (Kd.R_below HOUT.out hb); clear HOUT; have HOUT := n_; clear n_; have n_ := Aside0.mk (Kd.R_below HO.out hb); clear HO; have HO := n_; clear n_; have n_ := Aside0.mk (RdB.below HV.out hb); clear HV; have HV := n_; clear n_; have n_ := Aside0.mk (Kd.R_below HG.out hb); clear HG; have HG := n_; clear n_; have n_ := Aside0.mk (below_then HB.out HB.out.size hb); clear HB; have HB := n_; clear n_; have n_ := Aside0.mk (Nat.le_trans HZ.out hb.size); clear HZ; have HZ := n_; clear n_; clear hoq hor hb HQ))
                    go_roundg (o1.length - (n2 + 1))
                    case measure => have := HK2.out; omega
                    case rel => exact ⟨n2 + 1, ox, (by first | rfl | go_num), ⟨by omega⟩, H', HZ, HOUT, HNEW, HO, HV, HB⟩
                  · rw [if_neg c6] at H
                    have c6b : decide ((0 : Int) < (r2.length : Int)) = false := decide_eq_false (by omega)
                    have c6c : decide (0 < r2.length) = false := decide_eq_false c6
                    clear c6
                    by_cases c7 : ox.length < 5864062014805
                    · rw [if_pos c7] at H
                      have HL := Aside0.mk c7
                      clear c7
                      have H8 := Aside0.mk H
                      clear H
                      go_wp2_with (
                        first
                        | ((with_reducible refine gate_callee (f := 20) rfl ?_); refine goesL_ (some 64) rfl rfl Try.func20 (by kernel_rfl) rfl #[u15, .slice Ag g.length cg, .int .i64 a1] rfl (by (try simp only [List.map_toArray, List.map_cons, List.map_nil]); first | done | rfl) ?_; (with_reducible refine (divmod_rd H2.out HQ.out.rd (RdI.of_R HG.out)).mono ?_); rintro e w5 ⟨vq, vr, rfl, hoq, hor, hb⟩; refine ⟨_, rfl, ?_⟩; have HQ2 := Aside0.mk (RdB.of_R (base := w.heap.size) (E := SpE w1.heap.size) (Kd.R_bound hoq) (fun k_ hk_ _ hE_ => by have h1_ := hk_.2.1; have h2_ := hE_.2; have h3_ := HZ.out; omega)); obtain ⟨Ar, cr, er⟩ := Kd.R_slice hor; subst er; have n_ := Aside0.mk (Kd.R_below HOUT.out hb); clear HOUT; have HOUT := n_; clear n_; have n_ := Aside0.mk (Kd.R_below HO.out hb); clear HO; have HO := n_; clear n_; have n_ := Aside0.mk (RdB.below HV.out hb); clear HV; have HV := n_; clear n_; have n_ := Aside0.mk (Kd.R_below HG.out hb); clear HG; have HG := n_; clear n_; have n_ := Aside0.mk (below_then HB.out HB.out.size hb); clear HB; have HB := n_; clear n_; have n_ := Aside0.mk (Nat.le_trans HZ.out hb.size); clear HZ; have HZ := n_; clear n_; clear hoq hor hb HQ)
                        | ((with_reducible refine gate_builtin (b := .append) (xs := #[.tmp 71, .tmp 73]) rfl ?_); at_builtin; refine Kd.R_append (Kd.slice 3 (Kd.int .i64)) (w0 := w) w.heap.size rfl (.tmp 71) (.tmp 73) 25 22 (.slice none 0 0) 24 rfl Try.underlying25 info22 rfl (by decide) (by omega) u12 ox g [.slice Ag g.length cg] (fun k_ => ¬ SpE w1.heap.size k_) (fun k_ => (¬ SpE w1.heap.size k_) ∧ some k_ ≠ u12.ownBlock) rfl rfl ?aP (fun _ hk => hk) ?aF ?aO ?aB ?aS ?aL ?_; (case aP => exact ⟨_, rfl, R_not_outer HG.out HOUT.out⟩); (case aB => exact HB.out); (case aF => exact (fun k_ hk hE => by have h1_ := hE.2; have h2_ := HZ.out; omega)); (case aO => exact HOUT.out); (case aS => exact HB.out.size); (case aL => have := HL.out; omega); intro vo3 w6 ho hb hg hat; have hm := Mv.row (base := w.heap.size) (E := SpE w1.heap.size) HOUT.out (Nat.le_refl _) hg; have hkp : Kp w1.heap.size _ w6 u12 vo3 := ⟨fun k_ lt_ _ ne_ => hg.block k_ lt_ ne_, hat⟩; have n_ := Aside0.mk (R_kp HO.out hkp); clear HO; have HO := n_; clear n_; have n_ := Aside0.mk (show ∃ b_, vo3.ownBlock = some b_ from hat.elim (fun e_ => by rw [e_]; exact HNEW.out) (fun h_ => h_.imp (fun _ x_ => x_.1))); clear HNEW; have HNEW := n_; clear n_; have n_ := Aside0.mk (HV.out.mv hm); clear HV; have HV := n_; clear n_; have n_ := Aside0.mk (HQ2.out.mv hm); clear HQ2; have HQ2 := n_; clear n_; have n_ := Aside0.mk (R_mv HG.out hm); clear HG; have HG := n_; clear n_; have n_ := Aside0.mk (Nat.le_trans HZ.out hg.size); clear HZ; have HZ := n_; clear n_; clear HOUT HB; have HOUT := Aside0.mk ho; have HB := Aside0.mk hb; clear ho hb hg hat hm hkp))
                      go_roundg k1
                      case measure => have := HK3.out; omega
                      case rel => exact ⟨ox ++ [g], q2, H8, ⟨by have := HK3.out; omega⟩, HZ, HOUT, HNEW, HO, HQ2, HV, HG, HB⟩
                    · rw [if_neg c7] at H
                      exact absurd H (by simp)
            · have hltb2 : decide ((n2 : Int) < (o1.length : Int)) = false := decide_eq_false (by omega)
              have hltc2 : decide (n2 < o1.length) = false := decide_eq_false hlt2
              have H := HA.out
              rw [List.drop_eq_nil_of_le (by omega)] at H
              simp only [split_Factor.l1, Option.some.injEq] at H
              subst H
              clear HA
              go_wp2_with (
                first
                | ((with_reducible refine gate_callee (f := 21) rfl ?_); refine goesL_ (some 78) rfl rfl Try.func21 (by kernel_rfl) rfl #[u12, .func (.func 22) #[] #[]] rfl (by (try simp only [List.map_toArray, List.map_cons, List.map_nil]); first | done | rfl) ?_; (with_reducible refine (split_sort.calls w.heap.size (fun k_ => ¬ SpE w1.heap.size k_) u12 o _ HOUT.out HNEW.out (by have := H5.out; omega)).mono ?_); rintro e w7 ⟨rfl, out', hperm, hsrt, hR, hb⟩; refine ⟨_, rfl, ?_⟩; have HR := Aside0.mk hR; have HE := Aside0.mk (srt_is hperm hsrt); have HB2 := Aside0.mk (HB.out.trans hb); clear hperm hsrt hR hb))
              go_ret2
              have e_ := HE.out
              subst e_
              exact ⟨_, rfl, N_of_R_ (Kd.R_mono HR.out (fun _ _ => trivial)), HB2.out⟩
    · rw [if_neg c5] at h
      exact absurd h (by simp)
  · rw [if_neg c1] at h
    have c1b : (e1 != 0) = true := bne_iff_ne.mpr c1
    have c1c : (e1 == 0) = false := beq_eq_false_iff_ne.mpr c1
    clear c1
    simp only [Option.some.injEq, Prod.mk.injEq] at h
    obtain ⟨rfl, rfl⟩ := h
    go_enter Try.func8, Try.ntmps8
    go_wp2_with (
      first
      | ((with_reducible refine gate_callee (f := 16) rfl ?_); refine goesL_ (some 22) rfl rfl Try.func16 (by kernel_rfl) rfl #[.slice A0 l0.length c0, .int .i64 a1] rfl (by (try simp only [List.map_toArray, List.map_cons, List.map_nil]); first | done | rfl) ?_; (with_reducible refine (asked_rd H1.out HF.out).mono ?_); rintro e w1 ⟨vf, rfl, ho, hb⟩; refine ⟨_, rfl, ?_⟩; have HB := Aside0.mk hb; clear ho hb))
    go_ret2
    exact ⟨_, rfl, Kd.N_nil _ _ _ _ _, HB.out⟩
theorem split_Factor.calls (k : Nat) (A0 : Option Addr) (c0 : Nat) (l0 : List Int) (a1 : Int) (A2 : Option Addr) (c2 : Nat) (l2 : List Int) (r1 : List (List Int)) (r2 : Int) (w : World) (hr0 : Kd.C (Kd.int .i64) w A0 l0.length l0) (hc0 : l0.length ≤ c0) (hr2 : Kd.C (Kd.int .i64) w A2 l2.length l2) (hc2 : l2.length ≤ c2) (h : split_Factor.f k l0 a1 l2 = some (r1, r2)) :
    Calls Try.prog 8 #[.slice A0 l0.length c0, .int .i64 a1, .slice A2 l2.length c2] w fun e w' => ∃ v0_ : Value, e = .returned (.tuple #[v0_, .int .i64 r2]) ∧ Kd.N (Kd.slice 3 (Kd.int .i64)) 22 w' w.heap.size (fun k_ => (w.heap.size ≤ k_)) v0_ r1 ∧ Below w.heap.size w w' := split_Factor.calls0 k A0 c0 l0 a1 A2 c2 l2 r1 r2 w hr0 hc0 hr2 hc2 h
end Go.Proofs.Ytiflghgebeadiaa.M
end
section
namespace Go.Proofs.Ytiflghgebeadiaa.M
open Go.RowKit Go.Proofs.YtiflghgebeadiaaW.PrintWords Go.Proofs.YtiflghgebeadiaaW.PrintLast Go.Proofs.YtiflghgebeadiaaW.PrintMore
attribute [local go_sem] max2_int min2_int max_two min_two max_three min_three max_four min_four   -- for this text's walks alone
set_option linter.unusedVariables false
set_option linter.unusedSimpArgs false
def split_Irreducible.f (k : Nat) (l0 : List Int) (a1 : Int) : Option (Bool) := (split_Degrees.f k l0 a1).bind fun bt412 => (if bt412.2 = 0 then (if (bt412.1.length : Int) = 0 then (some false) else (if 0 ≤ (wrap64 ((bt412.1.length : Int) - 1)) then (if (wrap64 ((bt412.1.length : Int) - 1)) < (bt412.1.length : Int) then (some ((wrap64 (((rd_L1 bt412.1 (wrap64 ((bt412.1.length : Int) - 1))).length : Int) - 1)) == (bt412.1.length : Int))) else (none)) else (none))) else (some false))
set_option maxHeartbeats 8000000 in
set_option maxRecDepth 100000 in
theorem split_Irreducible.calls (k : Nat) (A0 : Option Addr) (c0 : Nat) (l0 : List Int) (a1 : Int) (r : Bool) (w : World) (hr0 : Kd.C (Kd.int .i64) w A0 l0.length l0) (hc0 : l0.length ≤ c0) (h : split_Irreducible.f k l0 a1 = some r) :
    Calls Try.prog 12 #[.slice A0 l0.length c0, .int .i64 a1] w fun e w' => e = .returned (.bool r) ∧ Below w.heap.size w w' := by
  have HR0 := Aside0.mk hr0
  have HC0 := Aside0.mk hc0
  clear hr0 hc0
  have HB := Aside0.mk (Below.refl w.heap.size w)
  have H : ((split_Degrees.f k l0 a1).bind fun bt412 => (if bt412.2 = 0 then (if (bt412.1.length : Int) = 0 then (some false) else (if 0 ≤ (wrap64 ((bt412.1.length : Int) - 1)) then (if (wrap64 ((bt412.1.length : Int) - 1)) < (bt412.1.length : Int) then (some ((wrap64 (((rd_L1 bt412.1 (wrap64 ((bt412.1.length : Int) - 1))).length : Int) - 1)) == (bt412.1.length : Int))) else (none)) else (none))) else (some false))) = some r := h
  clear h
  replace H := Option.bind_eq_some_iff.mp H
  obtain ⟨⟨t412, t415⟩, A30, H⟩ := H
  replace H : (if t415 = 0 then (if (t412.length : Int) = 0 then (some false) else (if 0 ≤ (wrap64 ((t412.length : Int) - 1)) then (if (wrap64 ((t412.length : Int) - 1)) < (t412.length : Int) then (some ((wrap64 (((rd_L1 t412 (wrap64 ((t412.length : Int) - 1))).length : Int) - 1)) == (t412.length : Int))) else (none)) else (none))) else (some false)) = some r := H
  have A3 := Aside0.mk A30
  clear A30
  by_cases c4 : t415 = 0
  · rw [if_pos c4] at H
    have c4b0 : (t415 == 0) = true := beq_iff_eq.mpr c4
    have c4b1 : (t415 != 0) = false := bne_eq_false_iff_eq.mpr c4
    clear c4
    by_cases c5 : (t412.length : Int) = 0
    · rw [if_pos c5] at H
      have c5b0 : ((t412.length : Int) == 0) = true := beq_iff_eq.mpr c5
      have c5b1 : ((t412.length : Int) != 0) = false := bne_eq_false_iff_eq.mpr c5
      clear c5
      obtain rfl := Option.some.inj H
      go_enter Try.func12, Try.ntmps12
      go_wp2_with (first | ((with_reducible refine gate_callee (f := 15) rfl ?_); refine goesL_ (some 10) rfl rfl Try.func15 (by kernel_rfl) rfl #[.slice A0 l0.length c0, .int .i64 a1] rfl (by (try simp only [List.map_toArray, List.map_cons, List.map_nil]); first | done | rfl | (simp only [List.length_drop, List.length_take]; rfl)) ?_; (with_reducible refine (split_Degrees.calls k _ _ l0 a1 t412 t415 _ ?side1 ?side2 A3.out).mono ?_); (case side1 => repeat (first | exact HR0.out | (with_reducible refine Kd.C_alloc ?_ _) | (with_reducible refine Kd.C_drewN ?_ _) | (with_reducible refine Kd.C_drew ?_))); (case side2 => exact HC0.out); rintro e w6 ⟨v413, rfl, ho0, hb⟩; refine ⟨_, rfl, ?_⟩; have n0_ := Aside0.mk (Kd.N_lower (Kd.N_mono (ok' := fun k_ => True) ho0 (fun k_ hk_ => trivial)) (below_size (by repeat (first | (with_reducible first | exact HB.out | apply below_alloc | apply pw_below_drewN | apply below_drew1) | exact HB.out)))); have n1_ := Aside0.mk (below_step (by repeat (first | (with_reducible first | exact HB.out | apply below_alloc | apply pw_below_drewN | apply below_drew1) | exact HB.out)) hb); clear HB; have HO414 := n0_; have HB := n1_; clear n0_ n1_; (try clear hb); (try clear hb2); (try clear hk); (try clear hi); (try clear ho0); obtain ⟨Ao7, co7, eo7⟩ := Kd.N_slice HO414.out; subst eo7))
      go_ret
      exact ⟨by first | rfl | (simp [errW_none, errW_some] <;> rfl) | (simp [*, errW_none, errW_some] <;> rfl), by repeat (first | (with_reducible first | exact HB.out | apply below_alloc | apply pw_below_drewN | apply below_drew1) | exact HB.out)⟩
    · rw [if_neg c5] at H
      have c5b0 : ((t412.length : Int) == 0) = false := beq_eq_false_iff_ne.mpr c5
      have c5b1 : ((t412.length : Int) != 0) = true := bne_iff_ne.mpr c5
      have c5b2 : ¬ (t412 = []) := fun h_ => c5 (by rw [h_]; rfl)
      obtain ⟨ji8, hji8⟩ : ∃ j_ : Int, (wrap64 ((t412.length : Int) - 1)) = j_ := ⟨_, rfl⟩
      replace H : (if 0 ≤ (ji8) then (if (ji8) < (t412.length : Int) then (some ((wrap64 (((rd_L1 t412 (ji8)).length : Int) - 1)) == (t412.length : Int))) else (none)) else (none)) = some r := by first | (rw [hji8] at H; exact H) | (simp only [hji8] at H ⊢; exact H)
      (try rw [hji8] at A3)
      have hji8w : (IntKind.i64.wrap ((t412.length : Int) - 1)) = ji8 := (i64_w _).trans hji8
      by_cases c9 : 0 ≤ (ji8)
      · rw [if_pos c9] at H
        have c9b0 : decide (0 ≤ (ji8)) = true := decide_eq_true c9
        clear c9
        by_cases c10 : (ji8) < (t412.length : Int)
        · rw [if_pos c10] at H
          have c10b0 : decide ((ji8) < (t412.length : Int)) = true := decide_eq_true c10
          clear c10
          obtain rfl := Option.some.inj H
          go_enter Try.func12, Try.ntmps12
          go_wp2_with (first | ((with_reducible refine gate_callee (f := 15) rfl ?_); refine goesL_ (some 10) rfl rfl Try.func15 (by kernel_rfl) rfl #[.slice A0 l0.length c0, .int .i64 a1] rfl (by (try simp only [List.map_toArray, List.map_cons, List.map_nil]); first | done | rfl | (simp only [List.length_drop, List.length_take]; rfl)) ?_; (with_reducible refine (split_Degrees.calls k _ _ l0 a1 t412 t415 _ ?side1 ?side2 A3.out).mono ?_); (case side1 => repeat (first | exact HR0.out | (with_reducible refine Kd.C_alloc ?_ _) | (with_reducible refine Kd.C_drewN ?_ _) | (with_reducible refine Kd.C_drew ?_))); (case side2 => exact HC0.out); rintro e w11 ⟨v413, rfl, ho0, hb⟩; refine ⟨_, rfl, ?_⟩; have n0_ := Aside0.mk (Kd.N_lower (Kd.N_mono (ok' := fun k_ => True) ho0 (fun k_ hk_ => trivial)) (below_size (by repeat (first | (with_reducible first | exact HB.out | apply below_alloc | apply pw_below_drewN | apply below_drew1) | exact HB.out)))); have n1_ := Aside0.mk (below_step (by repeat (first | (with_reducible first | exact HB.out | apply below_alloc | apply pw_below_drewN | apply below_drew1) | exact HB.out)) hb); clear HB; have HO414 := n0_; have HB := n1_; clear n0_ n1_; (try clear hb); (try clear hb2); (try clear hk); (try clear hi); (try clear ho0); obtain ⟨Ao12, co12, eo12⟩ := Kd.N_slice HO414.out; subst eo12; have p416 : 0 ≤ ((ji8) : Int) := of_decide_eq_true (by first | (with_reducible assumption) | assumption); have q416 : (ji8) < (t412.length : Int) := of_decide_eq_true (by first | (with_reducible assumption) | assumption); obtain ⟨ad416, A416_0, c416_0, e416, hx416_0, hl416_0, hi416_0⟩ := at_L1 (Kd.N_reads' HO414.out).2.2 (ji8) p416 q416; cases e416; obtain ⟨ce416, hce416, hMe416, hcc416⟩ := Kd.N_get HO414.out [] (ji8) p416 (by first | exact q416 | exact of_decide_eq_true (by first | (with_reducible assumption) | assumption) | (have e_ := (Kd.N_reads' HO414.out).1; omega)); obtain ⟨ua416_0, uc416_0, rfl, ul416_0, ge416_0⟩ := Kd.FK_slice_open hMe416; have hv416_0 := hcc416 0 _ rfl; rw [Nat.add_zero, show ((Kd.slice 3 (Kd.int .i64))).sz = 1 from rfl, Nat.mul_one] at hv416_0; replace hv416_0 := Option.some.inj (hv416_0.symm.trans hx416_0); injection hv416_0 with hva_ hvn_ hvc_; rw [hva_] at ge416_0; rw [hvc_] at ul416_0; have HL416_0 := Aside0.mk (show Kd.V (Kd.int .i64) 3 _ w.heap.size _ _ (rd_L1 t412 (ji8)) from Kd.V_mk ul416_0 ge416_0); clear hva_ hvn_ hvc_ ge416_0 ul416_0; clear hcc416 hce416; have HR416_0 := Aside0.mk hi416_0; have HC416_0 := Aside0.mk hl416_0; clear hi416_0 hl416_0; replace p416 := eq_true p416; replace q416 := eq_true q416))
          go_ret
          exact ⟨by first | rfl | (simp [errW_none, errW_some] <;> rfl) | (simp only [← hji8]; first | rfl | (simp [errW_none, errW_some] <;> rfl)) | (simp [*, errW_none, errW_some] <;> rfl), by repeat (first | (with_reducible first | exact HB.out | apply below_alloc | apply pw_below_drewN | apply below_drew1) | exact HB.out)⟩
        · rw [if_neg c10] at H
          exact absurd H (by simp)
      · rw [if_neg c9] at H
        exact absurd H (by simp)
  · rw [if_neg c4] at H
    have c4b0 : (t415 == 0) = false := beq_eq_false_iff_ne.mpr c4
    have c4b1 : (t415 != 0) = true := bne_iff_ne.mpr c4
    obtain rfl := Option.some.inj H
    go_enter Try.func12, Try.ntmps12
    go_wp2_with (first | ((with_reducible refine gate_callee (f := 15) rfl ?_); refine goesL_ (some 10) rfl rfl Try.func15 (by kernel_rfl) rfl #[.slice A0 l0.length c0, .int .i64 a1] rfl (by (try simp only [List.map_toArray, List.map_cons, List.map_nil]); first | done | rfl | (simp only [List.length_drop, List.length_take]; rfl)) ?_; (with_reducible refine (split_Degrees.calls k _ _ l0 a1 t412 t415 _ ?side1 ?side2 A3.out).mono ?_); (case side1 => repeat (first | exact HR0.out | (with_reducible refine Kd.C_alloc ?_ _) | (with_reducible refine Kd.C_drewN ?_ _) | (with_reducible refine Kd.C_drew ?_))); (case side2 => exact HC0.out); rintro e w13 ⟨v413, rfl, ho0, hb⟩; refine ⟨_, rfl, ?_⟩; have n0_ := Aside0.mk (Kd.N_lower (Kd.N_mono (ok' := fun k_ => True) ho0 (fun k_ hk_ => trivial)) (below_size (by repeat (first | (with_reducible first | exact HB.out | apply below_alloc | apply pw_below_drewN | apply below_drew1) | exact HB.out)))); have n1_ := Aside0.mk (below_step (by repeat (first | (with_reducible first | exact HB.out | apply below_alloc | apply pw_below_drewN | apply below_drew1) | exact HB.out)) hb); clear HB; have HO414 := n0_; have HB := n1_; clear n0_ n1_; (try clear hb); (try clear hb2); (try clear hk); (try clear hi); (try clear ho0)))
    go_ret
    exact ⟨by first | rfl | (simp [errW_none, errW_some] <;> rfl) | (simp [*, errW_none, errW_some] <;> rfl), by repeat (first | (with_reducible first | exact HB.out | apply below_alloc | apply pw_below_drewN | apply below_drew1) | exact HB.out)⟩
def primroselaw11_awake.f (k : Nat)  : Option (Bool) := (split_Factor.f k (([4, 0, 1] : List Int)) 5 ([] : List Int)).bind fun bt420 => (if bt420.2 = 0 then ((primroseref11_Same.f k bt420.1 (([(([1, 1] : List Int)), (([4, 1] : List Int))] : List (List Int)))).bind fun t433 => (if t433 = true then ((split_Irreducible.f k (([1, 0, 1] : List Int)) 3).bind fun t437 => (if t437 = true then ((split_Irreducible.f k (([1, 0, 1] : List Int)) 5).bind fun t441 => (some (!t441))) else (some false))) else (some false))) else (some false))
set_option maxHeartbeats 8000000 in
set_option maxRecDepth 100000 in
theorem primroselaw11_awake.calls (k : Nat)  (r : Bool) (w : World) (h : primroselaw11_awake.f k  = some r) :
    Calls Try.prog 6 #[] w fun e w' => e = .returned (.bool r) ∧ Below w.heap.size w w' := by
  have HB := Aside0.mk (Below.refl w.heap.size w)
  have H : ((split_Factor.f k (([4, 0, 1] : List Int)) 5 ([] : List Int)).bind fun bt420 => (if bt420.2 = 0 then ((primroseref11_Same.f k bt420.1 (([(([1, 1] : List Int)), (([4, 1] : List Int))] : List (List Int)))).bind fun t433 => (if t433 = true then ((split_Irreducible.f k (([1, 0, 1] : List Int)) 3).bind fun t437 => (if t437 = true then ((split_Irreducible.f k (([1, 0, 1] : List Int)) 5).bind fun t441 => (some (!t441))) else (some false))) else (some false))) else (some false))) = some r := h
  clear h
  obtain ⟨y417, hy417⟩ : ∃ y_ : List Int, y_ = (([4, 0, 1] : List Int)) := ⟨_, rfl⟩
  replace H : ((split_Factor.f k y417 5 ([] : List Int)).bind fun bt420 => (if bt420.2 = 0 then ((primroseref11_Same.f k bt420.1 (([(([1, 1] : List Int)), (([4, 1] : List Int))] : List (List Int)))).bind fun t433 => (if t433 = true then ((split_Irreducible.f k (([1, 0, 1] : List Int)) 3).bind fun t437 => (if t437 = true then ((split_Irreducible.f k (([1, 0, 1] : List Int)) 5).bind fun t441 => (some (!t441))) else (some false))) else (some false))) else (some false))) = some r := by first | (rw [hy417]; with_reducible exact H) | (have H2_ := (Option.bind_some _ _).symm.trans H; rw [hy417]; with_reducible exact H2_) | (have H2_ := (Option.bind_some _ _).symm.trans H; with_reducible exact H2_) | with_reducible exact H | (rw [hy417]; exact H) | exact H
  have Ny417 := Aside0.mk hy417
  clear hy417
  replace H := Option.bind_eq_some_iff.mp H
  obtain ⟨⟨t420, t423⟩, A10, H⟩ := H
  replace H : (if t423 = 0 then ((primroseref11_Same.f k t420 (([(([1, 1] : List Int)), (([4, 1] : List Int))] : List (List Int)))).bind fun t433 => (if t433 = true then ((split_Irreducible.f k (([1, 0, 1] : List Int)) 3).bind fun t437 => (if t437 = true then ((split_Irreducible.f k (([1, 0, 1] : List Int)) 5).bind fun t441 => (some (!t441))) else (some false))) else (some false))) else (some false)) = some r := H
  have A1 := Aside0.mk A10
  clear A10
  by_cases c2 : t423 = 0
  · rw [if_pos c2] at H
    have c2b0 : (t423 == 0) = true := beq_iff_eq.mpr c2
    have c2b1 : (t423 != 0) = false := bne_eq_false_iff_eq.mpr c2
    clear c2
    obtain ⟨y424, hy424⟩ : ∃ y_ : List Int, y_ = (([1, 1] : List Int)) := ⟨_, rfl⟩
    replace H : ((primroseref11_Same.f k t420 (([y424, (([4, 1] : List Int))] : List (List Int)))).bind fun t433 => (if t433 = true then ((split_Irreducible.f k (([1, 0, 1] : List Int)) 3).bind fun t437 => (if t437 = true then ((split_Irreducible.f k (([1, 0, 1] : List Int)) 5).bind fun t441 => (some (!t441))) else (some false))) else (some false))) = some r := by first | (rw [hy424]; with_reducible exact H) | (have H2_ := (Option.bind_some _ _).symm.trans H; rw [hy424]; with_reducible exact H2_) | (have H2_ := (Option.bind_some _ _).symm.trans H; with_reducible exact H2_) | with_reducible exact H | (rw [hy424]; exact H) | exact H
    have Ny424 := Aside0.mk hy424
    clear hy424
    obtain ⟨y427, hy427⟩ : ∃ y_ : List Int, y_ = (([4, 1] : List Int)) := ⟨_, rfl⟩
    replace H : ((primroseref11_Same.f k t420 (([y424, y427] : List (List Int)))).bind fun t433 => (if t433 = true then ((split_Irreducible.f k (([1, 0, 1] : List Int)) 3).bind fun t437 => (if t437 = true then ((split_Irreducible.f k (([1, 0, 1] : List Int)) 5).bind fun t441 => (some (!t441))) else (some false))) else (some false))) = some r := by first | (rw [hy427]; with_reducible exact H) | (have H2_ := (Option.bind_some _ _).symm.trans H; rw [hy427]; with_reducible exact H2_) | (have H2_ := (Option.bind_some _ _).symm.trans H; with_reducible exact H2_) | with_reducible exact H | (rw [hy427]; exact H) | exact H
    have Ny427 := Aside0.mk hy427
    clear hy427
    obtain ⟨y430, hy430⟩ : ∃ y_ : List (List Int), y_ = (([y424, y427] : List (List Int))) := ⟨_, rfl⟩
    replace H : ((primroseref11_Same.f k t420 y430).bind fun t433 => (if t433 = true then ((split_Irreducible.f k (([1, 0, 1] : List Int)) 3).bind fun t437 => (if t437 = true then ((split_Irreducible.f k (([1, 0, 1] : List Int)) 5).bind fun t441 => (some (!t441))) else (some false))) else (some false))) = some r := by first | (rw [hy430]; with_reducible exact H) | (have H2_ := (Option.bind_some _ _).symm.trans H; rw [hy430]; with_reducible exact H2_) | (have H2_ := (Option.bind_some _ _).symm.trans H; with_reducible exact H2_) | with_reducible exact H | (rw [hy430]; exact H) | exact H
    have Ny430 := Aside0.mk hy430
    clear hy430
    replace H := Option.bind_eq_some_iff.mp H
    obtain ⟨t433, A30, H⟩ := H
    replace H : (if t433 = true then ((split_Irreducible.f k (([1, 0, 1] : List Int)) 3).bind fun t437 => (if t437 = true then ((split_Irreducible.f k (([1, 0, 1] : List Int)) 5).bind fun t441 => (some (!t441))) else (some false))) else (some false)) = some r := H
    have A3 := Aside0.mk A30
    clear A30
    by_cases c4 : t433 = true
    · subst c4
      have H1 : ((split_Irreducible.f k (([1, 0, 1] : List Int)) 3).bind fun t437 => (if t437 = true then ((split_Irreducible.f k (([1, 0, 1] : List Int)) 5).bind fun t441 => (some (!t441))) else (some false))) = some r := by rw [if_pos rfl] at H; exact H
      clear H
      have H := H1
      clear H1
      obtain ⟨y434, hy434⟩ : ∃ y_ : List Int, y_ = (([1, 0, 1] : List Int)) := ⟨_, rfl⟩
      replace H : ((split_Irreducible.f k y434 3).bind fun t437 => (if t437 = true then ((split_Irreducible.f k (([1, 0, 1] : List Int)) 5).bind fun t441 => (some (!t441))) else (some false))) = some r := by first | (rw [hy434]; with_reducible exact H) | (have H2_ := (Option.bind_some _ _).symm.trans H; rw [hy434]; with_reducible exact H2_) | (have H2_ := (Option.bind_some _ _).symm.trans H; with_reducible exact H2_) | with_reducible exact H | (rw [hy434]; exact H) | exact H
      have Ny434 := Aside0.mk hy434
      clear hy434
      replace H := Option.bind_eq_some_iff.mp H
      obtain ⟨t437, A50, H⟩ := H
      replace H : (if t437 = true then ((split_Irreducible.f k (([1, 0, 1] : List Int)) 5).bind fun t441 => (some (!t441))) else (some false)) = some r := H
      have A5 := Aside0.mk A50
      clear A50
      by_cases c6 : t437 = true
      · subst c6
        have H1 : ((split_Irreducible.f k (([1, 0, 1] : List Int)) 5).bind fun t441 => (some (!t441))) = some r := by rw [if_pos rfl] at H; exact H
        clear H
        have H := H1
        clear H1
        obtain ⟨y438, hy438⟩ : ∃ y_ : List Int, y_ = (([1, 0, 1] : List Int)) := ⟨_, rfl⟩
        replace H : ((split_Irreducible.f k y438 5).bind fun t441 => (some (!t441))) = some r := by first | (rw [hy438]; with_reducible exact H) | (have H2_ := (Option.bind_some _ _).symm.trans H; rw [hy438]; with_reducible exact H2_) | (have H2_ := (Option.bind_some _ _).symm.trans H; with_reducible exact H2_) | with_reducible exact H | (rw [hy438]; exact H) | exact H
        have Ny438 := Aside0.mk hy438
        clear hy438
        replace H := Option.bind_eq_some_iff.mp H
        obtain ⟨t441, A70, H⟩ := H
        replace H : (some (!t441)) = some r := H
        have A7 := Aside0.mk A70
        clear A70
        obtain rfl := Option.some.inj H
        go_enter Try.func6, Try.ntmps6
        have tok1 : True := trivial
        go_wp2_with (first | ((with_reducible refine gate_dst (N := 4) rfl ?_); (try (refine gate_guard (by rfl) ?_; dsimp only)); refine Kd.R_lit (Kd.int .i64) _ 3 ?hg (N := 4) ?hd (xs := ([4, 0, 1] : List Int)) (inner := [.int .i64 4, .int .i64 0, .int .i64 1]) (ok := fun _ => True) (okp := fun _ => True) ?hr ?hp (fun _ hk => hk) trivial (Below.refl _ _) (Nat.le_refl _) (by simp) ?_; (case hd => rfl); (case hg => rfl); (case hr => first | (go_simp; done) | (go_simp; rfl)); (case hp => exact (Reps.one (show Kd.M (Kd.int .i64) _ _ _ 4 [.int .i64 4] from rfl) (Reps.one (show Kd.M (Kd.int .i64) _ _ _ 0 [.int .i64 0] from rfl) (Reps.one (show Kd.M (Kd.int .i64) _ _ _ 1 [.int .i64 1] from rfl) (Reps.none _ _))))); intro v418 w8 ho9 hb hg_ hnew_; clear hg_ hnew_; (first | rw [← Ny417.out] at ho9 | (simp only [Int.reduceToNat] at ho9; rw [← Ny417.out] at ho9)); have n0_ := Aside0.mk (Kd.R_lower ho9 (below_size (by repeat (first | (with_reducible first | exact HB.out | apply below_alloc | apply pw_below_drewN | apply below_drew1) | exact HB.out)))); have n1_ := Aside0.mk (below_step (by repeat (first | (with_reducible first | exact HB.out | apply below_alloc | apply pw_below_drewN | apply below_drew1) | exact HB.out)) hb); clear HB; have HO419 := n0_; have HB := n1_; clear n0_ n1_; clear hb ho9; obtain ⟨Ao10, co10, eo10⟩ := Kd.R_slice HO419.out; subst eo10) | ((with_reducible refine gate_callee (f := 8) rfl ?_); refine goesL_ (some 5) rfl rfl Try.func8 (by kernel_rfl) rfl #[.slice Ao10 y417.length co10, .int .i64 5, .slice none 0 0] rfl (by (try simp only [List.map_toArray, List.map_cons, List.map_nil]); first | done | rfl | (simp only [List.length_drop, List.length_take]; rfl)) ?_; (refine (split_Factor.calls k _ _ y417 5 _ _ ([] : List Int) t420 t423 _ ?side1 ?side2 ?side3 ?side4 A1.out).mono ?_); (case side1 => repeat (first | exact (Kd.R_reads' HO419.out).2.2 | (with_reducible refine Kd.C_alloc ?_ _) | (with_reducible refine Kd.C_drewN ?_ _) | (with_reducible refine Kd.C_drew ?_))); (case side2 => exact (Kd.R_reads' HO419.out).2.1); (case side3 => exact Kd.C_nil _ _); (case side4 => exact Nat.le_refl _); rintro e w11 ⟨v421, rfl, ho0, hb⟩; refine ⟨_, rfl, ?_⟩; have n0_ := Aside0.mk (Kd.R_below (by (with_reducible repeat (first | apply Kd.R_alloc | apply Kd.R_drewN | apply Kd.R_drew)); exact HO419.out) hb); have n1_ := Aside0.mk (Kd.N_lower (Kd.N_mono (ok' := fun k_ => some k_ ≠ (.slice Ao10 y417.length co10 : Value).ownBlock) ho0 (fun k_ hk_ => (Kd.fresh' (Kd.R_lt (by (with_reducible repeat (first | apply Kd.R_alloc | apply Kd.R_drewN | apply Kd.R_drew)); exact HO419.out)) k_ hk_))) (below_size (by repeat (first | (with_reducible first | exact HB.out | apply below_alloc | apply pw_below_drewN | apply below_drew1) | exact HB.out)))); have n2_ := Aside0.mk (below_step (by repeat (first | (with_reducible first | exact HB.out | apply below_alloc | apply pw_below_drewN | apply below_drew1) | exact HB.out)) hb); clear HO419; clear HB; have HO419 := n0_; have HO422 := n1_; have HB := n2_; clear n0_ n1_ n2_; (try clear hb); (try clear hb2); (try clear hk); (try clear hi); (try clear ho0)) | ((with_reducible refine gate_dst (N := 12) rfl ?_); (try (refine gate_guard (by rfl) ?_; dsimp only)); refine Kd.R_lit (Kd.int .i64) _ 3 ?hg (N := 12) ?hd (xs := ([1, 1] : List Int)) (inner := [.int .i64 1, .int .i64 1]) (ok := fun _ => True) (okp := fun _ => True) ?hr ?hp (fun _ hk => hk) trivial (Below.refl _ _) (Nat.le_refl _) (by simp) ?_; (case hd => rfl); (case hg => rfl); (case hr => first | (go_simp; done) | (go_simp; rfl)); (case hp => exact (Reps.one (show Kd.M (Kd.int .i64) _ _ _ 1 [.int .i64 1] from rfl) (Reps.one (show Kd.M (Kd.int .i64) _ _ _ 1 [.int .i64 1] from rfl) (Reps.none _ _)))); intro v425 w12 ho13 hb hg_ hnew_; clear hg_ hnew_; (first | rw [← Ny424.out] at ho13 | (simp only [Int.reduceToNat] at ho13; rw [← Ny424.out] at ho13)); have n0_ := Aside0.mk (Kd.R_elder' (by (with_reducible repeat (first | apply Kd.R_alloc | apply Kd.R_drewN | apply Kd.R_drew)); exact HO419.out) (Kd.R_base ho13) hb); have n1_ := Aside0.mk (Kd.N_elder' (by (with_reducible repeat (first | apply Kd.N_alloc | apply Kd.N_drewN | apply Kd.N_drew)); exact HO422.out) (Kd.R_base ho13) hb); have n2_ := Aside0.mk (Kd.R_lower (Kd.R_new' ho13 (Kd.R_lt (by (with_reducible repeat (first | apply Kd.R_alloc | apply Kd.R_drewN | apply Kd.R_drew)); exact HO419.out))) (below_size (by repeat (first | (with_reducible first | exact HB.out | apply below_alloc | apply pw_below_drewN | apply below_drew1) | exact HB.out)))); have n3_ := Aside0.mk (below_step (by repeat (first | (with_reducible first | exact HB.out | apply below_alloc | apply pw_below_drewN | apply below_drew1) | exact HB.out)) hb); clear HO419; clear HO422; clear HB; have HO419 := n0_; have HO422 := n1_; have HO426 := n2_; have HB := n3_; clear n0_ n1_ n2_ n3_; clear hb ho13) | ((with_reducible refine gate_dst (N := 13) rfl ?_); (try (refine gate_guard (by rfl) ?_; dsimp only)); refine Kd.R_lit (Kd.int .i64) _ 3 ?hg (N := 13) ?hd (xs := ([4, 1] : List Int)) (inner := [.int .i64 4, .int .i64 1]) (ok := fun _ => True) (okp := fun _ => True) ?hr ?hp (fun _ hk => hk) trivial (Below.refl _ _) (Nat.le_refl _) (by simp) ?_; (case hd => rfl); (case hg => rfl); (case hr => first | (go_simp; done) | (go_simp; rfl)); (case hp => exact (Reps.one (show Kd.M (Kd.int .i64) _ _ _ 4 [.int .i64 4] from rfl) (Reps.one (show Kd.M (Kd.int .i64) _ _ _ 1 [.int .i64 1] from rfl) (Reps.none _ _)))); intro v428 w14 ho15 hb hg_ hnew_; clear hg_ hnew_; (first | rw [← Ny427.out] at ho15 | (simp only [Int.reduceToNat] at ho15; rw [← Ny427.out] at ho15)); have n0_ := Aside0.mk (Kd.R_elder' (by (with_reducible repeat (first | apply Kd.R_alloc | apply Kd.R_drewN | apply Kd.R_drew)); exact HO419.out) (Kd.R_base ho15) hb); have n1_ := Aside0.mk (Kd.N_elder' (by (with_reducible repeat (first | apply Kd.N_alloc | apply Kd.N_drewN | apply Kd.N_drew)); exact HO422.out) (Kd.R_base ho15) hb); have n2_ := Aside0.mk (Kd.R_elder' (by (with_reducible repeat (first | apply Kd.R_alloc | apply Kd.R_drewN | apply Kd.R_drew)); exact HO426.out) (Kd.R_base ho15) hb); have n3_ := Aside0.mk (Kd.R_lower (Kd.R_new' (Kd.R_new' ho15 (Kd.R_lt (by (with_reducible repeat (first | apply Kd.R_alloc | apply Kd.R_drewN | apply Kd.R_drew)); exact HO419.out))) (Kd.R_lt (by (with_reducible repeat (first | apply Kd.R_alloc | apply Kd.R_drewN | apply Kd.R_drew)); exact HO426.out))) (below_size (by repeat (first | (with_reducible first | exact HB.out | apply below_alloc | apply pw_below_drewN | apply below_drew1) | exact HB.out)))); have n4_ := Aside0.mk (below_step (by repeat (first | (with_reducible first | exact HB.out | apply below_alloc | apply pw_below_drewN | apply below_drew1) | exact HB.out)) hb); clear HO419; clear HO422; clear HO426; clear HB; have HO419 := n0_; have HO422 := n1_; have HO426 := n2_; have HO429 := n3_; have HB := n4_; clear n0_ n1_ n2_ n3_ n4_; clear hb ho15; obtain ⟨Ao16, co16, eo16⟩ := Kd.R_slice HO426.out; subst eo16; obtain ⟨Ao17, co17, eo17⟩ := Kd.R_slice HO429.out; subst eo17) | ((with_reducible refine gate_dst (N := 14) rfl ?_); (try (refine gate_guard (by rfl) ?_; dsimp only)); refine Kd.N_lit (Kd.slice 3 (Kd.int .i64)) _ 22 ?hg (N' := 14) ?hd (xs := ([y424, y427] : List (List Int))) (inner := [.slice Ao16 y424.length co16, .slice Ao17 y427.length co17]) (ok := (fun k_ => some k_ ≠ (.slice Ao10 y417.length co10 : Value).ownBlock ∧ some k_ ≠ (v421 : Value).ownBlock)) (okp := (fun k_ => some k_ ≠ (.slice Ao10 y417.length co10 : Value).ownBlock ∧ some k_ ≠ (v421 : Value).ownBlock)) ?hr ?hp (fun _ hk => hk) ((show ∀ k_, w14.heap.size ≤ k_ → (fun k_ => some k_ ≠ (.slice Ao10 y417.length co10 : Value).ownBlock ∧ some k_ ≠ (v421 : Value).ownBlock) k_ from fun k_ hk => ⟨Kd.fresh' (Kd.R_lt (by (with_reducible repeat (first | apply Kd.R_alloc | apply Kd.R_drewN | apply Kd.R_drew)); exact HO419.out)) k_ hk, Kd.fresh' (Kd.N_lt (by (with_reducible repeat (first | apply Kd.N_alloc | apply Kd.N_drewN | apply Kd.N_drew)); exact HO422.out)) k_ hk⟩) _ (Nat.le_refl _)) (Below.refl _ _) (Nat.le_refl _) (by simp) ?_; (case hd => rfl); (case hg => rfl); (case hr => first | (go_simp; done) | (go_simp; rfl)); (case hp => exact (Reps.one (show Kd.FK (Kd.slice 3 (Kd.int .i64)) _ _ y424 [.slice Ao16 y424.length co16] from (Kd.FK_slice_mk (Kd.R_reads' (Kd.R_mono (ok' := (fun k_ => some k_ ≠ (.slice Ao10 y417.length co10 : Value).ownBlock ∧ some k_ ≠ (v421 : Value).ownBlock)) (Kd.R_apart' (HO426.out) (Kd.N_typed HO422.out) (by decide)) (fun k_ hk => ⟨hk.1.1.2, hk.2⟩))).2.1 (Kd.R_F (Kd.R_mono (ok' := (fun k_ => some k_ ≠ (.slice Ao10 y417.length co10 : Value).ownBlock ∧ some k_ ≠ (v421 : Value).ownBlock)) (Kd.R_apart' (HO426.out) (Kd.N_typed HO422.out) (by decide)) (fun k_ hk => ⟨hk.1.1.2, hk.2⟩))))) (Reps.one (show Kd.FK (Kd.slice 3 (Kd.int .i64)) _ _ y427 [.slice Ao17 y427.length co17] from (Kd.FK_slice_mk (Kd.R_reads' (Kd.R_mono (ok' := (fun k_ => some k_ ≠ (.slice Ao10 y417.length co10 : Value).ownBlock ∧ some k_ ≠ (v421 : Value).ownBlock)) (Kd.R_apart' (HO429.out) (Kd.N_typed HO422.out) (by decide)) (fun k_ hk => ⟨hk.1.1.2, hk.2⟩))).2.1 (Kd.R_F (Kd.R_mono (ok' := (fun k_ => some k_ ≠ (.slice Ao10 y417.length co10 : Value).ownBlock ∧ some k_ ≠ (v421 : Value).ownBlock)) (Kd.R_apart' (HO429.out) (Kd.N_typed HO422.out) (by decide)) (fun k_ hk => ⟨hk.1.1.2, hk.2⟩))))) (Reps.none _ _)))); intro v431 w18 ho19 hb hg_ hnew_; clear hg_ hnew_; (first | rw [← Ny430.out] at ho19 | (simp only [Int.reduceToNat] at ho19; rw [← Ny430.out] at ho19)); have n0_ := Aside0.mk (Kd.R_below (by (with_reducible repeat (first | apply Kd.R_alloc | apply Kd.R_drewN | apply Kd.R_drew)); exact HO419.out) hb); have n1_ := Aside0.mk (Kd.N_elder' (by (with_reducible repeat (first | apply Kd.N_alloc | apply Kd.N_drewN | apply Kd.N_drew)); exact HO422.out) (Kd.N_base ho19) hb); have n2_ := Aside0.mk (Kd.N_lower ho19 (below_size (by repeat (first | (with_reducible first | exact HB.out | apply below_alloc | apply pw_below_drewN | apply below_drew1) | exact HB.out)))); have n3_ := Aside0.mk (below_step (by repeat (first | (with_reducible first | exact HB.out | apply below_alloc | apply pw_below_drewN | apply below_drew1) | exact HB.out)) hb); clear HO419; clear HO422; clear HB; clear HO426; clear HO429; have HO419 := n0_; have HO422 := n1_; have HO432 := n2_; have HB := n3_; clear n0_ n1_ n2_ n3_; clear hb ho19; obtain ⟨Ao20, co20, eo20⟩ := Kd.N_slice HO422.out; subst eo20; obtain ⟨Ao21, co21, eo21⟩ := Kd.N_slice HO432.out; subst eo21) | (go_at_call 10; (with_reducible refine (primroseref11_Same.calls k _ _ t420 _ _ y430 true _ ?side1 ?side2 ?side3 ?side4 A3.out).mono ?_); (case side1 => repeat (first | exact (Kd.N_reads' HO422.out).2.2 | (with_reducible refine Kd.C_alloc ?_ _) | (with_reducible refine Kd.C_drewN ?_ _) | (with_reducible refine Kd.C_drew ?_))); (case side2 => exact (Kd.N_reads' HO422.out).2.1); (case side3 => repeat (first | exact (Kd.N_reads' HO432.out).2.2 | (with_reducible refine Kd.C_alloc ?_ _) | (with_reducible refine Kd.C_drewN ?_ _) | (with_reducible refine Kd.C_drew ?_))); (case side4 => exact (Kd.N_reads' HO432.out).2.1); rintro e w' ⟨rfl, ⟨nd, rfl⟩⟩) | ((with_reducible refine gate_dst (N := 18) rfl ?_); (try (refine gate_guard (by rfl) ?_; dsimp only)); refine Kd.R_lit (Kd.int .i64) _ 3 ?hg (N := 18) ?hd (xs := ([1, 0, 1] : List Int)) (inner := [.int .i64 1, .int .i64 0, .int .i64 1]) (ok := fun _ => True) (okp := fun _ => True) ?hr ?hp (fun _ hk => hk) trivial (Below.refl _ _) (Nat.le_refl _) (by simp) ?_; (case hd => rfl); (case hg => rfl); (case hr => first | (go_simp; done) | (go_simp; rfl)); (case hp => exact (Reps.one (show Kd.M (Kd.int .i64) _ _ _ 1 [.int .i64 1] from rfl) (Reps.one (show Kd.M (Kd.int .i64) _ _ _ 0 [.int .i64 0] from rfl) (Reps.one (show Kd.M (Kd.int .i64) _ _ _ 1 [.int .i64 1] from rfl) (Reps.none _ _))))); intro v435 w22 ho23 hb hg_ hnew_; clear hg_ hnew_; (first | rw [← Ny434.out] at ho23 | (simp only [Int.reduceToNat] at ho23; rw [← Ny434.out] at ho23)); have n0_ := Aside0.mk (Kd.R_elder' (by (with_reducible repeat (first | apply Kd.R_alloc | apply Kd.R_drewN | apply Kd.R_drew)); exact HO419.out) (Kd.R_base ho23) hb); have n1_ := Aside0.mk (Kd.N_elder' (by (with_reducible repeat (first | apply Kd.N_alloc | apply Kd.N_drewN | apply Kd.N_drew)); exact HO422.out) (Kd.R_base ho23) hb); have n2_ := Aside0.mk (Kd.N_elder' (by (with_reducible repeat (first | apply Kd.N_alloc | apply Kd.N_drewN | apply Kd.N_drew)); exact HO432.out) (Kd.R_base ho23) hb); have n3_ := Aside0.mk (Kd.R_lower (Kd.R_new' ho23 (Kd.R_lt (by (with_reducible repeat (first | apply Kd.R_alloc | apply Kd.R_drewN | apply Kd.R_drew)); exact HO419.out))) (below_size (by repeat (first | (with_reducible first | exact HB.out | apply below_alloc | apply pw_below_drewN | apply below_drew1) | exact HB.out)))); have n4_ := Aside0.mk (below_step (by repeat (first | (with_reducible first | exact HB.out | apply below_alloc | apply pw_below_drewN | apply below_drew1) | exact HB.out)) hb); clear HO419; clear HO422; clear HO432; clear HB; have HO419 := n0_; have HO422 := n1_; have HO432 := n2_; have HO436 := n3_; have HB := n4_; clear n0_ n1_ n2_ n3_ n4_; clear hb ho23; obtain ⟨Ao24, co24, eo24⟩ := Kd.R_slice HO436.out; subst eo24) | (go_at_call 12; have _tk := tok1; clear _tk; (with_reducible refine (split_Irreducible.calls k _ _ y434 3 true _ ?side1 ?side2 A5.out).mono ?_); (case side1 => repeat (first | exact (Kd.R_reads' HO436.out).2.2 | (with_reducible refine Kd.C_alloc ?_ _) | (with_reducible refine Kd.C_drewN ?_ _) | (with_reducible refine Kd.C_drew ?_))); (case side2 => exact (Kd.R_reads' HO436.out).2.1); rintro e w25 ⟨rfl, hb⟩; have n0_ := Aside0.mk (Kd.R_below (by (with_reducible repeat (first | apply Kd.R_alloc | apply Kd.R_drewN | apply Kd.R_drew)); exact HO419.out) hb); have n1_ := Aside0.mk (Kd.N_below (by (with_reducible repeat (first | apply Kd.N_alloc | apply Kd.N_drewN | apply Kd.N_drew)); exact HO422.out) hb); have n2_ := Aside0.mk (Kd.N_below (by (with_reducible repeat (first | apply Kd.N_alloc | apply Kd.N_drewN | apply Kd.N_drew)); exact HO432.out) hb); have n3_ := Aside0.mk (Kd.R_below (by (with_reducible repeat (first | apply Kd.R_alloc | apply Kd.R_drewN | apply Kd.R_drew)); exact HO436.out) hb); have n4_ := Aside0.mk (below_step (by repeat (first | (with_reducible first | exact HB.out | apply below_alloc | apply pw_below_drewN | apply below_drew1) | exact HB.out)) hb); clear HO419; clear HO422; clear HO432; clear HO436; clear HB; have HO419 := n0_; have HO422 := n1_; have HO432 := n2_; have HO436 := n3_; have HB := n4_; clear n0_ n1_ n2_ n3_ n4_; (try clear hb); (try clear hb2); (try clear hk); (try clear hi); clear tok1) | ((with_reducible refine gate_dst (N := 22) rfl ?_); (try (refine gate_guard (by rfl) ?_; dsimp only)); refine Kd.R_lit (Kd.int .i64) _ 3 ?hg (N := 22) ?hd (xs := ([1, 0, 1] : List Int)) (inner := [.int .i64 1, .int .i64 0, .int .i64 1]) (ok := fun _ => True) (okp := fun _ => True) ?hr ?hp (fun _ hk => hk) trivial (Below.refl _ _) (Nat.le_refl _) (by simp) ?_; (case hd => rfl); (case hg => rfl); (case hr => first | (go_simp; done) | (go_simp; rfl)); (case hp => exact (Reps.one (show Kd.M (Kd.int .i64) _ _ _ 1 [.int .i64 1] from rfl) (Reps.one (show Kd.M (Kd.int .i64) _ _ _ 0 [.int .i64 0] from rfl) (Reps.one (show Kd.M (Kd.int .i64) _ _ _ 1 [.int .i64 1] from rfl) (Reps.none _ _))))); intro v439 w26 ho27 hb hg_ hnew_; clear hg_ hnew_; (first | rw [← Ny438.out] at ho27 | (simp only [Int.reduceToNat] at ho27; rw [← Ny438.out] at ho27)); have n0_ := Aside0.mk (Kd.R_elder' (by (with_reducible repeat (first | apply Kd.R_alloc | apply Kd.R_drewN | apply Kd.R_drew)); exact HO419.out) (Kd.R_base ho27) hb); have n1_ := Aside0.mk (Kd.N_elder' (by (with_reducible repeat (first | apply Kd.N_alloc | apply Kd.N_drewN | apply Kd.N_drew)); exact HO422.out) (Kd.R_base ho27) hb); have n2_ := Aside0.mk (Kd.N_elder' (by (with_reducible repeat (first | apply Kd.N_alloc | apply Kd.N_drewN | apply Kd.N_drew)); exact HO432.out) (Kd.R_base ho27) hb); have n3_ := Aside0.mk (Kd.R_elder' (by (with_reducible repeat (first | apply Kd.R_alloc | apply Kd.R_drewN | apply Kd.R_drew)); exact HO436.out) (Kd.R_base ho27) hb); have n4_ := Aside0.mk (Kd.R_lower (Kd.R_new' (Kd.R_new' ho27 (Kd.R_lt (by (with_reducible repeat (first | apply Kd.R_alloc | apply Kd.R_drewN | apply Kd.R_drew)); exact HO419.out))) (Kd.R_lt (by (with_reducible repeat (first | apply Kd.R_alloc | apply Kd.R_drewN | apply Kd.R_drew)); exact HO436.out))) (below_size (by repeat (first | (with_reducible first | exact HB.out | apply below_alloc | apply pw_below_drewN | apply below_drew1) | exact HB.out)))); have n5_ := Aside0.mk (below_step (by repeat (first | (with_reducible first | exact HB.out | apply below_alloc | apply pw_below_drewN | apply below_drew1) | exact HB.out)) hb); clear HO419; clear HO422; clear HO432; clear HO436; clear HB; have HO419 := n0_; have HO422 := n1_; have HO432 := n2_; have HO436 := n3_; have HO440 := n4_; have HB := n5_; clear n0_ n1_ n2_ n3_ n4_ n5_; clear hb ho27; obtain ⟨Ao28, co28, eo28⟩ := Kd.R_slice HO440.out; subst eo28) | (go_at_call 12; (with_reducible refine (split_Irreducible.calls k _ _ y438 5 t441 _ ?side1 ?side2 A7.out).mono ?_); (case side1 => repeat (first | exact (Kd.R_reads' HO440.out).2.2 | (with_reducible refine Kd.C_alloc ?_ _) | (with_reducible refine Kd.C_drewN ?_ _) | (with_reducible refine Kd.C_drew ?_))); (case side2 => exact (Kd.R_reads' HO440.out).2.1); rintro e w29 ⟨rfl, hb⟩; have n0_ := Aside0.mk (Kd.R_below (by (with_reducible repeat (first | apply Kd.R_alloc | apply Kd.R_drewN | apply Kd.R_drew)); exact HO419.out) hb); have n1_ := Aside0.mk (Kd.N_below (by (with_reducible repeat (first | apply Kd.N_alloc | apply Kd.N_drewN | apply Kd.N_drew)); exact HO422.out) hb); have n2_ := Aside0.mk (Kd.N_below (by (with_reducible repeat (first | apply Kd.N_alloc | apply Kd.N_drewN | apply Kd.N_drew)); exact HO432.out) hb); have n3_ := Aside0.mk (Kd.R_below (by (with_reducible repeat (first | apply Kd.R_alloc | apply Kd.R_drewN | apply Kd.R_drew)); exact HO436.out) hb); have n4_ := Aside0.mk (Kd.R_below (by (with_reducible repeat (first | apply Kd.R_alloc | apply Kd.R_drewN | apply Kd.R_drew)); exact HO440.out) hb); have n5_ := Aside0.mk (below_step (by repeat (first | (with_reducible first | exact HB.out | apply below_alloc | apply pw_below_drewN | apply below_drew1) | exact HB.out)) hb); clear HO419; clear HO422; clear HO432; clear HO436; clear HO440; clear HB; have HO419 := n0_; have HO422 := n1_; have HO432 := n2_; have HO436 := n3_; have HO440 := n4_; have HB := n5_; clear n0_ n1_ n2_ n3_ n4_ n5_; (try clear hb); (try clear hb2); (try clear hk); (try clear hi)))
        go_ret
        exact ⟨by first | rfl | (simp [errW_none, errW_some] <;> rfl) | (simp [*, errW_none, errW_some] <;> rfl), by repeat (first | (with_reducible first | exact HB.out | apply below_alloc | apply pw_below_drewN | apply below_drew1) | exact HB.out)⟩
      · replace c6 := Bool.eq_false_iff.mpr c6
        subst c6
        have H1 : (some false) = some r := by rw [if_neg (show ¬ (false = true) by decide)] at H; exact H
        clear H
        have H := H1
        clear H1
        obtain rfl := Option.some.inj H
        go_enter Try.func6, Try.ntmps6
        go_wp2_with (first | ((with_reducible refine gate_dst (N := 4) rfl ?_); (try (refine gate_guard (by rfl) ?_; dsimp only)); refine Kd.R_lit (Kd.int .i64) _ 3 ?hg (N := 4) ?hd (xs := ([4, 0, 1] : List Int)) (inner := [.int .i64 4, .int .i64 0, .int .i64 1]) (ok := fun _ => True) (okp := fun _ => True) ?hr ?hp (fun _ hk => hk) trivial (Below.refl _ _) (Nat.le_refl _) (by simp) ?_; (case hd => rfl); (case hg => rfl); (case hr => first | (go_simp; done) | (go_simp; rfl)); (case hp => exact (Reps.one (show Kd.M (Kd.int .i64) _ _ _ 4 [.int .i64 4] from rfl) (Reps.one (show Kd.M (Kd.int .i64) _ _ _ 0 [.int .i64 0] from rfl) (Reps.one (show Kd.M (Kd.int .i64) _ _ _ 1 [.int .i64 1] from rfl) (Reps.none _ _))))); intro v418 w30 ho31 hb hg_ hnew_; clear hg_ hnew_; (first | rw [← Ny417.out] at ho31 | (simp only [Int.reduceToNat] at ho31; rw [← Ny417.out] at ho31)); have n0_ := Aside0.mk (Kd.R_lower ho31 (below_size (by repeat (first | (with_reducible first | exact HB.out | apply below_alloc | apply pw_below_drewN | apply below_drew1) | exact HB.out)))); have n1_ := Aside0.mk (below_step (by repeat (first | (with_reducible first | exact HB.out | apply below_alloc | apply pw_below_drewN | apply below_drew1) | exact HB.out)) hb); clear HB; have HO419 := n0_; have HB := n1_; clear n0_ n1_; clear hb ho31; obtain ⟨Ao32, co32, eo32⟩ := Kd.R_slice HO419.out; subst eo32) | ((with_reducible refine gate_callee (f := 8) rfl ?_); refine goesL_ (some 5) rfl rfl Try.func8 (by kernel_rfl) rfl #[.slice Ao32 y417.length co32, .int .i64 5, .slice none 0 0] rfl (by (try simp only [List.map_toArray, List.map_cons, List.map_nil]); first | done | rfl | (simp only [List.length_drop, List.length_take]; rfl)) ?_; (refine (split_Factor.calls k _ _ y417 5 _ _ ([] : List Int) t420 t423 _ ?side1 ?side2 ?side3 ?side4 A1.out).mono ?_); (case side1 => repeat (first | exact (Kd.R_reads' HO419.out).2.2 | (with_reducible refine Kd.C_alloc ?_ _) | (with_reducible refine Kd.C_drewN ?_ _) | (with_reducible refine Kd.C_drew ?_))); (case side2 => exact (Kd.R_reads' HO419.out).2.1); (case side3 => exact Kd.C_nil _ _); (case side4 => exact Nat.le_refl _); rintro e w33 ⟨v421, rfl, ho0, hb⟩; refine ⟨_, rfl, ?_⟩; have n0_ := Aside0.mk (Kd.R_below (by (with_reducible repeat (first | apply Kd.R_alloc | apply Kd.R_drewN | apply Kd.R_drew)); exact HO419.out) hb); have n1_ := Aside0.mk (Kd.N_lower (Kd.N_mono (ok' := fun k_ => some k_ ≠ (.slice Ao32 y417.length co32 : Value).ownBlock) ho0 (fun k_ hk_ => (Kd.fresh' (Kd.R_lt (by (with_reducible repeat (first | apply Kd.R_alloc | apply Kd.R_drewN | apply Kd.R_drew)); exact HO419.out)) k_ hk_))) (below_size (by repeat (first | (with_reducible first | exact HB.out | apply below_alloc | apply pw_below_drewN | apply below_drew1) | exact HB.out)))); have n2_ := Aside0.mk (below_step (by repeat (first | (with_reducible first | exact HB.out | apply below_alloc | apply pw_below_drewN | apply below_drew1) | exact HB.out)) hb); clear HO419; clear HB; have HO419 := n0_; have HO422 := n1_; have HB := n2_; clear n0_ n1_ n2_; (try clear hb); (try clear hb2); (try clear hk); (try clear hi); (try clear ho0)) | ((with_reducible refine gate_dst (N := 12) rfl ?_); (try (refine gate_guard (by rfl) ?_; dsimp only)); refine Kd.R_lit (Kd.int .i64) _ 3 ?hg (N := 12) ?hd (xs := ([1, 1] : List Int)) (inner := [.int .i64 1, .int .i64 1]) (ok := fun _ => True) (okp := fun _ => True) ?hr ?hp (fun _ hk => hk) trivial (Below.refl _ _) (Nat.le_refl _) (by simp) ?_; (case hd => rfl); (case hg => rfl); (case hr => first | (go_simp; done) | (go_simp; rfl)); (case hp => exact (Reps.one (show Kd.M (Kd.int .i64) _ _ _ 1 [.int .i64 1] from rfl) (Reps.one (show Kd.M (Kd.int .i64) _ _ _ 1 [.int .i64 1] from rfl) (Reps.none _ _)))); intro v425 w34 ho35 hb hg_ hnew_; clear hg_ hnew_; (first | rw [← Ny424.out] at ho35 | (simp only [Int.reduceToNat] at ho35; rw [← Ny424.out] at ho35)); have n0_ := Aside0.mk (Kd.R_elder' (by (with_reducible repeat (first | apply Kd.R_alloc | apply Kd.R_drewN | apply Kd.R_drew)); exact HO419.out) (Kd.R_base ho35) hb); have n1_ := Aside0.mk (Kd.N_elder' (by (with_reducible repeat (first | apply Kd.N_alloc | apply Kd.N_drewN | apply Kd.N_drew)); exact HO422.out) (Kd.R_base ho35) hb); have n2_ := Aside0.mk (Kd.R_lower (Kd.R_new' ho35 (Kd.R_lt (by (with_reducible repeat (first | apply Kd.R_alloc | apply Kd.R_drewN | apply Kd.R_drew)); exact HO419.out))) (below_size (by repeat (first | (with_reducible first | exact HB.out | apply below_alloc | apply pw_below_drewN | apply below_drew1) | exact HB.out)))); have n3_ := Aside0.mk (below_step (by repeat (first | (with_reducible first | exact HB.out | apply below_alloc | apply pw_below_drewN | apply below_drew1) | exact HB.out)) hb); clear HO419; clear HO422; clear HB; have HO419 := n0_; have HO422 := n1_; have HO426 := n2_; have HB := n3_; clear n0_ n1_ n2_ n3_; clear hb ho35) | ((with_reducible refine gate_dst (N := 13) rfl ?_); (try (refine gate_guard (by rfl) ?_; dsimp only)); refine Kd.R_lit (Kd.int .i64) _ 3 ?hg (N := 13) ?hd (xs := ([4, 1] : List Int)) (inner := [.int .i64 4, .int .i64 1]) (ok := fun _ => True) (okp := fun _ => True) ?hr ?hp (fun _ hk => hk) trivial (Below.refl _ _) (Nat.le_refl _) (by simp) ?_; (case hd => rfl); (case hg => rfl); (case hr => first | (go_simp; done) | (go_simp; rfl)); (case hp => exact (Reps.one (show Kd.M (Kd.int .i64) _ _ _ 4 [.int .i64 4] from rfl) (Reps.one (show Kd.M (Kd.int .i64) _ _ _ 1 [.int .i64 1] from rfl) (Reps.none _ _)))); intro v428 w36 ho37 hb hg_ hnew_; clear hg_ hnew_; (first | rw [← Ny427.out] at ho37 | (simp only [Int.reduceToNat] at ho37; rw [← Ny427.out] at ho37)); have n0_ := Aside0.mk (Kd.R_elder' (by (with_reducible repeat (first | apply Kd.R_alloc | apply Kd.R_drewN | apply Kd.R_drew)); exact HO419.out) (Kd.R_base ho37) hb); have n1_ := Aside0.mk (Kd.N_elder' (by (with_reducible repeat (first | apply Kd.N_alloc | apply Kd.N_drewN | apply Kd.N_drew)); exact HO422.out) (Kd.R_base ho37) hb); have n2_ := Aside0.mk (Kd.R_elder' (by (with_reducible repeat (first | apply Kd.R_alloc | apply Kd.R_drewN | apply Kd.R_drew)); exact HO426.out) (Kd.R_base ho37) hb); have n3_ := Aside0.mk (Kd.R_lower (Kd.R_new' (Kd.R_new' ho37 (Kd.R_lt (by (with_reducible repeat (first | apply Kd.R_alloc | apply Kd.R_drewN | apply Kd.R_drew)); exact HO419.out))) (Kd.R_lt (by (with_reducible repeat (first | apply Kd.R_alloc | apply Kd.R_drewN | apply Kd.R_drew)); exact HO426.out))) (below_size (by repeat (first | (with_reducible first | exact HB.out | apply below_alloc | apply pw_below_drewN | apply below_drew1) | exact HB.out)))); have n4_ := Aside0.mk (below_step (by repeat (first | (with_reducible first | exact HB.out | apply below_alloc | apply pw_below_drewN | apply below_drew1) | exact HB.out)) hb); clear HO419; clear HO422; clear HO426; clear HB; have HO419 := n0_; have HO422 := n1_; have HO426 := n2_; have HO429 := n3_; have HB := n4_; clear n0_ n1_ n2_ n3_ n4_; clear hb ho37; obtain ⟨Ao38, co38, eo38⟩ := Kd.R_slice HO426.out; subst eo38; obtain ⟨Ao39, co39, eo39⟩ := Kd.R_slice HO429.out; subst eo39) | ((with_reducible refine gate_dst (N := 14) rfl ?_); (try (refine gate_guard (by rfl) ?_; dsimp only)); refine Kd.N_lit (Kd.slice 3 (Kd.int .i64)) _ 22 ?hg (N' := 14) ?hd (xs := ([y424, y427] : List (List Int))) (inner := [.slice Ao38 y424.length co38, .slice Ao39 y427.length co39]) (ok := (fun k_ => some k_ ≠ (.slice Ao32 y417.length co32 : Value).ownBlock ∧ some k_ ≠ (v421 : Value).ownBlock)) (okp := (fun k_ => some k_ ≠ (.slice Ao32 y417.length co32 : Value).ownBlock ∧ some k_ ≠ (v421 : Value).ownBlock)) ?hr ?hp (fun _ hk => hk) ((show ∀ k_, w36.heap.size ≤ k_ → (fun k_ => some k_ ≠ (.slice Ao32 y417.length co32 : Value).ownBlock ∧ some k_ ≠ (v421 : Value).ownBlock) k_ from fun k_ hk => ⟨Kd.fresh' (Kd.R_lt (by (with_reducible repeat (first | apply Kd.R_alloc | apply Kd.R_drewN | apply Kd.R_drew)); exact HO419.out)) k_ hk, Kd.fresh' (Kd.N_lt (by (with_reducible repeat (first | apply Kd.N_alloc | apply Kd.N_drewN | apply Kd.N_drew)); exact HO422.out)) k_ hk⟩) _ (Nat.le_refl _)) (Below.refl _ _) (Nat.le_refl _) (by simp) ?_; (case hd => rfl); (case hg => rfl); (case hr => first | (go_simp; done) | (go_simp; rfl)); (case hp => exact (Reps.one (show Kd.FK (Kd.slice 3 (Kd.int .i64)) _ _ y424 [.slice Ao38 y424.length co38] from (Kd.FK_slice_mk (Kd.R_reads' (Kd.R_mono (ok' := (fun k_ => some k_ ≠ (.slice Ao32 y417.length co32 : Value).ownBlock ∧ some k_ ≠ (v421 : Value).ownBlock)) (Kd.R_apart' (HO426.out) (Kd.N_typed HO422.out) (by decide)) (fun k_ hk => ⟨hk.1.1.2, hk.2⟩))).2.1 (Kd.R_F (Kd.R_mono (ok' := (fun k_ => some k_ ≠ (.slice Ao32 y417.length co32 : Value).ownBlock ∧ some k_ ≠ (v421 : Value).ownBlock)) (Kd.R_apart' (HO426.out) (Kd.N_typed HO422.out) (by decide)) (fun k_ hk => ⟨hk.1.1.2, hk.2⟩))))) (Reps.one (show Kd.FK (Kd.slice 3 (Kd.int .i64)) _ _ y427 [.slice Ao39 y427.length co39] from (Kd.FK_slice_mk (Kd.R_reads' (Kd.R_mono (ok' := (fun k_ => some k_ ≠ (.slice Ao32 y417.length co32 : Value).ownBlock ∧ some k_ ≠ (v421 : Value).ownBlock)) (Kd.R_apart' (HO429.out) (Kd.N_typed HO422.out) (by decide)) (fun k_ hk => ⟨hk.1.1.2, hk.2⟩))).2.1 (Kd.R_F (Kd.R_mono (ok' := (fun k_ => some k_ ≠ (.slice Ao32 y417.length co32 : Value).ownBlock ∧ some k_ ≠ (v421 : Value).ownBlock)) (Kd.R_apart' (HO429.out) (Kd.N_typed HO422.out) (by decide)) (fun k_ hk => ⟨hk.1.1.2, hk.2⟩))))) (Reps.none _ _)))); intro v431 w40 ho41 hb hg_ hnew_; clear hg_ hnew_; (first | rw [← Ny430.out] at ho41 | (simp only [Int.reduceToNat] at ho41; rw [← Ny430.out] at ho41)); have n0_ := Aside0.mk (Kd.R_below (by (with_reducible repeat (first | apply Kd.R_alloc | apply Kd.R_drewN | apply Kd.R_drew)); exact HO419.out) hb); have n1_ := Aside0.mk (Kd.N_elder' (by (with_reducible repeat (first | apply Kd.N_alloc | apply Kd.N_drewN | apply Kd.N_drew)); exact HO422.out) (Kd.N_base ho41) hb); have n2_ := Aside0.mk (Kd.N_lower ho41 (below_size (by repeat (first | (with_reducible first | exact HB.out | apply below_alloc | apply pw_below_drewN | apply below_drew1) | exact HB.out)))); have n3_ := Aside0.mk (below_step (by repeat (first | (with_reducible first | exact HB.out | apply below_alloc | apply pw_below_drewN | apply below_drew1) | exact HB.out)) hb); clear HO419; clear HO422; clear HB; clear HO426; clear HO429; have HO419 := n0_; have HO422 := n1_; have HO432 := n2_; have HB := n3_; clear n0_ n1_ n2_ n3_; clear hb ho41; obtain ⟨Ao42, co42, eo42⟩ := Kd.N_slice HO422.out; subst eo42; obtain ⟨Ao43, co43, eo43⟩ := Kd.N_slice HO432.out; subst eo43) | (go_at_call 10; (with_reducible refine (primroseref11_Same.calls k _ _ t420 _ _ y430 true _ ?side1 ?side2 ?side3 ?side4 A3.out).mono ?_); (case side1 => repeat (first | exact (Kd.N_reads' HO422.out).2.2 | (with_reducible refine Kd.C_alloc ?_ _) | (with_reducible refine Kd.C_drewN ?_ _) | (with_reducible refine Kd.C_drew ?_))); (case side2 => exact (Kd.N_reads' HO422.out).2.1); (case side3 => repeat (first | exact (Kd.N_reads' HO432.out).2.2 | (with_reducible refine Kd.C_alloc ?_ _) | (with_reducible refine Kd.C_drewN ?_ _) | (with_reducible refine Kd.C_drew ?_))); (case side4 => exact (Kd.N_reads' HO432.out).2.1); rintro e w' ⟨rfl, ⟨nd, rfl⟩⟩) | ((with_reducible refine gate_dst (N := 18) rfl ?_); (try (refine gate_guard (by rfl) ?_; dsimp only)); refine Kd.R_lit (Kd.int .i64) _ 3 ?hg (N := 18) ?hd (xs := ([1, 0, 1] : List Int)) (inner := [.int .i64 1, .int .i64 0, .int .i64 1]) (ok := fun _ => True) (okp := fun _ => True) ?hr ?hp (fun _ hk => hk) trivial (Below.refl _ _) (Nat.le_refl _) (by simp) ?_; (case hd => rfl); (case hg => rfl); (case hr => first | (go_simp; done) | (go_simp; rfl)); (case hp => exact (Reps.one (show Kd.M (Kd.int .i64) _ _ _ 1 [.int .i64 1] from rfl) (Reps.one (show Kd.M (Kd.int .i64) _ _ _ 0 [.int .i64 0] from rfl) (Reps.one (show Kd.M (Kd.int .i64) _ _ _ 1 [.int .i64 1] from rfl) (Reps.none _ _))))); intro v435 w44 ho45 hb hg_ hnew_; clear hg_ hnew_; (first | rw [← Ny434.out] at ho45 | (simp only [Int.reduceToNat] at ho45; rw [← Ny434.out] at ho45)); have n0_ := Aside0.mk (Kd.R_elder' (by (with_reducible repeat (first | apply Kd.R_alloc | apply Kd.R_drewN | apply Kd.R_drew)); exact HO419.out) (Kd.R_base ho45) hb); have n1_ := Aside0.mk (Kd.N_elder' (by (with_reducible repeat (first | apply Kd.N_alloc | apply Kd.N_drewN | apply Kd.N_drew)); exact HO422.out) (Kd.R_base ho45) hb); have n2_ := Aside0.mk (Kd.N_elder' (by (with_reducible repeat (first | apply Kd.N_alloc | apply Kd.N_drewN | apply Kd.N_drew)); exact HO432.out) (Kd.R_base ho45) hb); have n3_ := Aside0.mk (Kd.R_lower (Kd.R_new' ho45 (Kd.R_lt (by (with_reducible repeat (first | apply Kd.R_alloc | apply Kd.R_drewN | apply Kd.R_drew)); exact HO419.out))) (below_size (by repeat (first | (with_reducible first | exact HB.out | apply below_alloc | apply pw_below_drewN | apply below_drew1) | exact HB.out)))); have n4_ := Aside0.mk (below_step (by repeat (first | (with_reducible first | exact HB.out | apply below_alloc | apply pw_below_drewN | apply below_drew1) | exact HB.out)) hb); clear HO419; clear HO422; clear HO432; clear HB; have HO419 := n0_; have HO422 := n1_; have HO432 := n2_; have HO436 := n3_; have HB := n4_; clear n0_ n1_ n2_ n3_ n4_; clear hb ho45; obtain ⟨Ao46, co46, eo46⟩ := Kd.R_slice HO436.out; subst eo46) | (go_at_call 12; (with_reducible refine (split_Irreducible.calls k _ _ y434 3 false _ ?side1 ?side2 A5.out).mono ?_); (case side1 => repeat (first | exact (Kd.R_reads' HO436.out).2.2 | (with_reducible refine Kd.C_alloc ?_ _) | (with_reducible refine Kd.C_drewN ?_ _) | (with_reducible refine Kd.C_drew ?_))); (case side2 => exact (Kd.R_reads' HO436.out).2.1); rintro e w47 ⟨rfl, hb⟩; have n0_ := Aside0.mk (Kd.R_below (by (with_reducible repeat (first | apply Kd.R_alloc | apply Kd.R_drewN | apply Kd.R_drew)); exact HO419.out) hb); have n1_ := Aside0.mk (Kd.N_below (by (with_reducible repeat (first | apply Kd.N_alloc | apply Kd.N_drewN | apply Kd.N_drew)); exact HO422.out) hb); have n2_ := Aside0.mk (Kd.N_below (by (with_reducible repeat (first | apply Kd.N_alloc | apply Kd.N_drewN | apply Kd.N_drew)); exact HO432.out) hb); have n3_ := Aside0.mk (Kd.R_below (by (with_reducible repeat (first | apply Kd.R_alloc | apply Kd.R_drewN | apply Kd.R_drew)); exact HO436.out) hb); have n4_ := Aside0.mk (below_step (by repeat (first | (with_reducible first | exact HB.out | apply below_alloc | apply pw_below_drewN | apply below_drew1) | exact HB.out)) hb); clear HO419; clear HO422; clear HO432; clear HO436; clear HB; have HO419 := n0_; have HO422 := n1_; have HO432 := n2_; have HO436 := n3_; have HB := n4_; clear n0_ n1_ n2_ n3_ n4_; (try clear hb); (try clear hb2); (try clear hk); (try clear hi)))
        go_ret
        exact ⟨by first | rfl | (simp [errW_none, errW_some] <;> rfl) | (simp [*, errW_none, errW_some] <;> rfl), by repeat (first | (with_reducible first | exact HB.out | apply below_alloc | apply pw_below_drewN | apply below_drew1) | exact HB.out)⟩
    · replace c4 := Bool.eq_false_iff.mpr c4
      subst c4
      have H1 : (some false) = some r := by rw [if_neg (show ¬ (false = true) by decide)] at H; exact H
      clear H
      have H := H1
      clear H1
      obtain rfl := Option.some.inj H
      go_enter Try.func6, Try.ntmps6
      go_wp2_with (first | ((with_reducible refine gate_dst (N := 4) rfl ?_); (try (refine gate_guard (by rfl) ?_; dsimp only)); refine Kd.R_lit (Kd.int .i64) _ 3 ?hg (N := 4) ?hd (xs := ([4, 0, 1] : List Int)) (inner := [.int .i64 4, .int .i64 0, .int .i64 1]) (ok := fun _ => True) (okp := fun _ => True) ?hr ?hp (fun _ hk => hk) trivial (Below.refl _ _) (Nat.le_refl _) (by simp) ?_; (case hd => rfl); (case hg => rfl); (case hr => first | (go_simp; done) | (go_simp; rfl)); (case hp => exact (Reps.one (show Kd.M (Kd.int .i64) _ _ _ 4 [.int .i64 4] from rfl) (Reps.one (show Kd.M (Kd.int .i64) _ _ _ 0 [.int .i64 0] from rfl) (Reps.one (show Kd.M (Kd.int .i64) _ _ _ 1 [.int .i64 1] from rfl) (Reps.none _ _))))); intro v418 w48 ho49 hb hg_ hnew_; clear hg_ hnew_; (first | rw [← Ny417.out] at ho49 | (simp only [Int.reduceToNat] at ho49; rw [← Ny417.out] at ho49)); have n0_ := Aside0.mk (Kd.R_lower ho49 (below_size (by repeat (first | (with_reducible first | exact HB.out | apply below_alloc | apply pw_below_drewN | apply below_drew1) | exact HB.out)))); have n1_ := Aside0.mk (below_step (by repeat (first | (with_reducible first | exact HB.out | apply below_alloc | apply pw_below_drewN | apply below_drew1) | exact HB.out)) hb); clear HB; have HO419 := n0_; have HB := n1_; clear n0_ n1_; clear hb ho49; obtain ⟨Ao50, co50, eo50⟩ := Kd.R_slice HO419.out; subst eo50) | ((with_reducible refine gate_callee (f := 8) rfl ?_); refine goesL_ (some 5) rfl rfl Try.func8 (by kernel_rfl) rfl #[.slice Ao50 y417.length co50, .int .i64 5, .slice none 0 0] rfl (by (try simp only [List.map_toArray, List.map_cons, List.map_nil]); first | done | rfl | (simp only [List.length_drop, List.length_take]; rfl)) ?_; (refine (split_Factor.calls k _ _ y417 5 _ _ ([] : List Int) t420 t423 _ ?side1 ?side2 ?side3 ?side4 A1.out).mono ?_); (case side1 => repeat (first | exact (Kd.R_reads' HO419.out).2.2 | (with_reducible refine Kd.C_alloc ?_ _) | (with_reducible refine Kd.C_drewN ?_ _) | (with_reducible refine Kd.C_drew ?_))); (case side2 => exact (Kd.R_reads' HO419.out).2.1); (case side3 => exact Kd.C_nil _ _); (case side4 => exact Nat.le_refl _); rintro e w51 ⟨v421, rfl, ho0, hb⟩; refine ⟨_, rfl, ?_⟩; have n0_ := Aside0.mk (Kd.R_below (by (with_reducible repeat (first | apply Kd.R_alloc | apply Kd.R_drewN | apply Kd.R_drew)); exact HO419.out) hb); have n1_ := Aside0.mk (Kd.N_lower (Kd.N_mono (ok' := fun k_ => some k_ ≠ (.slice Ao50 y417.length co50 : Value).ownBlock) ho0 (fun k_ hk_ => (Kd.fresh' (Kd.R_lt (by (with_reducible repeat (first | apply Kd.R_alloc | apply Kd.R_drewN | apply Kd.R_drew)); exact HO419.out)) k_ hk_))) (below_size (by repeat (first | (with_reducible first | exact HB.out | apply below_alloc | apply pw_below_drewN | apply below_drew1) | exact HB.out)))); have n2_ := Aside0.mk (below_step (by repeat (first | (with_reducible first | exact HB.out | apply below_alloc | apply pw_below_drewN | apply below_drew1) | exact HB.out)) hb); clear HO419; clear HB; have HO419 := n0_; have HO422 := n1_; have HB := n2_; clear n0_ n1_ n2_; (try clear hb); (try clear hb2); (try clear hk); (try clear hi); (try clear ho0)) | ((with_reducible refine gate_dst (N := 12) rfl ?_); (try (refine gate_guard (by rfl) ?_; dsimp only)); refine Kd.R_lit (Kd.int .i64) _ 3 ?hg (N := 12) ?hd (xs := ([1, 1] : List Int)) (inner := [.int .i64 1, .int .i64 1]) (ok := fun _ => True) (okp := fun _ => True) ?hr ?hp (fun _ hk => hk) trivial (Below.refl _ _) (Nat.le_refl _) (by simp) ?_; (case hd => rfl); (case hg => rfl); (case hr => first | (go_simp; done) | (go_simp; rfl)); (case hp => exact (Reps.one (show Kd.M (Kd.int .i64) _ _ _ 1 [.int .i64 1] from rfl) (Reps.one (show Kd.M (Kd.int .i64) _ _ _ 1 [.int .i64 1] from rfl) (Reps.none _ _)))); intro v425 w52 ho53 hb hg_ hnew_; clear hg_ hnew_; (first | rw [← Ny424.out] at ho53 | (simp only [Int.reduceToNat] at ho53; rw [← Ny424.out] at ho53)); have n0_ := Aside0.mk (Kd.R_elder' (by (with_reducible repeat (first | apply Kd.R_alloc | apply Kd.R_drewN | apply Kd.R_drew)); exact HO419.out) (Kd.R_base ho53) hb); have n1_ := Aside0.mk (Kd.N_elder' (by (with_reducible repeat (first | apply Kd.N_alloc | apply Kd.N_drewN | apply Kd.N_drew)); exact HO422.out) (Kd.R_base ho53) hb); have n2_ := Aside0.mk (Kd.R_lower (Kd.R_new' ho53 (Kd.R_lt (by (with_reducible repeat (first | apply Kd.R_alloc | apply Kd.R_drewN | apply Kd.R_drew)); exact HO419.out))) (below_size (by repeat (first | (with_reducible first | exact HB.out | apply below_alloc | apply pw_below_drewN | apply below_drew1) | exact HB.out)))); have n3_ := Aside0.mk (below_step (by repeat (first | (with_reducible first | exact HB.out | apply below_alloc | apply pw_below_drewN | apply below_drew1) | exact HB.out)) hb); clear HO419; clear HO422; clear HB; have HO419 := n0_; have HO422 := n1_; have HO426 := n2_; have HB := n3_; clear n0_ n1_ n2_ n3_; clear hb ho53) | ((with_reducible refine gate_dst (N := 13) rfl ?_); (try (refine gate_guard (by rfl) ?_; dsimp only)); refine Kd.R_lit (Kd.int .i64) _ 3 ?hg (N := 13) ?hd (xs := ([4, 1] : List Int)) (inner := [.int .i64 4, .int .i64 1]) (ok := fun _ => True) (okp := fun _ => True) ?hr ?hp (fun _ hk => hk) trivial (Below.refl _ _) (Nat.le_refl _) (by simp) ?_; (case hd => rfl); (case hg => rfl); (case hr => first | (go_simp; done) | (go_simp; rfl)); (case hp => exact (Reps.one (show Kd.M (Kd.int .i64) _ _ _ 4 [.int .i64 4] from rfl) (Reps.one (show Kd.M (Kd.int .i64) _ _ _ 1 [.int .i64 1] from rfl) (Reps.none _ _)))); intro v428 w54 ho55 hb hg_ hnew_; clear hg_ hnew_; (first | rw [← Ny427.out] at ho55 | (simp only [Int.reduceToNat] at ho55; rw [← Ny427.out] at ho55)); have n0_ := Aside0.mk (Kd.R_elder' (by (with_reducible repeat (first | apply Kd.R_alloc | apply Kd.R_drewN | apply Kd.R_drew)); exact HO419.out) (Kd.R_base ho55) hb); have n1_ := Aside0.mk (Kd.N_elder' (by (with_reducible repeat (first | apply Kd.N_alloc | apply Kd.N_drewN | apply Kd.N_drew)); exact HO422.out) (Kd.R_base ho55) hb); have n2_ := Aside0.mk (Kd.R_elder' (by (with_reducible repeat (first | apply Kd.R_alloc | apply Kd.R_drewN | apply Kd.R_drew)); exact HO426.out) (Kd.R_base ho55) hb); have n3_ := Aside0.mk (Kd.R_lower (Kd.R_new' (Kd.R_new' ho55 (Kd.R_lt (by (with_reducible repeat (first | apply Kd.R_alloc | apply Kd.R_drewN | apply Kd.R_drew)); exact HO419.out))) (Kd.R_lt (by (with_reducible repeat (first | apply Kd.R_alloc | apply Kd.R_drewN | apply Kd.R_drew)); exact HO426.out))) (below_size (by repeat (first | (with_reducible first | exact HB.out | apply below_alloc | apply pw_below_drewN | apply below_drew1) | exact HB.out)))); have n4_ := Aside0.mk (below_step (by repeat (first | (with_reducible first | exact HB.out | apply below_alloc | apply pw_below_drewN | apply below_drew1) | exact HB.out)) hb); clear HO419; clear HO422; clear HO426; clear HB; have HO419 := n0_; have HO422 := n1_; have HO426 := n2_; have HO429 := n3_; have HB := n4_; clear n0_ n1_ n2_ n3_ n4_; clear hb ho55; obtain ⟨Ao56, co56, eo56⟩ := Kd.R_slice HO426.out; subst eo56; obtain ⟨Ao57, co57, eo57⟩ := Kd.R_slice HO429.out; subst eo57) | ((with_reducible refine gate_dst (N := 14) rfl ?_); (try (refine gate_guard (by rfl) ?_; dsimp only)); refine Kd.N_lit (Kd.slice 3 (Kd.int .i64)) _ 22 ?hg (N' := 14) ?hd (xs := ([y424, y427] : List (List Int))) (inner := [.slice Ao56 y424.length co56, .slice Ao57 y427.length co57]) (ok := (fun k_ => some k_ ≠ (.slice Ao50 y417.length co50 : Value).ownBlock ∧ some k_ ≠ (v421 : Value).ownBlock)) (okp := (fun k_ => some k_ ≠ (.slice Ao50 y417.length co50 : Value).ownBlock ∧ some k_ ≠ (v421 : Value).ownBlock)) ?hr ?hp (fun _ hk => hk) ((show ∀ k_, w54.heap.size ≤ k_ → (fun k_ => some k_ ≠ (.slice Ao50 y417.length co50 : Value).ownBlock ∧ some k_ ≠ (v421 : Value).ownBlock) k_ from fun k_ hk => ⟨Kd.fresh' (Kd.R_lt (by (with_reducible repeat (first | apply Kd.R_alloc | apply Kd.R_drewN | apply Kd.R_drew)); exact HO419.out)) k_ hk, Kd.fresh' (Kd.N_lt (by (with_reducible repeat (first | apply Kd.N_alloc | apply Kd.N_drewN | apply Kd.N_drew)); exact HO422.out)) k_ hk⟩) _ (Nat.le_refl _)) (Below.refl _ _) (Nat.le_refl _) (by simp) ?_; (case hd => rfl); (case hg => rfl); (case hr => first | (go_simp; done) | (go_simp; rfl)); (case hp => exact (Reps.one (show Kd.FK (Kd.slice 3 (Kd.int .i64)) _ _ y424 [.slice Ao56 y424.length co56] from (Kd.FK_slice_mk (Kd.R_reads' (Kd.R_mono (ok' := (fun k_ => some k_ ≠ (.slice Ao50 y417.length co50 : Value).ownBlock ∧ some k_ ≠ (v421 : Value).ownBlock)) (Kd.R_apart' (HO426.out) (Kd.N_typed HO422.out) (by decide)) (fun k_ hk => ⟨hk.1.1.2, hk.2⟩))).2.1 (Kd.R_F (Kd.R_mono (ok' := (fun k_ => some k_ ≠ (.slice Ao50 y417.length co50 : Value).ownBlock ∧ some k_ ≠ (v421 : Value).ownBlock)) (Kd.R_apart' (HO426.out) (Kd.N_typed HO422.out) (by decide)) (fun k_ hk => ⟨hk.1.1.2, hk.2⟩))))) (Reps.one (show Kd.FK (Kd.slice 3 (Kd.int .i64)) _ _ y427 [.slice Ao57 y427.length co57] from (Kd.FK_slice_mk (Kd.R_reads' (Kd.R_mono (ok' := (fun k_ => some k_ ≠ (.slice Ao50 y417.length co50 : Value).ownBlock ∧ some k_ ≠ (v421 : Value).ownBlock)) (Kd.R_apart' (HO429.out) (Kd.N_typed HO422.out) (by decide)) (fun k_ hk => ⟨hk.1.1.2, hk.2⟩))).2.1 (Kd.R_F (Kd.R_mono (ok' := (fun k_ => some k_ ≠ (.slice Ao50 y417.length co50 : Value).ownBlock ∧ some k_ ≠ (v421 : Value).ownBlock)) (Kd.R_apart' (HO429.out) (Kd.N_typed HO422.out) (by decide)) (fun k_ hk => ⟨hk.1.1.2, hk.2⟩))))) (Reps.none _ _)))); intro v431 w58 ho59 hb hg_ hnew_; clear hg_ hnew_; (first | rw [← Ny430.out] at ho59 | (simp only [Int.reduceToNat] at ho59; rw [← Ny430.out] at ho59)); have n0_ := Aside0.mk (Kd.R_below (by (with_reducible repeat (first | apply Kd.R_alloc | apply Kd.R_drewN | apply Kd.R_drew)); exact HO419.out) hb); have n1_ := Aside0.mk (Kd.N_elder' (by (with_reducible repeat (first | apply Kd.N_alloc | apply Kd.N_drewN | apply Kd.N_drew)); exact HO422.out) (Kd.N_base ho59) hb); have n2_ := Aside0.mk (Kd.N_lower ho59 (below_size (by repeat (first | (with_reducible first | exact HB.out | apply below_alloc | apply pw_below_drewN | apply below_drew1) | exact HB.out)))); have n3_ := Aside0.mk (below_step (by repeat (first | (with_reducible first | exact HB.out | apply below_alloc | apply pw_below_drewN | apply below_drew1) | exact HB.out)) hb); clear HO419; clear HO422; clear HB; clear HO426; clear HO429; have HO419 := n0_; have HO422 := n1_; have HO432 := n2_; have HB := n3_; clear n0_ n1_ n2_ n3_; clear hb ho59; obtain ⟨Ao60, co60, eo60⟩ := Kd.N_slice HO422.out; subst eo60; obtain ⟨Ao61, co61, eo61⟩ := Kd.N_slice HO432.out; subst eo61) | (go_at_call 10; (with_reducible refine (primroseref11_Same.calls k _ _ t420 _ _ y430 false _ ?side1 ?side2 ?side3 ?side4 A3.out).mono ?_); (case side1 => repeat (first | exact (Kd.N_reads' HO422.out).2.2 | (with_reducible refine Kd.C_alloc ?_ _) | (with_reducible refine Kd.C_drewN ?_ _) | (with_reducible refine Kd.C_drew ?_))); (case side2 => exact (Kd.N_reads' HO422.out).2.1); (case side3 => repeat (first | exact (Kd.N_reads' HO432.out).2.2 | (with_reducible refine Kd.C_alloc ?_ _) | (with_reducible refine Kd.C_drewN ?_ _) | (with_reducible refine Kd.C_drew ?_))); (case side4 => exact (Kd.N_reads' HO432.out).2.1); rintro e w' ⟨rfl, ⟨nd, rfl⟩⟩))
      go_ret
      exact ⟨by first | rfl | (simp [errW_none, errW_some] <;> rfl) | (simp [*, errW_none, errW_some] <;> rfl), by repeat (first | (with_reducible first | exact HB.out | apply below_alloc | apply pw_below_drewN | apply below_drew1) | exact HB.out)⟩
  · rw [if_neg c2] at H
    have c2b0 : (t423 == 0) = false := beq_eq_false_iff_ne.mpr c2
    have c2b1 : (t423 != 0) = true := bne_iff_ne.mpr c2
    obtain rfl := Option.some.inj H
    go_enter Try.func6, Try.ntmps6
    go_wp2_with (first | ((with_reducible refine gate_dst (N := 4) rfl ?_); (try (refine gate_guard (by rfl) ?_; dsimp only)); refine Kd.R_lit (Kd.int .i64) _ 3 ?hg (N := 4) ?hd (xs := ([4, 0, 1] : List Int)) (inner := [.int .i64 4, .int .i64 0, .int .i64 1]) (ok := fun _ => True) (okp := fun _ => True) ?hr ?hp (fun _ hk => hk) trivial (Below.refl _ _) (Nat.le_refl _) (by simp) ?_; (case hd => rfl); (case hg => rfl); (case hr => first | (go_simp; done) | (go_simp; rfl)); (case hp => exact (Reps.one (show Kd.M (Kd.int .i64) _ _ _ 4 [.int .i64 4] from rfl) (Reps.one (show Kd.M (Kd.int .i64) _ _ _ 0 [.int .i64 0] from rfl) (Reps.one (show Kd.M (Kd.int .i64) _ _ _ 1 [.int .i64 1] from rfl) (Reps.none _ _))))); intro v418 w62 ho63 hb hg_ hnew_; clear hg_ hnew_; (first | rw [← Ny417.out] at ho63 | (simp only [Int.reduceToNat] at ho63; rw [← Ny417.out] at ho63)); have n0_ := Aside0.mk (Kd.R_lower ho63 (below_size (by repeat (first | (with_reducible first | exact HB.out | apply below_alloc | apply pw_below_drewN | apply below_drew1) | exact HB.out)))); have n1_ := Aside0.mk (below_step (by repeat (first | (with_reducible first | exact HB.out | apply below_alloc | apply pw_below_drewN | apply below_drew1) | exact HB.out)) hb); clear HB; have HO419 := n0_; have HB := n1_; clear n0_ n1_; clear hb ho63; obtain ⟨Ao64, co64, eo64⟩ := Kd.R_slice HO419.out; subst eo64) | ((with_reducible refine gate_callee (f := 8) rfl ?_); refine goesL_ (some 5) rfl rfl Try.func8 (by kernel_rfl) rfl #[.slice Ao64 y417.length co64, .int .i64 5, .slice none 0 0] rfl (by (try simp only [List.map_toArray, List.map_cons, List.map_nil]); first | done | rfl | (simp only [List.length_drop, List.length_take]; rfl)) ?_; (refine (split_Factor.calls k _ _ y417 5 _ _ ([] : List Int) t420 t423 _ ?side1 ?side2 ?side3 ?side4 A1.out).mono ?_); (case side1 => repeat (first | exact (Kd.R_reads' HO419.out).2.2 | (with_reducible refine Kd.C_alloc ?_ _) | (with_reducible refine Kd.C_drewN ?_ _) | (with_reducible refine Kd.C_drew ?_))); (case side2 => exact (Kd.R_reads' HO419.out).2.1); (case side3 => exact Kd.C_nil _ _); (case side4 => exact Nat.le_refl _); rintro e w65 ⟨v421, rfl, ho0, hb⟩; refine ⟨_, rfl, ?_⟩; have n0_ := Aside0.mk (Kd.R_below (by (with_reducible repeat (first | apply Kd.R_alloc | apply Kd.R_drewN | apply Kd.R_drew)); exact HO419.out) hb); have n1_ := Aside0.mk (Kd.N_lower (Kd.N_mono (ok' := fun k_ => some k_ ≠ (.slice Ao64 y417.length co64 : Value).ownBlock) ho0 (fun k_ hk_ => (Kd.fresh' (Kd.R_lt (by (with_reducible repeat (first | apply Kd.R_alloc | apply Kd.R_drewN | apply Kd.R_drew)); exact HO419.out)) k_ hk_))) (below_size (by repeat (first | (with_reducible first | exact HB.out | apply below_alloc | apply pw_below_drewN | apply below_drew1) | exact HB.out)))); have n2_ := Aside0.mk (below_step (by repeat (first | (with_reducible first | exact HB.out | apply below_alloc | apply pw_below_drewN | apply below_drew1) | exact HB.out)) hb); clear HO419; clear HB; have HO419 := n0_; have HO422 := n1_; have HB := n2_; clear n0_ n1_ n2_; (try clear hb); (try clear hb2); (try clear hk); (try clear hi); (try clear ho0)))
    go_ret
    exact ⟨by first | rfl | (simp [errW_none, errW_some] <;> rfl) | (simp [*, errW_none, errW_some] <;> rfl), by repeat (first | (with_reducible first | exact HB.out | apply below_alloc | apply pw_below_drewN | apply below_drew1) | exact HB.out)⟩
mutual
def primroseref05_Is.j0 : Nat → Int → Bool → Option (Bool)
  | 0, _, _ => none
  | k + 1, x0, x9 => if x9 = true then (some false) else (primroseref05_Is.l0 k x0 2)
def primroseref05_Is.l0 : Nat → Int → Int → Option (Bool)
  | 0, _, _ => none
  | k + 1, x0, x3 => if (wrap64 (x3 * x3)) ≤ x0 then (if x3 = 0 then (none) else (if (Int.tmod x0 x3) = 0 then (some false) else (primroseref05_Is.l0 k x0 (wrap64 (x3 + 1))))) else (some true)
end
def primroseref05_Is.f (k : Nat) (a0 : Int) : Option (Bool) := if a0 < 2 then (primroseref05_Is.j0 k a0 true) else (primroseref05_Is.j0 k a0 (decide (a0 ≥ 2147483648)))
set_option maxHeartbeats 8000000 in
set_option maxRecDepth 100000 in
theorem primroseref05_Is.calls (k : Nat) (a0 : Int) (r : Bool) (w : World) (h : primroseref05_Is.f k a0 = some r) :
    Calls Try.prog 14 #[.int .i64 a0] w fun e w' => e = .returned (.bool r) ∧ Drawn0 w w' := by
  have H : (if a0 < 2 then (primroseref05_Is.j0 k a0 true) else (primroseref05_Is.j0 k a0 (decide (a0 ≥ 2147483648)))) = some r := h
  clear h
  have HC2 := Aside0.mk H
  clear H
  go_enter Try.func14, Try.ntmps14
  go_upto_region 1 with (fail)
  go_cut [9] (fun v9 wc => ∃ (kq : Nat) (x9_1 : Bool), v9 = .bool x9_1 ∧ Aside0 (primroseref05_Is.j0 kq a0 x9_1 = some r) ∧ Aside0 (kq ≤ k) ∧ Drawn0 w wc)
  case first =>
    have H := HC2.out
    clear HC2
    by_cases c3 : a0 < 2
    · rw [if_pos c3] at H
      have c3b0 : decide (a0 < 2) = true := decide_eq_true c3
      clear c3
      (first | rw [c3b0] | (simp only [i64_w, i32_w]; rw [c3b0]) | skip)
      have H' := Aside0.mk H
      clear H
      go_wp2
      go_meet
      case rel => exact ⟨_, (true), (by first | rfl | (simp; done) | (simp [*]; done)), H', ⟨by first | omega | exact Nat.le_refl _⟩, by repeat (first | exact Drawn0.refl _ | apply Drawn0.step)⟩
    · rw [if_neg c3] at H
      have c3b0 : decide (a0 < 2) = false := decide_eq_false c3
      clear c3
      (first | rw [c3b0] | (simp only [i64_w, i32_w]; rw [c3b0]) | skip)
      have H' := Aside0.mk H
      clear H
      go_wp2
      go_meet
      case rel => exact ⟨_, (decide (a0 ≥ 2147483648)), (by first | rfl | (simp; done) | (simp [*]; done)), H', ⟨by first | omega | exact Nat.le_refl _⟩, by repeat (first | exact Drawn0.refl _ | apply Drawn0.step)⟩
  case rest =>
    clear HC2
    try clear c1
    try clear p2
    try clear c3
    try clear c3b0
    obtain ⟨kq, x9_1, rfl, HA, HJ1, ⟨mc1, rfl⟩⟩ := hcut
    cases kq with
    | zero => exact absurd HA.out (by simp [primroseref05_Is.j0])
    | succ kj1 =>
      have H := HA.out
      clear HA
      simp only [primroseref05_Is.j0] at H
      by_cases c4 : x9_1 = true
      · subst c4
        have H1 : (some false) = some r := by rw [if_pos rfl] at H; exact H
        clear H
        have H := H1
        clear H1
        obtain rfl := Option.some.inj H
        go_wp2
        go_ret
        exact ⟨by first | rfl | (simp; done) | (simp [*]; done), by repeat (first | exact Drawn0.refl _ | apply Drawn0.step)⟩
      · replace c4 := Bool.eq_false_iff.mpr c4
        subst c4
        have H1 : (primroseref05_Is.l0 kj1 a0 2) = some r := by rw [if_neg (show ¬ (false = true) by decide)] at H; exact H
        clear H
        have H := H1
        clear H1
        have H' := Aside0.mk H
        clear H
        go_wp2
        go_loopg [3] kj1 (fun kq v3 w' => ∃ (x3_2 : Int), v3 = .int .i64 x3_2 ∧ Aside0 (primroseref05_Is.l0 kq a0 x3_2 = some r) ∧ Aside0 (kq ≤ kj1) ∧ Drawn0 w w')
        case atStart => exact ⟨(2), (by first | rfl | (simp; done) | (simp [*]; done)), H', ⟨Nat.le_refl _⟩, by repeat (first | exact Drawn0.refl _ | apply Drawn0.step)⟩
        case round =>
          clear H'
          try clear c1
          try clear p2
          try clear c3
          try clear c3b0
          try clear c4
          try clear p2
          obtain ⟨x3_2, rfl, HA, HK2, ⟨m2, rfl⟩⟩ := hrel
          cases gk with
          | zero => exact absurd HA.out (by simp [primroseref05_Is.l0])
          | succ k2 =>
            have H := HA.out
            clear HA
            simp only [primroseref05_Is.l0] at H
            by_cases c5 : (wrap64 (x3_2 * x3_2)) ≤ a0
            · rw [if_pos c5] at H
              have c5b0 : decide ((wrap64 (x3_2 * x3_2)) ≤ a0) = true := decide_eq_true c5
              clear c5
              by_cases c6 : x3_2 = 0
              · rw [if_pos c6] at H
                exact absurd H (by simp)
              · rw [if_neg c6] at H
                have c6b0 : (x3_2 == 0) = false := beq_eq_false_iff_ne.mpr c6
                have c6b1 : (x3_2 != 0) = true := bne_iff_ne.mpr c6
                by_cases c7 : (Int.tmod a0 x3_2) = 0
                · rw [if_pos c7] at H
                  have c7b0 : ((Int.tmod a0 x3_2) == 0) = true := beq_iff_eq.mpr c7
                  have c7b1 : ((Int.tmod a0 x3_2) != 0) = false := bne_eq_false_iff_eq.mpr c7
                  clear c7
                  obtain rfl := Option.some.inj H
                  go_wp2
                  go_ret
                  exact ⟨by first | rfl | (simp; done) | (simp [*]; done), by repeat (first | exact Drawn0.refl _ | apply Drawn0.step)⟩
                · rw [if_neg c7] at H
                  have c7b0 : ((Int.tmod a0 x3_2) == 0) = false := beq_eq_false_iff_ne.mpr c7
                  have c7b1 : ((Int.tmod a0 x3_2) != 0) = true := bne_iff_ne.mpr c7
                  have H' := Aside0.mk H
                  clear H
                  go_wp2
                  go_roundg k2
                  case measure => have := HJ1.out; have := HK2.out; omega
                  case rel => exact ⟨(wrap64 (x3_2 + 1)), (by first | rfl | (simp; done) | (simp [*]; done)), H', ⟨by have := HJ1.out; have := HK2.out; omega⟩, by repeat (first | exact Drawn0.refl _ | apply Drawn0.step)⟩
            · rw [if_neg c5] at H
              have c5b0 : decide ((wrap64 (x3_2 * x3_2)) ≤ a0) = false := decide_eq_false c5
              clear c5
              obtain rfl := Option.some.inj H
              go_wp2
              go_ret
              exact ⟨by first | rfl | (simp; done) | (simp [*]; done), by repeat (first | exact Drawn0.refl _ | apply Drawn0.step)⟩
end Go.Proofs.Ytiflghgebeadiaa.M
end
section
namespace Go.Proofs.Ytiflghgebeadiaa.M
open Go.RowKit Go.Proofs.YtiflghgebeadiaaW.PrintWords Go.Proofs.YtiflghgebeadiaaW.PrintLast Go.Proofs.YtiflghgebeadiaaW.PrintMore
attribute [local go_sem] max2_int min2_int max_two min_two max_three min_three max_four min_four   -- for this text's walks alone
set_option linter.unusedVariables false
set_option linter.unusedSimpArgs false
def primroselaw10_Pick.f (k : Nat) (a0 : Int) : Option (Int) := if a0 < 1048576 then ((primroseref05_Is.f k a0).bind fun t442 => (if t442 = true then (some a0) else ((some (([2, 3, 5, 7, 11, 101, 65537, 1048573] : List Int) : List Int)).bind fun y443 => (if 0 ≤ (Go.bits .and .i64 a0 7) then (if (Go.bits .and .i64 a0 7) < (y443.length : Int) then (some (rd y443 (Go.bits .and .i64 a0 7))) else (none)) else (none))))) else ((some (([2, 3, 5, 7, 11, 101, 65537, 1048573] : List Int) : List Int)).bind fun y447 => (if 0 ≤ (Go.bits .and .i64 a0 7) then (if (Go.bits .and .i64 a0 7) < (y447.length : Int) then (some (rd y447 (Go.bits .and .i64 a0 7))) else (none)) else (none)))
set_option maxHeartbeats 8000000 in
set_option maxRecDepth 100000 in
theorem primroselaw10_Pick.calls (k : Nat) (a0 : Int) (r : Int) (w : World) (h : primroselaw10_Pick.f k a0 = some r) :
    Calls Try.prog 11 #[.int .i64 a0] w fun e w' => e = .returned (.int .i64 r) ∧ Below w.heap.size w w' := by
  have HB := Aside0.mk (Below.refl w.heap.size w)
  have H : (if a0 < 1048576 then ((primroseref05_Is.f k a0).bind fun t442 => (if t442 = true then (some a0) else ((some (([2, 3, 5, 7, 11, 101, 65537, 1048573] : List Int) : List Int)).bind fun y443 => (if 0 ≤ (Go.bits .and .i64 a0 7) then (if (Go.bits .and .i64 a0 7) < (y443.length : Int) then (some (rd y443 (Go.bits .and .i64 a0 7))) else (none)) else (none))))) else ((some (([2, 3, 5, 7, 11, 101, 65537, 1048573] : List Int) : List Int)).bind fun y447 => (if 0 ≤ (Go.bits .and .i64 a0 7) then (if (Go.bits .and .i64 a0 7) < (y447.length : Int) then (some (rd y447 (Go.bits .and .i64 a0 7))) else (none)) else (none)))) = some r := h
  clear h
  by_cases c2 : a0 < 1048576
  · rw [if_pos c2] at H
    have c2b0 : decide (a0 < 1048576) = true := decide_eq_true c2
    clear c2
    replace H := Option.bind_eq_some_iff.mp H
    obtain ⟨t442, A30, H⟩ := H
    replace H : (if t442 = true then (some a0) else ((some (([2, 3, 5, 7, 11, 101, 65537, 1048573] : List Int) : List Int)).bind fun y443 => (if 0 ≤ (Go.bits .and .i64 a0 7) then (if (Go.bits .and .i64 a0 7) < (y443.length : Int) then (some (rd y443 (Go.bits .and .i64 a0 7))) else (none)) else (none)))) = some r := H
    have A3 := Aside0.mk A30
    clear A30
    by_cases c4 : t442 = true
    · subst c4
      have H1 : (some a0) = some r := by rw [if_pos rfl] at H; exact H
      clear H
      have H := H1
      clear H1
      obtain rfl := Option.some.inj H
      go_enter Try.func11, Try.ntmps11
      go_wp2_with (first | (go_at_call 14; (with_reducible refine (primroseref05_Is.calls k a0 true _ A3.out).mono ?_); rintro e w' ⟨rfl, ⟨nd, rfl⟩⟩))
      go_ret
      exact ⟨by first | rfl | (simp [errW_none, errW_some] <;> rfl) | (simp [*, errW_none, errW_some] <;> rfl), by repeat (first | (with_reducible first | exact HB.out | apply below_alloc | apply pw_below_drewN | apply below_drew1) | exact HB.out)⟩
    · replace c4 := Bool.eq_false_iff.mpr c4
      subst c4
      have H1 : ((some (([2, 3, 5, 7, 11, 101, 65537, 1048573] : List Int) : List Int)).bind fun y443 => (if 0 ≤ (Go.bits .and .i64 a0 7) then (if (Go.bits .and .i64 a0 7) < (y443.length : Int) then (some (rd y443 (Go.bits .and .i64 a0 7))) else (none)) else (none))) = some r := by rw [if_neg (show ¬ (false = true) by decide)] at H; exact H
      clear H
      have H := H1
      clear H1
      obtain ⟨y443, hy443⟩ : ∃ y_ : List Int, y_ = (([2, 3, 5, 7, 11, 101, 65537, 1048573] : List Int)) := ⟨_, rfl⟩
      replace H : (if 0 ≤ (Go.bits .and .i64 a0 7) then (if (Go.bits .and .i64 a0 7) < (y443.length : Int) then (some (rd y443 (Go.bits .and .i64 a0 7))) else (none)) else (none)) = some r := by first | (rw [hy443]; with_reducible exact H) | (have H2_ := (Option.bind_some _ _).symm.trans H; rw [hy443]; with_reducible exact H2_) | (have H2_ := (Option.bind_some _ _).symm.trans H; with_reducible exact H2_) | with_reducible exact H | (rw [hy443]; exact H) | exact H
      have Ny443 := Aside0.mk hy443
      clear hy443
      by_cases c5 : 0 ≤ (Go.bits .and .i64 a0 7)
      · rw [if_pos c5] at H
        have c5b0 : decide (0 ≤ (Go.bits .and .i64 a0 7)) = true := decide_eq_true c5
        clear c5
        by_cases c6 : (Go.bits .and .i64 a0 7) < (y443.length : Int)
        · rw [if_pos c6] at H
          have c6b0 : decide ((Go.bits .and .i64 a0 7) < (y443.length : Int)) = true := decide_eq_true c6
          clear c6
          obtain rfl := Option.some.inj H
          go_enter Try.func11, Try.ntmps11
          go_wp2_with (first | (go_at_call 14; (with_reducible refine (primroseref05_Is.calls k a0 false _ A3.out).mono ?_); rintro e w' ⟨rfl, ⟨nd, rfl⟩⟩) | ((with_reducible refine gate_dst (N := 11) rfl ?_); refine Kd.R_lit (Kd.int .i64) _ 3 ?hg (N := 11) ?hd (xs := ([2, 3, 5, 7, 11, 101, 65537, 1048573] : List Int)) (inner := [.int .i64 2, .int .i64 3, .int .i64 5, .int .i64 7, .int .i64 11, .int .i64 101, .int .i64 65537, .int .i64 1048573]) (ok := fun _ => True) (okp := fun _ => True) ?hr ?hp (fun _ hk => hk) trivial (Below.refl _ _) (Nat.le_refl _) (by simp) ?_; (case hd => rfl); (case hg => rfl); (case hr => first | (go_simp; done) | (go_simp; rfl)); (case hp => exact (Reps.one (show Kd.M (Kd.int .i64) _ _ _ 2 [.int .i64 2] from rfl) (Reps.one (show Kd.M (Kd.int .i64) _ _ _ 3 [.int .i64 3] from rfl) (Reps.one (show Kd.M (Kd.int .i64) _ _ _ 5 [.int .i64 5] from rfl) (Reps.one (show Kd.M (Kd.int .i64) _ _ _ 7 [.int .i64 7] from rfl) (Reps.one (show Kd.M (Kd.int .i64) _ _ _ 11 [.int .i64 11] from rfl) (Reps.one (show Kd.M (Kd.int .i64) _ _ _ 101 [.int .i64 101] from rfl) (Reps.one (show Kd.M (Kd.int .i64) _ _ _ 65537 [.int .i64 65537] from rfl) (Reps.one (show Kd.M (Kd.int .i64) _ _ _ 1048573 [.int .i64 1048573] from rfl) (Reps.none _ _)))))))))); intro v444 w7 ho8 hb hg_ hnew_; clear hg_ hnew_; (first | rw [← Ny443.out] at ho8 | (simp only [Int.reduceToNat] at ho8; rw [← Ny443.out] at ho8)); have n0_ := Aside0.mk (Kd.R_lower ho8 (below_size (by repeat (first | (with_reducible first | exact HB.out | apply below_alloc | apply pw_below_drewN | apply below_drew1) | exact HB.out)))); have n1_ := Aside0.mk (below_step (by repeat (first | (with_reducible first | exact HB.out | apply below_alloc | apply pw_below_drewN | apply below_drew1) | exact HB.out)) hb); clear HB; have HO445 := n0_; have HB := n1_; clear n0_ n1_; clear hb ho8; obtain ⟨Ao9, co9, eo9⟩ := Kd.R_slice HO445.out; subst eo9; have p446 : 0 ≤ ((Go.bits .and .i64 a0 7) : Int) := of_decide_eq_true (by first | (with_reducible assumption) | assumption); have q446 : (Go.bits .and .i64 a0 7) < (y443.length : Int) := of_decide_eq_true (by first | (with_reducible assumption) | assumption); obtain ⟨ad446, e446, hx446_0⟩ := Kd.at_int (Kd.R_reads' HO445.out).2.2 (Go.bits .and .i64 a0 7) p446 q446; cases e446; replace p446 := eq_true p446; replace q446 := eq_true q446))
          go_ret
          exact ⟨by first | rfl | (simp [errW_none, errW_some] <;> rfl) | (simp [*, errW_none, errW_some] <;> rfl), by repeat (first | (with_reducible first | exact HB.out | apply below_alloc | apply pw_below_drewN | apply below_drew1) | exact HB.out)⟩
        · rw [if_neg c6] at H
          exact absurd H (by simp)
      · rw [if_neg c5] at H
        exact absurd H (by simp)
  · rw [if_neg c2] at H
    have c2b0 : decide (a0 < 1048576) = false := decide_eq_false c2
    clear c2
    obtain ⟨y447, hy447⟩ : ∃ y_ : List Int, y_ = (([2, 3, 5, 7, 11, 101, 65537, 1048573] : List Int)) := ⟨_, rfl⟩
    replace H : (if 0 ≤ (Go.bits .and .i64 a0 7) then (if (Go.bits .and .i64 a0 7) < (y447.length : Int) then (some (rd y447 (Go.bits .and .i64 a0 7))) else (none)) else (none)) = some r := by first | (rw [hy447]; with_reducible exact H) | (have H2_ := (Option.bind_some _ _).symm.trans H; rw [hy447]; with_reducible exact H2_) | (have H2_ := (Option.bind_some _ _).symm.trans H; with_reducible exact H2_) | with_reducible exact H | (rw [hy447]; exact H) | exact H
    have Ny447 := Aside0.mk hy447
    clear hy447
    by_cases c10 : 0 ≤ (Go.bits .and .i64 a0 7)
    · rw [if_pos c10] at H
      have c10b0 : decide (0 ≤ (Go.bits .and .i64 a0 7)) = true := decide_eq_true c10
      clear c10
      by_cases c11 : (Go.bits .and .i64 a0 7) < (y447.length : Int)
      · rw [if_pos c11] at H
        have c11b0 : decide ((Go.bits .and .i64 a0 7) < (y447.length : Int)) = true := decide_eq_true c11
        clear c11
        obtain rfl := Option.some.inj H
        go_enter Try.func11, Try.ntmps11
        go_wp2_with (first | ((with_reducible refine gate_dst (N := 11) rfl ?_); refine Kd.R_lit (Kd.int .i64) _ 3 ?hg (N := 11) ?hd (xs := ([2, 3, 5, 7, 11, 101, 65537, 1048573] : List Int)) (inner := [.int .i64 2, .int .i64 3, .int .i64 5, .int .i64 7, .int .i64 11, .int .i64 101, .int .i64 65537, .int .i64 1048573]) (ok := fun _ => True) (okp := fun _ => True) ?hr ?hp (fun _ hk => hk) trivial (Below.refl _ _) (Nat.le_refl _) (by simp) ?_; (case hd => rfl); (case hg => rfl); (case hr => first | (go_simp; done) | (go_simp; rfl)); (case hp => exact (Reps.one (show Kd.M (Kd.int .i64) _ _ _ 2 [.int .i64 2] from rfl) (Reps.one (show Kd.M (Kd.int .i64) _ _ _ 3 [.int .i64 3] from rfl) (Reps.one (show Kd.M (Kd.int .i64) _ _ _ 5 [.int .i64 5] from rfl) (Reps.one (show Kd.M (Kd.int .i64) _ _ _ 7 [.int .i64 7] from rfl) (Reps.one (show Kd.M (Kd.int .i64) _ _ _ 11 [.int .i64 11] from rfl) (Reps.one (show Kd.M (Kd.int .i64) _ _ _ 101 [.int .i64 101] from rfl) (Reps.one (show Kd.M (Kd.int .i64) _ _ _ 65537 [.int .i64 65537] from rfl) (Reps.one (show Kd.M (Kd.int .i64) _ _ _ 1048573 [.int .i64 1048573] from rfl) (Reps.none _ _)))))))))); intro v448 w12 ho13 hb hg_ hnew_; clear hg_ hnew_; (first | rw [← Ny447.out] at ho13 | (simp only [Int.reduceToNat] at ho13; rw [← Ny447.out] at ho13)); have n0_ := Aside0.mk (Kd.R_lower ho13 (below_size (by repeat (first | (with_reducible first | exact HB.out | apply below_alloc | apply pw_below_drewN | apply below_drew1) | exact HB.out)))); have n1_ := Aside0.mk (below_step (by repeat (first | (with_reducible first | exact HB.out | apply below_alloc | apply pw_below_drewN | apply below_drew1) | exact HB.out)) hb); clear HB; have HO449 := n0_; have HB := n1_; clear n0_ n1_; clear hb ho13; obtain ⟨Ao14, co14, eo14⟩ := Kd.R_slice HO449.out; subst eo14; have p450 : 0 ≤ ((Go.bits .and .i64 a0 7) : Int) := of_decide_eq_true (by first | (with_reducible assumption) | assumption); have q450 : (Go.bits .and .i64 a0 7) < (y447.length : Int) := of_decide_eq_true (by first | (with_reducible assumption) | assumption); obtain ⟨ad450, e450, hx450_0⟩ := Kd.at_int (Kd.R_reads' HO449.out).2.2 (Go.bits .and .i64 a0 7) p450 q450; cases e450; replace p450 := eq_true p450; replace q450 := eq_true q450))
        go_ret
        exact ⟨by first | rfl | (simp [errW_none, errW_some] <;> rfl) | (simp [*, errW_none, errW_some] <;> rfl), by repeat (first | (with_reducible first | exact HB.out | apply below_alloc | apply pw_below_drewN | apply below_drew1) | exact HB.out)⟩
      · rw [if_neg c11] at H
        exact absurd H (by simp)
    · rw [if_neg c10] at H
      exact absurd H (by simp)
def primroseref05_Rest.f (a0 : Int) (a1 : Int) : Option (Int) := if a1 = 0 then (none) else (if (Int.tmod a0 a1) < 0 then (some (wrap64 ((Int.tmod a0 a1) + a1))) else (some (Int.tmod a0 a1)))
set_option maxHeartbeats 8000000 in
set_option maxRecDepth 100000 in
theorem primroseref05_Rest.calls (a0 : Int) (a1 : Int) (r : Int) (w : World) (h : primroseref05_Rest.f a0 a1 = some r) :
    Calls Try.prog 78 #[.int .i64 a0, .int .i64 a1] w fun e w' => e = .returned (.int .i64 r) ∧ Drawn0 w w' := by
  have H : (if a1 = 0 then (none) else (if (Int.tmod a0 a1) < 0 then (some (wrap64 ((Int.tmod a0 a1) + a1))) else (some (Int.tmod a0 a1)))) = some r := h
  clear h
  by_cases c3 : a1 = 0
  · rw [if_pos c3] at H
    exact absurd H (by simp)
  · rw [if_neg c3] at H
    have c3b0 : (a1 == 0) = false := beq_eq_false_iff_ne.mpr c3
    have c3b1 : (a1 != 0) = true := bne_iff_ne.mpr c3
    by_cases c4 : (Int.tmod a0 a1) < 0
    · rw [if_pos c4] at H
      have c4b0 : decide ((Int.tmod a0 a1) < 0) = true := decide_eq_true c4
      clear c4
      obtain rfl := Option.some.inj H
      go_enter Try.func78, Try.ntmps78
      go_wp2
      go_ret
      exact ⟨by first | rfl | (simp; done) | (simp [*]; done), by repeat (first | exact Drawn0.refl _ | apply Drawn0.step)⟩
    · rw [if_neg c4] at H
      have c4b0 : decide ((Int.tmod a0 a1) < 0) = false := decide_eq_false c4
      clear c4
      obtain rfl := Option.some.inj H
      go_enter Try.func78, Try.ntmps78
      go_wp2
      go_ret
      exact ⟨by first | rfl | (simp; done) | (simp [*]; done), by repeat (first | exact Drawn0.refl _ | apply Drawn0.step)⟩
end Go.Proofs.Ytiflghgebeadiaa.M
end
section
namespace Go.Proofs.Ytiflghgebeadiaa.M
open Go.RowKit Go.Proofs.YtiflghgebeadiaaW.PrintWords Go.Proofs.YtiflghgebeadiaaW.PrintLast Go.Proofs.YtiflghgebeadiaaW.PrintMore
attribute [local go_sem] max2_int min2_int max_two min_two max_three min_three max_four min_four   -- for this text's walks alone
set_option linter.unusedVariables false
set_option linter.unusedSimpArgs false
def primroselaw11_SplitRefuses.j0 : Nat → List Int → Int → List Int → Bool → Bool → Option (Bool)
  | 0, _, _, _, _, _ => none
  | k + 1, x0, x1, x2, x7, x54 => if x54 = true then (some false) else ((primroseref05_Is.f k x1).bind fun t658 => (if t658 = true then (some x7) else ((split_Factor.f k x0 x1 x2).bind fun bt659 => ((split_Degrees.f k x0 x1).bind fun bt663 => (if x7 = true then (if bt659.2 = 50 then (if bt663.2 = 50 then (some ((wrap64 ((bt659.1.length : Int) + (bt663.1.length : Int))) == 0)) else (some false)) else (some false)) else (some false))))))
def primroselaw11_SplitRefuses.f (k : Nat) (l0 : List Int) (a1 : Int) (l2 : List Int) : Option (Bool) := (primroselaw11_awake.f k).bind fun t642 => (if t642 = true then (if (l0.length : Int) > 12 then (some t642) else ((primroselaw10_Pick.f k a1).bind fun t643 => ((split_Factor.f k (([0, t643, wrap64 (-t643)] : List Int)) t643 l2).bind fun bt647 => ((split_Degrees.f k (([0, t643, wrap64 (-t643)] : List Int)) t643).bind fun bt654 => (if bt647.2 = 30 then (if bt654.2 = 30 then (primroselaw11_SplitRefuses.j0 k l0 a1 l2 t642 (decide ((wrap64 ((bt647.1.length : Int) + (bt654.1.length : Int))) > 0))) else (primroselaw11_SplitRefuses.j0 k l0 a1 l2 t642 true)) else (primroselaw11_SplitRefuses.j0 k l0 a1 l2 t642 true)))))) else (some false))
set_option maxHeartbeats 8000000 in
set_option maxRecDepth 100000 in
theorem primroselaw11_SplitRefuses.calls (k : Nat) (A0 : Option Addr) (c0 : Nat) (l0 : List Int) (a1 : Int) (A2 : Option Addr) (c2 : Nat) (l2 : List Int) (r : Bool) (w : World) (hr0 : Kd.C (Kd.int .i64) w A0 l0.length l0) (hc0 : l0.length ≤ c0) (hr2 : Kd.C (Kd.int .i64) w A2 l2.length l2) (hc2 : l2.length ≤ c2) (h : primroselaw11_SplitRefuses.f k l0 a1 l2 = some r) :
    Calls Try.prog 5 #[.slice A0 l0.length c0, .int .i64 a1, .slice A2 l2.length c2] w fun e w' => e = .returned (.bool r) ∧ Below w.heap.size w w' := by
  have HR0 := Aside0.mk hr0
  have HC0 := Aside0.mk hc0
  clear hr0 hc0
  have HR2 := Aside0.mk hr2
  have HC2 := Aside0.mk hc2
  clear hr2 hc2
  have HB := Aside0.mk (Below.refl w.heap.size w)
  have H : ((primroselaw11_awake.f k).bind fun t642 => (if t642 = true then (if (l0.length : Int) > 12 then (some t642) else ((primroselaw10_Pick.f k a1).bind fun t643 => ((split_Factor.f k (([0, t643, wrap64 (-t643)] : List Int)) t643 l2).bind fun bt647 => ((split_Degrees.f k (([0, t643, wrap64 (-t643)] : List Int)) t643).bind fun bt654 => (if bt647.2 = 30 then (if bt654.2 = 30 then (primroselaw11_SplitRefuses.j0 k l0 a1 l2 t642 (decide ((wrap64 ((bt647.1.length : Int) + (bt654.1.length : Int))) > 0))) else (primroselaw11_SplitRefuses.j0 k l0 a1 l2 t642 true)) else (primroselaw11_SplitRefuses.j0 k l0 a1 l2 t642 true)))))) else (some false))) = some r := h
  clear h
  replace H := Option.bind_eq_some_iff.mp H
  obtain ⟨t642, A40, H⟩ := H
  replace H : (if t642 = true then (if (l0.length : Int) > 12 then (some t642) else ((primroselaw10_Pick.f k a1).bind fun t643 => ((split_Factor.f k (([0, t643, wrap64 (-t643)] : List Int)) t643 l2).bind fun bt647 => ((split_Degrees.f k (([0, t643, wrap64 (-t643)] : List Int)) t643).bind fun bt654 => (if bt647.2 = 30 then (if bt654.2 = 30 then (primroselaw11_SplitRefuses.j0 k l0 a1 l2 t642 (decide ((wrap64 ((bt647.1.length : Int) + (bt654.1.length : Int))) > 0))) else (primroselaw11_SplitRefuses.j0 k l0 a1 l2 t642 true)) else (primroselaw11_SplitRefuses.j0 k l0 a1 l2 t642 true)))))) else (some false)) = some r := H
  have A4 := Aside0.mk A40
  clear A40
  by_cases c5 : t642 = true
  · subst c5
    have H1 : (if (l0.length : Int) > 12 then (some true) else ((primroselaw10_Pick.f k a1).bind fun t643 => ((split_Factor.f k (([0, t643, wrap64 (-t643)] : List Int)) t643 l2).bind fun bt647 => ((split_Degrees.f k (([0, t643, wrap64 (-t643)] : List Int)) t643).bind fun bt654 => (if bt647.2 = 30 then (if bt654.2 = 30 then (primroselaw11_SplitRefuses.j0 k l0 a1 l2 true (decide ((wrap64 ((bt647.1.length : Int) + (bt654.1.length : Int))) > 0))) else (primroselaw11_SplitRefuses.j0 k l0 a1 l2 true true)) else (primroselaw11_SplitRefuses.j0 k l0 a1 l2 true true)))))) = some r := by rw [if_pos rfl] at H; exact H
    clear H
    have H := H1
    clear H1
    by_cases c6 : (l0.length : Int) > 12
    · rw [if_pos c6] at H
      have c6b0 : decide (12 < (l0.length : Int)) = true := decide_eq_true c6
      have c6b1 : decide (12 < l0.length) = true := decide_eq_true (by omega)
      clear c6
      obtain rfl := Option.some.inj H
      go_enter Try.func5, Try.ntmps5
      go_wp2_with (first | ((with_reducible refine gate_callee (f := 6) rfl ?_); refine goesL_ (some 13) rfl rfl Try.func6 (by kernel_rfl) rfl #[] rfl (by (try simp only [List.map_toArray, List.map_cons, List.map_nil]); first | done | rfl | (simp only [List.length_drop, List.length_take]; rfl)) ?_; (with_reducible refine (primroselaw11_awake.calls k  true _ A4.out).mono ?_); rintro e w7 ⟨rfl, hb⟩; refine ⟨_, rfl, ?_⟩; have n0_ := Aside0.mk (below_step (by repeat (first | (with_reducible first | exact HB.out | apply below_alloc | apply pw_below_drewN | apply below_drew1) | exact HB.out)) hb); clear HB; have HB := n0_; clear n0_; (try clear hb); (try clear hb2); (try clear hk); (try clear hi)))
      go_ret
      exact ⟨by first | rfl | (simp [errW_none, errW_some] <;> rfl) | (simp [*, errW_none, errW_some] <;> rfl), by repeat (first | (with_reducible first | exact HB.out | apply below_alloc | apply pw_below_drewN | apply below_drew1) | exact HB.out)⟩
    · rw [if_neg c6] at H
      have c6b0 : decide (12 < (l0.length : Int)) = false := decide_eq_false c6
      have c6b1 : decide (12 < l0.length) = false := decide_eq_false (by omega)
      clear c6
      replace H := Option.bind_eq_some_iff.mp H
      obtain ⟨t643, A80, H⟩ := H
      replace H : ((split_Factor.f k (([0, t643, wrap64 (-t643)] : List Int)) t643 l2).bind fun bt647 => ((split_Degrees.f k (([0, t643, wrap64 (-t643)] : List Int)) t643).bind fun bt654 => (if bt647.2 = 30 then (if bt654.2 = 30 then (primroselaw11_SplitRefuses.j0 k l0 a1 l2 true (decide ((wrap64 ((bt647.1.length : Int) + (bt654.1.length : Int))) > 0))) else (primroselaw11_SplitRefuses.j0 k l0 a1 l2 true true)) else (primroselaw11_SplitRefuses.j0 k l0 a1 l2 true true)))) = some r := H
      have A8 := Aside0.mk A80
      clear A80
      obtain ⟨y644, hy644⟩ : ∃ y_ : List Int, y_ = (([0, t643, wrap64 (-t643)] : List Int)) := ⟨_, rfl⟩
      replace H : ((split_Factor.f k y644 t643 l2).bind fun bt647 => ((split_Degrees.f k (([0, t643, wrap64 (-t643)] : List Int)) t643).bind fun bt654 => (if bt647.2 = 30 then (if bt654.2 = 30 then (primroselaw11_SplitRefuses.j0 k l0 a1 l2 true (decide ((wrap64 ((bt647.1.length : Int) + (bt654.1.length : Int))) > 0))) else (primroselaw11_SplitRefuses.j0 k l0 a1 l2 true true)) else (primroselaw11_SplitRefuses.j0 k l0 a1 l2 true true)))) = some r := by first | (rw [hy644]; with_reducible exact H) | (have H2_ := (Option.bind_some _ _).symm.trans H; rw [hy644]; with_reducible exact H2_) | (have H2_ := (Option.bind_some _ _).symm.trans H; with_reducible exact H2_) | with_reducible exact H | (rw [hy644]; exact H) | exact H
      have Ny644 := Aside0.mk hy644
      clear hy644
      replace H := Option.bind_eq_some_iff.mp H
      obtain ⟨⟨t647, t650⟩, A90, H⟩ := H
      replace H : ((split_Degrees.f k (([0, t643, wrap64 (-t643)] : List Int)) t643).bind fun bt654 => (if t650 = 30 then (if bt654.2 = 30 then (primroselaw11_SplitRefuses.j0 k l0 a1 l2 true (decide ((wrap64 ((t647.length : Int) + (bt654.1.length : Int))) > 0))) else (primroselaw11_SplitRefuses.j0 k l0 a1 l2 true true)) else (primroselaw11_SplitRefuses.j0 k l0 a1 l2 true true))) = some r := H
      have A9 := Aside0.mk A90
      clear A90
      obtain ⟨y651, hy651⟩ : ∃ y_ : List Int, y_ = (([0, t643, wrap64 (-t643)] : List Int)) := ⟨_, rfl⟩
      replace H : ((split_Degrees.f k y651 t643).bind fun bt654 => (if t650 = 30 then (if bt654.2 = 30 then (primroselaw11_SplitRefuses.j0 k l0 a1 l2 true (decide ((wrap64 ((t647.length : Int) + (bt654.1.length : Int))) > 0))) else (primroselaw11_SplitRefuses.j0 k l0 a1 l2 true true)) else (primroselaw11_SplitRefuses.j0 k l0 a1 l2 true true))) = some r := by first | (rw [hy651]; with_reducible exact H) | (have H2_ := (Option.bind_some _ _).symm.trans H; rw [hy651]; with_reducible exact H2_) | (have H2_ := (Option.bind_some _ _).symm.trans H; with_reducible exact H2_) | with_reducible exact H | (rw [hy651]; exact H) | exact H
      have Ny651 := Aside0.mk hy651
      clear hy651
      replace H := Option.bind_eq_some_iff.mp H
      obtain ⟨⟨t654, t657⟩, A100, H⟩ := H
      replace H : (if t650 = 30 then (if t657 = 30 then (primroselaw11_SplitRefuses.j0 k l0 a1 l2 true (decide ((wrap64 ((t647.length : Int) + (t654.length : Int))) > 0))) else (primroselaw11_SplitRefuses.j0 k l0 a1 l2 true true)) else (primroselaw11_SplitRefuses.j0 k l0 a1 l2 true true)) = some r := H
      have A10 := Aside0.mk A100
      clear A100
      have HC11 := Aside0.mk H
      clear H
      go_enter Try.func5, Try.ntmps5
      go_upto_region 9 with (first | ((with_reducible refine gate_callee (f := 6) rfl ?_); refine goesL_ (some 13) rfl rfl Try.func6 (by kernel_rfl) rfl #[] rfl (by (try simp only [List.map_toArray, List.map_cons, List.map_nil]); first | done | rfl | (simp only [List.length_drop, List.length_take]; rfl)) ?_; (with_reducible refine (primroselaw11_awake.calls k  true _ A4.out).mono ?_); rintro e w12 ⟨rfl, hb⟩; refine ⟨_, rfl, ?_⟩; have n0_ := Aside0.mk (below_step (by repeat (first | (with_reducible first | exact HB.out | apply below_alloc | apply pw_below_drewN | apply below_drew1) | exact HB.out)) hb); clear HB; have HB := n0_; clear n0_; (try clear hb); (try clear hb2); (try clear hk); (try clear hi)) | ((with_reducible refine gate_callee (f := 11) rfl ?_); refine goesL_ (some 21) rfl rfl Try.func11 (by kernel_rfl) rfl #[.int .i64 a1] rfl (by (try simp only [List.map_toArray, List.map_cons, List.map_nil]); first | done | rfl | (simp only [List.length_drop, List.length_take]; rfl)) ?_; (with_reducible refine (primroselaw10_Pick.calls k a1 t643 _ A8.out).mono ?_); rintro e w13 ⟨rfl, hb⟩; refine ⟨_, rfl, ?_⟩; have n0_ := Aside0.mk (below_step (by repeat (first | (with_reducible first | exact HB.out | apply below_alloc | apply pw_below_drewN | apply below_drew1) | exact HB.out)) hb); clear HB; have HB := n0_; clear n0_; (try clear hb); (try clear hb2); (try clear hk); (try clear hi)) | ((with_reducible refine gate_dst (N := 26) rfl ?_); (try (refine gate_guard (by rfl) ?_; dsimp only)); refine Kd.R_lit (Kd.int .i64) _ 3 ?hg (N := 26) ?hd (xs := ([0, t643, wrap64 (-t643)] : List Int)) (inner := [.int .i64 0, .int .i64 t643, .int .i64 (wrap64 (-t643))]) (ok := fun _ => True) (okp := fun _ => True) ?hr ?hp (fun _ hk => hk) trivial (Below.refl _ _) (Nat.le_refl _) (by simp) ?_; (case hd => rfl); (case hg => rfl); (case hr => first | (go_simp; done) | (go_simp; rfl)); (case hp => exact (Reps.one (show Kd.M (Kd.int .i64) _ _ _ 0 [.int .i64 0] from rfl) (Reps.one (show Kd.M (Kd.int .i64) _ _ _ t643 [.int .i64 t643] from rfl) (Reps.one (show Kd.M (Kd.int .i64) _ _ _ (wrap64 (-t643)) [.int .i64 (wrap64 (-t643))] from rfl) (Reps.none _ _))))); intro v645 w14 ho15 hb hg_ hnew_; clear hg_ hnew_; (first | rw [← Ny644.out] at ho15 | (simp only [Int.reduceToNat] at ho15; rw [← Ny644.out] at ho15)); have n0_ := Aside0.mk (Kd.R_lower ho15 (below_size (by repeat (first | (with_reducible first | exact HB.out | apply below_alloc | apply pw_below_drewN | apply below_drew1) | exact HB.out)))); have n1_ := Aside0.mk (below_step (by repeat (first | (with_reducible first | exact HB.out | apply below_alloc | apply pw_below_drewN | apply below_drew1) | exact HB.out)) hb); clear HB; have HO646 := n0_; have HB := n1_; clear n0_ n1_; clear hb ho15; obtain ⟨Ao16, co16, eo16⟩ := Kd.R_slice HO646.out; subst eo16) | ((with_reducible refine gate_callee (f := 8) rfl ?_); refine goesL_ (some 29) rfl rfl Try.func8 (by kernel_rfl) rfl #[.slice Ao16 y644.length co16, .int .i64 t643, .slice A2 l2.length c2] rfl (by (try simp only [List.map_toArray, List.map_cons, List.map_nil]); first | done | rfl | (simp only [List.length_drop, List.length_take]; rfl)) ?_; (with_reducible refine (split_Factor.calls k _ _ y644 t643 _ _ l2 t647 t650 _ ?side1 ?side2 ?side3 ?side4 A9.out).mono ?_); (case side1 => repeat (first | exact (Kd.R_reads' HO646.out).2.2 | (with_reducible refine Kd.C_alloc ?_ _) | (with_reducible refine Kd.C_drewN ?_ _) | (with_reducible refine Kd.C_drew ?_))); (case side2 => exact (Kd.R_reads' HO646.out).2.1); (case side3 => repeat (first | exact (Kd.C_below HR2.out HB.out) | (with_reducible refine Kd.C_alloc ?_ _) | (with_reducible refine Kd.C_drewN ?_ _) | (with_reducible refine Kd.C_drew ?_))); (case side4 => exact HC2.out); rintro e w17 ⟨v648, rfl, ho0, hb⟩; refine ⟨_, rfl, ?_⟩; have n0_ := Aside0.mk (Kd.R_below (by (with_reducible repeat (first | apply Kd.R_alloc | apply Kd.R_drewN | apply Kd.R_drew)); exact HO646.out) hb); have n1_ := Aside0.mk (Kd.N_lower (Kd.N_mono (ok' := fun k_ => some k_ ≠ (.slice Ao16 y644.length co16 : Value).ownBlock) ho0 (fun k_ hk_ => (Kd.fresh' (Kd.R_lt (by (with_reducible repeat (first | apply Kd.R_alloc | apply Kd.R_drewN | apply Kd.R_drew)); exact HO646.out)) k_ hk_))) (below_size (by repeat (first | (with_reducible first | exact HB.out | apply below_alloc | apply pw_below_drewN | apply below_drew1) | exact HB.out)))); have n2_ := Aside0.mk (below_step (by repeat (first | (with_reducible first | exact HB.out | apply below_alloc | apply pw_below_drewN | apply below_drew1) | exact HB.out)) hb); clear HO646; clear HB; have HO646 := n0_; have HO649 := n1_; have HB := n2_; clear n0_ n1_ n2_; (try clear hb); (try clear hb2); (try clear hk); (try clear hi); (try clear ho0)) | ((with_reducible refine gate_dst (N := 36) rfl ?_); (try (refine gate_guard (by rfl) ?_; dsimp only)); refine Kd.R_lit (Kd.int .i64) _ 3 ?hg (N := 36) ?hd (xs := ([0, t643, wrap64 (-t643)] : List Int)) (inner := [.int .i64 0, .int .i64 t643, .int .i64 (wrap64 (-t643))]) (ok := fun _ => True) (okp := fun _ => True) ?hr ?hp (fun _ hk => hk) trivial (Below.refl _ _) (Nat.le_refl _) (by simp) ?_; (case hd => rfl); (case hg => rfl); (case hr => first | (go_simp; done) | (go_simp; rfl)); (case hp => exact (Reps.one (show Kd.M (Kd.int .i64) _ _ _ 0 [.int .i64 0] from rfl) (Reps.one (show Kd.M (Kd.int .i64) _ _ _ t643 [.int .i64 t643] from rfl) (Reps.one (show Kd.M (Kd.int .i64) _ _ _ (wrap64 (-t643)) [.int .i64 (wrap64 (-t643))] from rfl) (Reps.none _ _))))); intro v652 w18 ho19 hb hg_ hnew_; clear hg_ hnew_; (first | rw [← Ny651.out] at ho19 | (simp only [Int.reduceToNat] at ho19; rw [← Ny651.out] at ho19)); have n0_ := Aside0.mk (Kd.R_elder' (by (with_reducible repeat (first | apply Kd.R_alloc | apply Kd.R_drewN | apply Kd.R_drew)); exact HO646.out) (Kd.R_base ho19) hb); have n1_ := Aside0.mk (Kd.N_elder' (by (with_reducible repeat (first | apply Kd.N_alloc | apply Kd.N_drewN | apply Kd.N_drew)); exact HO649.out) (Kd.R_base ho19) hb); have n2_ := Aside0.mk (Kd.R_lower (Kd.R_new' ho19 (Kd.R_lt (by (with_reducible repeat (first | apply Kd.R_alloc | apply Kd.R_drewN | apply Kd.R_drew)); exact HO646.out))) (below_size (by repeat (first | (with_reducible first | exact HB.out | apply below_alloc | apply pw_below_drewN | apply below_drew1) | exact HB.out)))); have n3_ := Aside0.mk (below_step (by repeat (first | (with_reducible first | exact HB.out | apply below_alloc | apply pw_below_drewN | apply below_drew1) | exact HB.out)) hb); clear HO646; clear HO649; clear HB; have HO646 := n0_; have HO649 := n1_; have HO653 := n2_; have HB := n3_; clear n0_ n1_ n2_ n3_; clear hb ho19; obtain ⟨Ao20, co20, eo20⟩ := Kd.R_slice HO653.out; subst eo20) | ((with_reducible refine gate_callee (f := 15) rfl ?_); refine goesL_ (some 38) rfl rfl Try.func15 (by kernel_rfl) rfl #[.slice Ao20 y651.length co20, .int .i64 t643] rfl (by (try simp only [List.map_toArray, List.map_cons, List.map_nil]); first | done | rfl | (simp only [List.length_drop, List.length_take]; rfl)) ?_; (with_reducible refine (split_Degrees.calls k _ _ y651 t643 t654 t657 _ ?side1 ?side2 A10.out).mono ?_); (case side1 => repeat (first | exact (Kd.R_reads' HO653.out).2.2 | (with_reducible refine Kd.C_alloc ?_ _) | (with_reducible refine Kd.C_drewN ?_ _) | (with_reducible refine Kd.C_drew ?_))); (case side2 => exact (Kd.R_reads' HO653.out).2.1); rintro e w21 ⟨v655, rfl, ho0, hb⟩; refine ⟨_, rfl, ?_⟩; have n0_ := Aside0.mk (Kd.R_below (by (with_reducible repeat (first | apply Kd.R_alloc | apply Kd.R_drewN | apply Kd.R_drew)); exact HO646.out) hb); have n1_ := Aside0.mk (Kd.N_elder' (by (with_reducible repeat (first | apply Kd.N_alloc | apply Kd.N_drewN | apply Kd.N_drew)); exact HO649.out) (Kd.N_base ho0) hb); have n2_ := Aside0.mk (Kd.R_below (by (with_reducible repeat (first | apply Kd.R_alloc | apply Kd.R_drewN | apply Kd.R_drew)); exact HO653.out) hb); have n3_ := Aside0.mk (Kd.N_lower (Kd.N_mono (ok' := fun k_ => some k_ ≠ (.slice Ao16 y644.length co16 : Value).ownBlock ∧ some k_ ≠ (v648 : Value).ownBlock ∧ some k_ ≠ (.slice Ao20 y651.length co20 : Value).ownBlock) ho0 (fun k_ hk_ => ⟨(Kd.fresh' (Kd.R_lt (by (with_reducible repeat (first | apply Kd.R_alloc | apply Kd.R_drewN | apply Kd.R_drew)); exact HO646.out)) k_ hk_), (Kd.fresh' (Kd.N_lt (by (with_reducible repeat (first | apply Kd.N_alloc | apply Kd.N_drewN | apply Kd.N_drew)); exact HO649.out)) k_ hk_), (Kd.fresh' (Kd.R_lt (by (with_reducible repeat (first | apply Kd.R_alloc | apply Kd.R_drewN | apply Kd.R_drew)); exact HO653.out)) k_ hk_)⟩)) (below_size (by repeat (first | (with_reducible first | exact HB.out | apply below_alloc | apply pw_below_drewN | apply below_drew1) | exact HB.out)))); have n4_ := Aside0.mk (below_step (by repeat (first | (with_reducible first | exact HB.out | apply below_alloc | apply pw_below_drewN | apply below_drew1) | exact HB.out)) hb); clear HO646; clear HO649; clear HO653; clear HB; have HO646 := n0_; have HO649 := n1_; have HO653 := n2_; have HO656 := n3_; have HB := n4_; clear n0_ n1_ n2_ n3_ n4_; (try clear hb); (try clear hb2); (try clear hk); (try clear hi); (try clear ho0)))
      (try simp only [Act.put, List.setIfInBounds_toArray, List.set_cons_zero, List.set_cons_succ])
      go_cut [54] (fun v54 wc => ∃ (kq : Nat) (x54_10 : Bool), v54 = .bool x54_10 ∧ Aside0 (primroselaw11_SplitRefuses.j0 kq l0 a1 l2 true x54_10 = some r) ∧ Aside0 (kq ≤ k) ∧ Aside0 (Below w.heap.size w wc))
      case first =>
        have H := HC11.out
        clear HC11
        by_cases c22 : t650 = 30
        · rw [if_pos c22] at H
          have c22b0 : (t650 == 30) = true := beq_iff_eq.mpr c22
          have c22b1 : (t650 != 30) = false := bne_eq_false_iff_eq.mpr c22
          clear c22
          (first | rw [c22b0] | (simp only [i64_w, i32_w]; rw [c22b0]) | skip)
          by_cases c23 : t657 = 30
          · rw [if_pos c23] at H
            have c23b0 : (t657 == 30) = true := beq_iff_eq.mpr c23
            have c23b1 : (t657 != 30) = false := bne_eq_false_iff_eq.mpr c23
            clear c23
            have H' := Aside0.mk H
            clear H
            obtain ⟨Ao24, co24, eo24⟩ := Kd.N_slice HO649.out
            subst eo24
            obtain ⟨Ao25, co25, eo25⟩ := Kd.N_slice HO656.out
            subst eo25
            go_wp2
            go_meet
            case rel => exact ⟨_, (decide ((wrap64 ((t647.length : Int) + (t654.length : Int))) > 0)), (by first | rfl | (simp; done) | (simp [*]; done)), H', ⟨by first | omega | exact Nat.le_refl _⟩, ⟨by repeat (first | (with_reducible first | exact HB.out | apply below_alloc | apply pw_below_drewN | apply below_drew1) | exact HB.out)⟩⟩
          · rw [if_neg c23] at H
            have c23b0 : (t657 == 30) = false := beq_eq_false_iff_ne.mpr c23
            have c23b1 : (t657 != 30) = true := bne_iff_ne.mpr c23
            have H' := Aside0.mk H
            clear H
            go_wp2
            go_meet
            case rel => exact ⟨_, (true), (by first | rfl | (simp; done) | (simp [*]; done)), H', ⟨by first | omega | exact Nat.le_refl _⟩, ⟨by repeat (first | (with_reducible first | exact HB.out | apply below_alloc | apply pw_below_drewN | apply below_drew1) | exact HB.out)⟩⟩
        · rw [if_neg c22] at H
          have c22b0 : (t650 == 30) = false := beq_eq_false_iff_ne.mpr c22
          have c22b1 : (t650 != 30) = true := bne_iff_ne.mpr c22
          (first | rw [c22b0] | (simp only [i64_w, i32_w]; rw [c22b0]) | skip)
          have H' := Aside0.mk H
          clear H
          go_wp2
          go_meet
          case rel => exact ⟨_, (true), (by first | rfl | (simp; done) | (simp [*]; done)), H', ⟨by first | omega | exact Nat.le_refl _⟩, ⟨by repeat (first | (with_reducible first | exact HB.out | apply below_alloc | apply pw_below_drewN | apply below_drew1) | exact HB.out)⟩⟩
      case rest =>
        clear HC11
        try clear c1
        try clear c2
        try clear p2
        try clear c5
        try clear c6
        try clear c6b0
        try clear c6b1
        try clear p6
        try clear c8
        try clear c11
        try clear c15
        try clear c22
        try clear c22b0
        try clear c22b1
        try clear c23
        try clear c23b0
        try clear c23b1
        obtain ⟨kq, x54_10, rfl, HA, HJ10, HB⟩ := hcut
        cases kq with
        | zero => exact absurd HA.out (by simp [primroselaw11_SplitRefuses.j0])
        | succ kj10 =>
          have H := HA.out
          clear HA
          simp only [primroselaw11_SplitRefuses.j0] at H
          by_cases c26 : x54_10 = true
          · subst c26
            have H1 : (some false) = some r := by rw [if_pos rfl] at H; exact H
            clear H
            have H := H1
            clear H1
            obtain rfl := Option.some.inj H
            go_wp2
            go_ret
            exact ⟨by first | rfl | (simp [errW_none, errW_some] <;> rfl) | (simp [*, errW_none, errW_some] <;> rfl), by repeat (first | (with_reducible first | exact HB.out | apply below_alloc | apply pw_below_drewN | apply below_drew1) | exact HB.out)⟩
          · replace c26 := Bool.eq_false_iff.mpr c26
            subst c26
            have H1 : ((primroseref05_Is.f kj10 a1).bind fun t658 => (if t658 = true then (some true) else ((split_Factor.f kj10 l0 a1 l2).bind fun bt659 => ((split_Degrees.f kj10 l0 a1).bind fun bt663 => (if true = true then (if bt659.2 = 50 then (if bt663.2 = 50 then (some ((wrap64 ((bt659.1.length : Int) + (bt663.1.length : Int))) == 0)) else (some false)) else (some false)) else (some false)))))) = some r := by rw [if_neg (show ¬ (false = true) by decide)] at H; exact H
            clear H
            have H := H1
            clear H1
            replace H := Option.bind_eq_some_iff.mp H
            obtain ⟨t658, A270, H⟩ := H
            replace H : (if t658 = true then (some true) else ((split_Factor.f kj10 l0 a1 l2).bind fun bt659 => ((split_Degrees.f kj10 l0 a1).bind fun bt663 => (if true = true then (if bt659.2 = 50 then (if bt663.2 = 50 then (some ((wrap64 ((bt659.1.length : Int) + (bt663.1.length : Int))) == 0)) else (some false)) else (some false)) else (some false))))) = some r := H
            have A27 := Aside0.mk A270
            clear A270
            by_cases c28 : t658 = true
            · subst c28
              have H1 : (some true) = some r := by rw [if_pos rfl] at H; exact H
              clear H
              have H := H1
              clear H1
              obtain rfl := Option.some.inj H
              go_wp2_with (first | ((with_reducible refine gate_callee (f := 14) rfl ?_); refine goesL_ (some 56) rfl rfl Try.func14 (by kernel_rfl) rfl #[.int .i64 a1] rfl (by (try simp only [List.map_toArray, List.map_cons, List.map_nil]); first | done | rfl | (simp only [List.length_drop, List.length_take]; rfl)) ?_; (with_reducible refine (primroseref05_Is.calls kj10 a1 true _ A27.out).mono ?_); rintro e w' ⟨rfl, ⟨nd, rfl⟩⟩; refine ⟨_, rfl, ?_⟩))
              go_ret
              exact ⟨by first | rfl | (simp [errW_none, errW_some] <;> rfl) | (simp [*, errW_none, errW_some] <;> rfl), by repeat (first | (with_reducible first | exact HB.out | apply below_alloc | apply pw_below_drewN | apply below_drew1) | exact HB.out)⟩
            · replace c28 := Bool.eq_false_iff.mpr c28
              subst c28
              have H1 : ((split_Factor.f kj10 l0 a1 l2).bind fun bt659 => ((split_Degrees.f kj10 l0 a1).bind fun bt663 => (if true = true then (if bt659.2 = 50 then (if bt663.2 = 50 then (some ((wrap64 ((bt659.1.length : Int) + (bt663.1.length : Int))) == 0)) else (some false)) else (some false)) else (some false)))) = some r := by rw [if_neg (show ¬ (false = true) by decide)] at H; exact H
              clear H
              have H := H1
              clear H1
              replace H := Option.bind_eq_some_iff.mp H
              obtain ⟨⟨t659, t662⟩, A290, H⟩ := H
              replace H : ((split_Degrees.f kj10 l0 a1).bind fun bt663 => (if true = true then (if t662 = 50 then (if bt663.2 = 50 then (some ((wrap64 ((t659.length : Int) + (bt663.1.length : Int))) == 0)) else (some false)) else (some false)) else (some false))) = some r := H
              have A29 := Aside0.mk A290
              clear A290
              replace H := Option.bind_eq_some_iff.mp H
              obtain ⟨⟨t663, t666⟩, A300, H⟩ := H
              replace H : (if true = true then (if t662 = 50 then (if t666 = 50 then (some ((wrap64 ((t659.length : Int) + (t663.length : Int))) == 0)) else (some false)) else (some false)) else (some false)) = some r := H
              have A30 := Aside0.mk A300
              clear A300
              have H1 : (if t662 = 50 then (if t666 = 50 then (some ((wrap64 ((t659.length : Int) + (t663.length : Int))) == 0)) else (some false)) else (some false)) = some r := by rw [if_pos rfl] at H; exact H
              clear H
              have H := H1
              clear H1
              by_cases c31 : t662 = 50
              · rw [if_pos c31] at H
                have c31b0 : (t662 == 50) = true := beq_iff_eq.mpr c31
                have c31b1 : (t662 != 50) = false := bne_eq_false_iff_eq.mpr c31
                clear c31
                by_cases c32 : t666 = 50
                · rw [if_pos c32] at H
                  have c32b0 : (t666 == 50) = true := beq_iff_eq.mpr c32
                  have c32b1 : (t666 != 50) = false := bne_eq_false_iff_eq.mpr c32
                  clear c32
                  obtain rfl := Option.some.inj H
                  go_wp2_with (first | ((with_reducible refine gate_callee (f := 14) rfl ?_); refine goesL_ (some 56) rfl rfl Try.func14 (by kernel_rfl) rfl #[.int .i64 a1] rfl (by (try simp only [List.map_toArray, List.map_cons, List.map_nil]); first | done | rfl | (simp only [List.length_drop, List.length_take]; rfl)) ?_; (with_reducible refine (primroseref05_Is.calls kj10 a1 false _ A27.out).mono ?_); rintro e w' ⟨rfl, ⟨nd, rfl⟩⟩; refine ⟨_, rfl, ?_⟩) | ((with_reducible refine gate_callee (f := 8) rfl ?_); refine goesL_ (some 62) rfl rfl Try.func8 (by kernel_rfl) rfl #[.slice A0 l0.length c0, .int .i64 a1, .slice A2 l2.length c2] rfl (by (try simp only [List.map_toArray, List.map_cons, List.map_nil]); first | done | rfl | (simp only [List.length_drop, List.length_take]; rfl)) ?_; (with_reducible refine (split_Factor.calls kj10 _ _ l0 a1 _ _ l2 t659 t662 _ ?side1 ?side2 ?side3 ?side4 A29.out).mono ?_); (case side1 => repeat (first | exact (Kd.C_below HR0.out (by repeat (first | (with_reducible first | exact HB.out | apply below_alloc | apply pw_below_drewN | apply below_drew1) | exact HB.out))) | (with_reducible refine Kd.C_alloc ?_ _) | (with_reducible refine Kd.C_drewN ?_ _) | (with_reducible refine Kd.C_drew ?_))); (case side2 => exact HC0.out); (case side3 => repeat (first | exact (Kd.C_below HR2.out (by repeat (first | (with_reducible first | exact HB.out | apply below_alloc | apply pw_below_drewN | apply below_drew1) | exact HB.out))) | (with_reducible refine Kd.C_alloc ?_ _) | (with_reducible refine Kd.C_drewN ?_ _) | (with_reducible refine Kd.C_drew ?_))); (case side4 => exact HC2.out); rintro e w33 ⟨v660, rfl, ho0, hb⟩; refine ⟨_, rfl, ?_⟩; have n0_ := Aside0.mk (Kd.N_lower (Kd.N_mono (ok' := fun k_ => True) ho0 (fun k_ hk_ => trivial)) (below_size (by repeat (first | (with_reducible first | exact HB.out | apply below_alloc | apply pw_below_drewN | apply below_drew1) | exact HB.out)))); have n1_ := Aside0.mk (below_step (by repeat (first | (with_reducible first | exact HB.out | apply below_alloc | apply pw_below_drewN | apply below_drew1) | exact HB.out)) hb); clear HB; have HO661 := n0_; have HB := n1_; clear n0_ n1_; (try clear hb); (try clear hb2); (try clear hk); (try clear hi); (try clear ho0)) | ((with_reducible refine gate_callee (f := 15) rfl ?_); refine goesL_ (some 68) rfl rfl Try.func15 (by kernel_rfl) rfl #[.slice A0 l0.length c0, .int .i64 a1] rfl (by (try simp only [List.map_toArray, List.map_cons, List.map_nil]); first | done | rfl | (simp only [List.length_drop, List.length_take]; rfl)) ?_; (with_reducible refine (split_Degrees.calls kj10 _ _ l0 a1 t663 t666 _ ?side1 ?side2 A30.out).mono ?_); (case side1 => repeat (first | exact (Kd.C_below HR0.out HB.out) | (with_reducible refine Kd.C_alloc ?_ _) | (with_reducible refine Kd.C_drewN ?_ _) | (with_reducible refine Kd.C_drew ?_))); (case side2 => exact HC0.out); rintro e w34 ⟨v664, rfl, ho0, hb⟩; refine ⟨_, rfl, ?_⟩; have n0_ := Aside0.mk (Kd.N_elder' (by (with_reducible repeat (first | apply Kd.N_alloc | apply Kd.N_drewN | apply Kd.N_drew)); exact HO661.out) (Kd.N_base ho0) hb); have n1_ := Aside0.mk (Kd.N_lower (Kd.N_mono (ok' := fun k_ => some k_ ≠ (v660 : Value).ownBlock) ho0 (fun k_ hk_ => (Kd.fresh' (Kd.N_lt (by (with_reducible repeat (first | apply Kd.N_alloc | apply Kd.N_drewN | apply Kd.N_drew)); exact HO661.out)) k_ hk_))) (below_size (by repeat (first | (with_reducible first | exact HB.out | apply below_alloc | apply pw_below_drewN | apply below_drew1) | exact HB.out)))); have n2_ := Aside0.mk (below_step (by repeat (first | (with_reducible first | exact HB.out | apply below_alloc | apply pw_below_drewN | apply below_drew1) | exact HB.out)) hb); clear HO661; clear HB; have HO661 := n0_; have HO665 := n1_; have HB := n2_; clear n0_ n1_ n2_; (try clear hb); (try clear hb2); (try clear hk); (try clear hi); (try clear ho0); obtain ⟨Ao35, co35, eo35⟩ := Kd.N_slice HO661.out; subst eo35; obtain ⟨Ao36, co36, eo36⟩ := Kd.N_slice HO665.out; subst eo36))
                  go_ret
                  exact ⟨by first | rfl | (simp [errW_none, errW_some] <;> rfl) | (simp [*, errW_none, errW_some] <;> rfl), by repeat (first | (with_reducible first | exact HB.out | apply below_alloc | apply pw_below_drewN | apply below_drew1) | exact HB.out)⟩
                · rw [if_neg c32] at H
                  have c32b0 : (t666 == 50) = false := beq_eq_false_iff_ne.mpr c32
                  have c32b1 : (t666 != 50) = true := bne_iff_ne.mpr c32
                  obtain rfl := Option.some.inj H
                  go_wp2_with (first | ((with_reducible refine gate_callee (f := 14) rfl ?_); refine goesL_ (some 56) rfl rfl Try.func14 (by kernel_rfl) rfl #[.int .i64 a1] rfl (by (try simp only [List.map_toArray, List.map_cons, List.map_nil]); first | done | rfl | (simp only [List.length_drop, List.length_take]; rfl)) ?_; (with_reducible refine (primroseref05_Is.calls kj10 a1 false _ A27.out).mono ?_); rintro e w' ⟨rfl, ⟨nd, rfl⟩⟩; refine ⟨_, rfl, ?_⟩) | ((with_reducible refine gate_callee (f := 8) rfl ?_); refine goesL_ (some 62) rfl rfl Try.func8 (by kernel_rfl) rfl #[.slice A0 l0.length c0, .int .i64 a1, .slice A2 l2.length c2] rfl (by (try simp only [List.map_toArray, List.map_cons, List.map_nil]); first | done | rfl | (simp only [List.length_drop, List.length_take]; rfl)) ?_; (with_reducible refine (split_Factor.calls kj10 _ _ l0 a1 _ _ l2 t659 t662 _ ?side1 ?side2 ?side3 ?side4 A29.out).mono ?_); (case side1 => repeat (first | exact (Kd.C_below HR0.out (by repeat (first | (with_reducible first | exact HB.out | apply below_alloc | apply pw_below_drewN | apply below_drew1) | exact HB.out))) | (with_reducible refine Kd.C_alloc ?_ _) | (with_reducible refine Kd.C_drewN ?_ _) | (with_reducible refine Kd.C_drew ?_))); (case side2 => exact HC0.out); (case side3 => repeat (first | exact (Kd.C_below HR2.out (by repeat (first | (with_reducible first | exact HB.out | apply below_alloc | apply pw_below_drewN | apply below_drew1) | exact HB.out))) | (with_reducible refine Kd.C_alloc ?_ _) | (with_reducible refine Kd.C_drewN ?_ _) | (with_reducible refine Kd.C_drew ?_))); (case side4 => exact HC2.out); rintro e w37 ⟨v660, rfl, ho0, hb⟩; refine ⟨_, rfl, ?_⟩; have n0_ := Aside0.mk (Kd.N_lower (Kd.N_mono (ok' := fun k_ => True) ho0 (fun k_ hk_ => trivial)) (below_size (by repeat (first | (with_reducible first | exact HB.out | apply below_alloc | apply pw_below_drewN | apply below_drew1) | exact HB.out)))); have n1_ := Aside0.mk (below_step (by repeat (first | (with_reducible first | exact HB.out | apply below_alloc | apply pw_below_drewN | apply below_drew1) | exact HB.out)) hb); clear HB; have HO661 := n0_; have HB := n1_; clear n0_ n1_; (try clear hb); (try clear hb2); (try clear hk); (try clear hi); (try clear ho0)) | ((with_reducible refine gate_callee (f := 15) rfl ?_); refine goesL_ (some 68) rfl rfl Try.func15 (by kernel_rfl) rfl #[.slice A0 l0.length c0, .int .i64 a1] rfl (by (try simp only [List.map_toArray, List.map_cons, List.map_nil]); first | done | rfl | (simp only [List.length_drop, List.length_take]; rfl)) ?_; (with_reducible refine (split_Degrees.calls kj10 _ _ l0 a1 t663 t666 _ ?side1 ?side2 A30.out).mono ?_); (case side1 => repeat (first | exact (Kd.C_below HR0.out HB.out) | (with_reducible refine Kd.C_alloc ?_ _) | (with_reducible refine Kd.C_drewN ?_ _) | (with_reducible refine Kd.C_drew ?_))); (case side2 => exact HC0.out); rintro e w38 ⟨v664, rfl, ho0, hb⟩; refine ⟨_, rfl, ?_⟩; have n0_ := Aside0.mk (Kd.N_elder' (by (with_reducible repeat (first | apply Kd.N_alloc | apply Kd.N_drewN | apply Kd.N_drew)); exact HO661.out) (Kd.N_base ho0) hb); have n1_ := Aside0.mk (Kd.N_lower (Kd.N_mono (ok' := fun k_ => some k_ ≠ (v660 : Value).ownBlock) ho0 (fun k_ hk_ => (Kd.fresh' (Kd.N_lt (by (with_reducible repeat (first | apply Kd.N_alloc | apply Kd.N_drewN | apply Kd.N_drew)); exact HO661.out)) k_ hk_))) (below_size (by repeat (first | (with_reducible first | exact HB.out | apply below_alloc | apply pw_below_drewN | apply below_drew1) | exact HB.out)))); have n2_ := Aside0.mk (below_step (by repeat (first | (with_reducible first | exact HB.out | apply below_alloc | apply pw_below_drewN | apply below_drew1) | exact HB.out)) hb); clear HO661; clear HB; have HO661 := n0_; have HO665 := n1_; have HB := n2_; clear n0_ n1_ n2_; (try clear hb); (try clear hb2); (try clear hk); (try clear hi); (try clear ho0)))
                  go_ret
                  exact ⟨by first | rfl | (simp [errW_none, errW_some] <;> rfl) | (simp [*, errW_none, errW_some] <;> rfl), by repeat (first | (with_reducible first | exact HB.out | apply below_alloc | apply pw_below_drewN | apply below_drew1) | exact HB.out)⟩
              · rw [if_neg c31] at H
                have c31b0 : (t662 == 50) = false := beq_eq_false_iff_ne.mpr c31
                have c31b1 : (t662 != 50) = true := bne_iff_ne.mpr c31
                obtain rfl := Option.some.inj H
                go_wp2_with (first | ((with_reducible refine gate_callee (f := 14) rfl ?_); refine goesL_ (some 56) rfl rfl Try.func14 (by kernel_rfl) rfl #[.int .i64 a1] rfl (by (try simp only [List.map_toArray, List.map_cons, List.map_nil]); first | done | rfl | (simp only [List.length_drop, List.length_take]; rfl)) ?_; (with_reducible refine (primroseref05_Is.calls kj10 a1 false _ A27.out).mono ?_); rintro e w' ⟨rfl, ⟨nd, rfl⟩⟩; refine ⟨_, rfl, ?_⟩) | ((with_reducible refine gate_callee (f := 8) rfl ?_); refine goesL_ (some 62) rfl rfl Try.func8 (by kernel_rfl) rfl #[.slice A0 l0.length c0, .int .i64 a1, .slice A2 l2.length c2] rfl (by (try simp only [List.map_toArray, List.map_cons, List.map_nil]); first | done | rfl | (simp only [List.length_drop, List.length_take]; rfl)) ?_; (with_reducible refine (split_Factor.calls kj10 _ _ l0 a1 _ _ l2 t659 t662 _ ?side1 ?side2 ?side3 ?side4 A29.out).mono ?_); (case side1 => repeat (first | exact (Kd.C_below HR0.out (by repeat (first | (with_reducible first | exact HB.out | apply below_alloc | apply pw_below_drewN | apply below_drew1) | exact HB.out))) | (with_reducible refine Kd.C_alloc ?_ _) | (with_reducible refine Kd.C_drewN ?_ _) | (with_reducible refine Kd.C_drew ?_))); (case side2 => exact HC0.out); (case side3 => repeat (first | exact (Kd.C_below HR2.out (by repeat (first | (with_reducible first | exact HB.out | apply below_alloc | apply pw_below_drewN | apply below_drew1) | exact HB.out))) | (with_reducible refine Kd.C_alloc ?_ _) | (with_reducible refine Kd.C_drewN ?_ _) | (with_reducible refine Kd.C_drew ?_))); (case side4 => exact HC2.out); rintro e w39 ⟨v660, rfl, ho0, hb⟩; refine ⟨_, rfl, ?_⟩; have n0_ := Aside0.mk (Kd.N_lower (Kd.N_mono (ok' := fun k_ => True) ho0 (fun k_ hk_ => trivial)) (below_size (by repeat (first | (with_reducible first | exact HB.out | apply below_alloc | apply pw_below_drewN | apply below_drew1) | exact HB.out)))); have n1_ := Aside0.mk (below_step (by repeat (first | (with_reducible first | exact HB.out | apply below_alloc | apply pw_below_drewN | apply below_drew1) | exact HB.out)) hb); clear HB; have HO661 := n0_; have HB := n1_; clear n0_ n1_; (try clear hb); (try clear hb2); (try clear hk); (try clear hi); (try clear ho0)) | ((with_reducible refine gate_callee (f := 15) rfl ?_); refine goesL_ (some 68) rfl rfl Try.func15 (by kernel_rfl) rfl #[.slice A0 l0.length c0, .int .i64 a1] rfl (by (try simp only [List.map_toArray, List.map_cons, List.map_nil]); first | done | rfl | (simp only [List.length_drop, List.length_take]; rfl)) ?_; (with_reducible refine (split_Degrees.calls kj10 _ _ l0 a1 t663 t666 _ ?side1 ?side2 A30.out).mono ?_); (case side1 => repeat (first | exact (Kd.C_below HR0.out HB.out) | (with_reducible refine Kd.C_alloc ?_ _) | (with_reducible refine Kd.C_drewN ?_ _) | (with_reducible refine Kd.C_drew ?_))); (case side2 => exact HC0.out); rintro e w40 ⟨v664, rfl, ho0, hb⟩; refine ⟨_, rfl, ?_⟩; have n0_ := Aside0.mk (Kd.N_elder' (by (with_reducible repeat (first | apply Kd.N_alloc | apply Kd.N_drewN | apply Kd.N_drew)); exact HO661.out) (Kd.N_base ho0) hb); have n1_ := Aside0.mk (Kd.N_lower (Kd.N_mono (ok' := fun k_ => some k_ ≠ (v660 : Value).ownBlock) ho0 (fun k_ hk_ => (Kd.fresh' (Kd.N_lt (by (with_reducible repeat (first | apply Kd.N_alloc | apply Kd.N_drewN | apply Kd.N_drew)); exact HO661.out)) k_ hk_))) (below_size (by repeat (first | (with_reducible first | exact HB.out | apply below_alloc | apply pw_below_drewN | apply below_drew1) | exact HB.out)))); have n2_ := Aside0.mk (below_step (by repeat (first | (with_reducible first | exact HB.out | apply below_alloc | apply pw_below_drewN | apply below_drew1) | exact HB.out)) hb); clear HO661; clear HB; have HO661 := n0_; have HO665 := n1_; have HB := n2_; clear n0_ n1_ n2_; (try clear hb); (try clear hb2); (try clear hk); (try clear hi); (try clear ho0)))
                go_ret
                exact ⟨by first | rfl | (simp [errW_none, errW_some] <;> rfl) | (simp [*, errW_none, errW_some] <;> rfl), by repeat (first | (with_reducible first | exact HB.out | apply below_alloc | apply pw_below_drewN | apply below_drew1) | exact HB.out)⟩
  · replace c5 := Bool.eq_false_iff.mpr c5
    subst c5
    have H1 : (some false) = some r := by rw [if_neg (show ¬ (false = true) by decide)] at H; exact H
    clear H
    have H := H1
    clear H1
    obtain rfl := Option.some.inj H
    go_enter Try.func5, Try.ntmps5
    go_wp2_with (first | ((with_reducible refine gate_callee (f := 6) rfl ?_); refine goesL_ (some 13) rfl rfl Try.func6 (by kernel_rfl) rfl #[] rfl (by (try simp only [List.map_toArray, List.map_cons, List.map_nil]); first | done | rfl | (simp only [List.length_drop, List.length_take]; rfl)) ?_; (with_reducible refine (primroselaw11_awake.calls k  false _ A4.out).mono ?_); rintro e w41 ⟨rfl, hb⟩; refine ⟨_, rfl, ?_⟩; have n0_ := Aside0.mk (below_step (by repeat (first | (with_reducible first | exact HB.out | apply below_alloc | apply pw_below_drewN | apply below_drew1) | exact HB.out)) hb); clear HB; have HB := n0_; clear n0_; (try clear hb); (try clear hb2); (try clear hk); (try clear hi)))
    go_ret
    exact ⟨by first | rfl | (simp [errW_none, errW_some] <;> rfl) | (simp [*, errW_none, errW_some] <;> rfl), by repeat (first | (with_reducible first | exact HB.out | apply below_alloc | apply pw_below_drewN | apply below_drew1) | exact HB.out)⟩
def primroselaw11_SplitRefuses.Pure : Prop := ∀ (l0 : List Int) (a1 : Int) (l2 : List Int), l0.length ≤ maxLen → l0.length * 8 ≤ 140737488351232 → (∀ x ∈ l0, (Lit.int .i64 x).wf = true) → (Lit.int .i64 a1).wf = true → l2.length ≤ maxLen → l2.length * 8 ≤ 140737488351232 → (∀ x ∈ l2, (Lit.int .i64 x).wf = true) → ∃ k, primroselaw11_SplitRefuses.f k l0 a1 l2 = some true
theorem primroselaw11_SplitRefuses.walk (P : primroselaw11_SplitRefuses.Pure) (a0 : Option Addr) (len0 cap0 : Nat) (z0 : List Int) (a1 : Int) (a2 : Option Addr) (len2 cap2 : Nat) (z2 : List Int) (w : World) (w0 : (a0 = none ∧ len0 = 0 ∧ cap0 = 0 ∧ z0 = []) ∨ ∃ x, a0 = some x ∧ len0 ≤ cap0 ∧ cap0 ≤ maxLen ∧ z0.length = cap0 ∧ (∀ i, i < z0.length → w.cell? (x.add i) = some (.int .i64 (z0.getD i 0))) ∧ ∀ n ∈ z0, (Lit.int .i64 n).wf = true) (y0 : len0 * 8 ≤ 140737488351232) (w1 : (Lit.int .i64 a1).wf = true) (w2 : (a2 = none ∧ len2 = 0 ∧ cap2 = 0 ∧ z2 = []) ∨ ∃ x, a2 = some x ∧ len2 ≤ cap2 ∧ cap2 ≤ maxLen ∧ z2.length = cap2 ∧ (∀ i, i < z2.length → w.cell? (x.add i) = some (.int .i64 (z2.getD i 0))) ∧ ∀ n ∈ z2, (Lit.int .i64 n).wf = true) (y2 : len2 * 8 ≤ 140737488351232) :
    Calls Try.prog 5 #[.slice a0 len0 cap0, .int .i64 a1, .slice a2 len2 cap2] w fun e w' => e = .returned (.bool true) ∧ Below w.heap.size w w' := by
  obtain ⟨l0, rfl, hr0, hm0, hw0, hc0⟩ := ReadsInt.ofRowC w0
  obtain ⟨l2, rfl, hr2, hm2, hw2, hc2⟩ := ReadsInt.ofRowC w2
  obtain ⟨k, h⟩ := P l0 a1 l2 hm0 y0 hw0 w1 hm2 y2 hw2
  refine (primroselaw11_SplitRefuses.calls k _ _ l0 a1 _ _ l2 true w (Kd.C_of_reads (d := (0 : Int)) (h1 := fun _ => rfl) hr0) hc0 (Kd.C_of_reads (d := (0 : Int)) (h1 := fun _ => rfl) hr2) hc2 h).mono ?_
  rintro e w' ⟨rfl, hd⟩
  exact ⟨rfl, hd⟩
end Go.Proofs.Ytiflghgebeadiaa.M
end
