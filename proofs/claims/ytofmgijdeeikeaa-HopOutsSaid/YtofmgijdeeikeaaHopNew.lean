/- newLine, NewOut, NewIn. -/
import Derived.Test.YtofmgijdeeikeaaHopZero
set_option linter.unusedVariables false
set_option linter.unusedSimpArgs false
namespace Go.Proofs.Ytofmgijdeeikeaa.Hop
open Go.RowKit Go.Proofs.Ytofmgijdeeikeaa.Mem Go.Proofs.YtofmgijdeeikeaaW.PrintWords Go.Proofs.YtofmgijdeeikeaaW.PrintLast Go.Deep
theorem layL_size : ∀ (vs : List Value) (o : Nat) (cs : Array Value), (layL cs o vs).size = cs.size
  | [], _, _ => rfl
  | v :: r, o, cs => by rw [layL, layL_size r]; simp
theorem layL_get : ∀ (vs : List Value) (o : Nat) (cs : Array Value) (j : Nat), o + vs.length ≤ cs.size → (layL cs o vs)[j]? = if o ≤ j ∧ j < o + vs.length then vs[j - o]? else cs[j]?
  | [], o, cs, j, _ => by rw [layL, if_neg (by simp)]
  | v :: r, o, cs, j, h => by
    simp only [List.length_cons] at h
    rw [layL, layL_get r (o + 1) _ j (by simp; omega)]
    by_cases h1 : o + 1 ≤ j ∧ j < o + 1 + r.length
    · rw [if_pos h1, if_pos (by simp only [List.length_cons]; omega), show j - o = (j - (o + 1)) + 1 by omega, List.getElem?_cons_succ]
    · rw [if_neg h1]
      by_cases h2 : j = o
      · subst h2
        rw [if_pos (by simp only [List.length_cons]; omega), Array.getElem?_setIfInBounds_self_of_lt (by omega), Nat.sub_self]
        rfl
      · rw [Array.getElem?_setIfInBounds_ne (by omega), if_neg (by simp only [List.length_cons]; omega)]
theorem layL_full (vs : Array Value) (cs : Array Value) (h : vs.size = cs.size) : layL cs 0 vs.toList = vs := by
  apply Array.ext_getElem?
  intro j
  rw [layL_get vs.toList 0 cs j (by simp; omega)]
  split
  · simp
  · rw [Array.getElem?_eq_none (by simp at *; omega), Array.getElem?_eq_none (by simp at *; omega)]
theorem store_whole {P : Program} {w : World} {g : Nat} {t : TypeId} {cs : Array Value} (vs : Array Value) (h : w.heap[g]? = some (.cells cs t (0, 0))) (hs : vs.size = cs.size) (h1 : ∀ v ∈ vs.toList, v.oneCell' = true) :
    (storeCells ⟨g, 0, none⟩ vs.toList).run P w = .ok () (w.setCells g 0 vs.toList) ∧ (w.setCells g 0 vs.toList).heap[g]? = some (.cells vs t (0, 0)) := by
  refine ⟨?_, ?_⟩
  · have := run_storeCells_cells (P := P) g 0 vs.toList 0 w (fun j hj => by rw [blkc h, Array.getElem?_eq_getElem (by simp at hj; omega)]; rfl) (fun j hj => blkz h _) h1
    simpa using this
  · have := blk_setCells vs.toList 0 h
    rwa [layL_full vs cs hs] at this
theorem zcs_one : ∀ v ∈ zcs.toList, v.oneCell' = true := by
  have : zcs.toList.all (·.oneCell') = true := by kernel_rfl
  exact fun v hv => List.all_eq_true.1 this v hv
theorem store_line {w w0 : World} {g : Nat} {cs : Array Value} (vs : Array Value) (h : w.heap[g]? = some (.cells cs 73 (0, 0))) (hs : vs.size = cs.size) (h1 : ∀ v ∈ vs.toList, v.oneCell' = true) (hb : Below w0.heap.size w0 w) (hg : w0.heap.size ≤ g) :
    ∃ W, (storeCells ⟨g, 0, none⟩ vs.toList).run Try.prog w = .ok () W ∧ W.heap[g]? = some (.cells vs 73 (0, 0)) ∧ Below w0.heap.size w0 W :=
  ⟨_, (store_whole vs h hs h1).1, (store_whole (P := Try.prog) vs h hs h1).2, below_setCells hg vs.toList 0 hb⟩
theorem load_line {w : World} {g : Nat} {vs : Array Value} {t : TypeId} (h : w.heap[g]? = some (.cells vs t (0, 0))) (hs : vs.size = 515) : (loadVar 73 ⟨g, 0, none⟩).run Try.prog w = .ok (.agg vs) w := by
  have := run_loadVar_mid (P := Try.prog) w g 0 73 vs.toList _ (fun j v hj => by rw [blkc h, Nat.zero_add]; simpa using hj) Try.underlying73 (by kernel_rfl) (by
    have e := info_line
    cases hq : Try.prog.info? 73 with
    | none => rw [hq] at e; cases e
    | some i =>
      rw [hq] at e
      simp only [Option.map_some, Option.some.injEq, Prod.mk.injEq] at e
      simp [e.2, hs])
  simpa using this
theorem info_line_size {vs : Array Value} (hs : vs.size = 515) : (Try.prog.info? 73).map (·.size) = some vs.size := by
  have e := info_line
  cases hq : Try.prog.info? 73 with
  | none => rw [hq] at e; cases e
  | some i =>
    rw [hq] at e
    simp only [Option.map_some, Option.some.injEq, Prod.mk.injEq] at e
    simp [e.2, hs]
set_option maxHeartbeats 400000 in
set_option maxRecDepth 100000 in
theorem newLine_no (n d wi p c l : Int) (w : World) (h : n < 0 ∨ 1152921504606846976 < n) :
    Calls Try.prog 36 #[.int .i64 n, .agg #[.int .i64 d, .int .i64 wi, .int .i64 p, .int .i64 c, .int .i64 l]] w fun e w' => (∃ cs, e = .returned (.tuple #[.agg cs, .int .i64 1]) ∧ cs.size = 515 ∧ ∀ v ∈ cs.toList, v.oneCell' = true) ∧ Below w.heap.size w w' := by
  have hz := zero_line
  obtain ⟨W2, hs1, hs2, hb2⟩ := store_line (w0 := w) zcs (heap_alloc2_new w (.cells #[.int .i64 d, .int .i64 wi, .int .i64 p, .int .i64 c, .int .i64 l] 26) (.cells zcs 73)) (Eq.refl _) zcs_one (below_alloc (below_alloc (Below.refl _ _) _) _) (by omega)
  have HB := Lib.hid hb2
  have hl := load_line hs2 zcs_size
  have hzs := zcs_size
  have hone := Lib.hid zcs_one
  clear hb2
  generalize zcs = zc at *
  go_enter Try.func36, Try.ntmps36
  go_wp2_with fail
  all_goals exact bodyPost_ret (v := .tuple #[.agg zc, .int .i64 1]) (results_ct Try.results36 _ _ (w.heap.size + 1) _ zc _ _ rfl hs2 Try.underlying73 rfl (info_line_size hzs)) rfl ⟨⟨zc, rfl, hzs, fun v hv => hone.out v (by simpa using hv)⟩, HB.out⟩
/-- A new line's cells. -/
def lcs (n wi : Int) : Array Value := ((zcs.setIfInBounds 0 (.int .i64 n)).setIfInBounds 1 (.int .i64 wi)).setIfInBounds 514 (.bool true)
def lineNew (n wi : Int) : L := ⟨n, wi, fun _ => U.zero, fun _ => false, true⟩
theorem lcs_size (n wi : Int) : (lcs n wi).size = 515 := by simp [lcs, zcs_size]
theorem lcs_R (n wi : Int) : LineR (lcs n wi) (lineNew n wi) where
  from_ := by
    rw [lcs, Array.getElem?_setIfInBounds_ne (by omega), Array.getElem?_setIfInBounds_ne (by omega), Array.getElem?_setIfInBounds_self_of_lt (by rw [zcs_size]; omega)]
    rfl
  window := by
    rw [lcs, Array.getElem?_setIfInBounds_ne (by omega), Array.getElem?_setIfInBounds_self_of_lt (by rw [Array.size_setIfInBounds, zcs_size]; omega)]
    rfl
  made := by
    rw [lcs, Array.getElem?_setIfInBounds_self_of_lt (by rw [Array.size_setIfInBounds, Array.size_setIfInBounds, zcs_size]; omega)]
    rfl
  held := fun k hk => held_set (held_set (held_set (zero_R.held k hk) (by omega)) (by omega)) (by omega)
  there := fun k hk => by
    rw [lcs, Array.getElem?_setIfInBounds_ne (by omega), Array.getElem?_setIfInBounds_ne (by omega), Array.getElem?_setIfInBounds_ne (by omega)]
    exact zero_R.there k hk
end Go.Proofs.Ytofmgijdeeikeaa.Hop
