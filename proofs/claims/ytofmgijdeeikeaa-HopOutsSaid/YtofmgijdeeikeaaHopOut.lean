/- NewOut and NewIn: what the new ends' cells are. -/
import Derived.Test.YtofmgijdeeikeaaHopNewB
import Derived.Laws.Tables
set_option linter.unusedVariables false
set_option linter.unusedSimpArgs false
namespace Go.Proofs.Ytofmgijdeeikeaa.Hop
open Go.RowKit Go.Proofs.Ytofmgijdeeikeaa.Mem Go.Proofs.YtofmgijdeeikeaaW.PrintWords Go.Proofs.YtofmgijdeeikeaaW.PrintLast Go.Deep
theorem fold_lay (off : Nat) : ∀ (vs : List Value) (k : Nat) (cs : Array Value), (vs.zipIdx k).foldl (fun cs (c, j) => cs.setIfInBounds (off + j) c) cs = layL cs (off + k) vs
  | [], _, _ => rfl
  | v :: r, k, cs => by rw [List.zipIdx_cons, List.foldl_cons, fold_lay off r (k + 1)]; rfl
theorem fold_lay' (off : Nat) (vs : Array Value) (cs : Array Value) : vs.zipIdx.foldl (fun cs (c, j) => cs.setIfInBounds (off + j) c) cs = layL cs off vs.toList := by
  rw [← Array.foldl_toList, Array.toList_zipIdx, fold_lay off vs.toList 0 cs, Nat.add_zero]
theorem wpList_built {P : Program} {ops : Array Oper} {rest : List Oper} {o : Oper} {a : Act} {w : World} {Q : Exit → Act → World → Prop} (hgd : o.guard = none) (t : TypeId) (ps : List (Nat × Operand)) (ho : o.op = .build t ps.toArray) (cells : Array Value)
    (hb : P.built t (ps.map fun (i, x) => (i, a.eval x)) = some cells) (h : wpList P ops Q rest (a.put o.dst (.agg cells)) w) : wpList P ops Q (o :: rest) a w := by
  refine wpList_plain hgd fun K hK => ?_
  have hb' : P.built t (ps.toArray.map fun (i, x) => (i, a.eval x)).toList = some cells := by rw [List.map_toArray]; exact hb
  refine wp_build t ps.toArray ho (by rw [hb']; rfl) ?_
  rw [hb']
  exact hK _ _ h
def zoList : List Value := zlist ++ [.int .i64 0, .int .i64 0, .slice none 0 0, .int .i64 0, .int .i64 0]
def zoc : Array Value := zoList.toArray
theorem info_out : (Try.prog.info? 75).map (fun i => (i.zero, i.size)) = some (some (.agg zoc), 520) := by kernel_rfl
theorem zoc_size : zoc.size = 520 := by kernel_rfl
def ziList : List Value := zlist ++ [.int .i64 0]
def zic : Array Value := ziList.toArray
theorem info_in : (Try.prog.info? 77).map (fun i => (i.zero, i.size)) = some (some (.agg zic), 516) := by kernel_rfl
theorem zic_size : zic.size = 516 := by kernel_rfl
/-- A new nearer end's cells. -/
def ocs (ln : Array Value) (n p : Int) : Array Value := (((layL zoc 0 ln.toList).setIfInBounds 515 (.int .i64 n)).setIfInBounds 516 (.int .i64 n)).setIfInBounds 519 (.int .i64 p)
def ics (ln : Array Value) : Array Value := layL zic 0 ln.toList
set_option maxRecDepth 100000 in
theorem built_out (ln : Array Value) (hs : ln.size = 515) (n p : Int) : Try.prog.built 75 [(0, .agg ln), (1, .int .i64 n), (2, .int .i64 n), (5, .int .i64 p)] = some (ocs ln n p) := by
  obtain ⟨i, hi, hz⟩ := Option.map_eq_some_iff.1 info_out
  simp only [Prod.mk.injEq] at hz
  unfold Program.built
  have hp : (Try.prog.underlying 75).bind (fun d => match d with | .struct fields => fields.toList.mapM (fun f => (Try.prog.info? f.type).map fun i => (f.offset, i.size)) | _ => none) = some [(0, 515), (515, 1), (516, 1), (517, 1), (518, 1), (519, 1)] := by kernel_rfl
  rw [Try.underlying75] at hp ⊢
  simp only [Option.bind_some] at hp
  simp only [hi, hz.1, hp]
  have h1 : (Value.agg ln).cells = ln := rfl
  have h2 : (Value.agg zoc).cells = zoc := rfl
  have h3 : ∀ x : Int, (Value.int .i64 x).cells = #[Value.int .i64 x] := fun _ => rfl
  have hl : (layL zoc 0 ln.toList).size = 520 := by rw [layL_size, zoc_size]
  simp only [Instr.fill, h1, h2, h3, List.getElem?_toArray, List.getElem?_cons_zero, List.getElem?_cons_succ, fold_lay', hs, zoc_size]
  simp [hl, layL, ocs]
set_option maxRecDepth 100000 in
theorem built_in (ln : Array Value) (hs : ln.size = 515) : Try.prog.built 77 [(0, .agg ln)] = some (ics ln) := by
  obtain ⟨i, hi, hz⟩ := Option.map_eq_some_iff.1 info_in
  simp only [Prod.mk.injEq] at hz
  unfold Program.built
  have hp : (Try.prog.underlying 77).bind (fun d => match d with | .struct fields => fields.toList.mapM (fun f => (Try.prog.info? f.type).map fun i => (f.offset, i.size)) | _ => none) = some [(0, 515), (515, 1)] := by kernel_rfl
  rw [Try.underlying77] at hp ⊢
  simp only [Option.bind_some] at hp
  simp only [hi, hz.1, hp]
  have h1 : (Value.agg ln).cells = ln := rfl
  have h2 : (Value.agg zic).cells = zic := rfl
  simp only [Instr.fill, h1, h2, List.getElem?_toArray, List.getElem?_cons_zero, List.getElem?_cons_succ, fold_lay', hs, zic_size]
  simp [ics]
theorem LineR.congr {cs cs' : Array Value} {l : L} (h : LineR cs l) (he : ∀ j, j < 515 → cs'[j]? = cs[j]?) : LineR cs' l where
  from_ := by rw [he 0 (by omega)]; exact h.from_
  window := by rw [he 1 (by omega)]; exact h.window
  made := by rw [he 514 (by omega)]; exact h.made
  held := fun k hk => by
    obtain ⟨h0, h1, h2, h3, h4, h5, h6⟩ := h.held k hk
    refine ⟨?_, ?_, ?_, ?_, ?_, ?_, ?_⟩ <;> (rw [he _ (by omega)]; assumption)
  there := fun k hk => by rw [he _ (by omega)]; exact h.there k hk
theorem lay_ln {zc ln : Array Value} (hs : ln.size = 515) (hz : 515 ≤ zc.size) (j : Nat) (hj : j < 515) : (layL zc 0 ln.toList)[j]? = ln[j]? := by
  rw [layL_get _ _ _ _ (by simp; omega), if_pos (by simp; omega)]
  simp
theorem lay_ln_far {zc ln : Array Value} (hs : ln.size = 515) (hz : 515 ≤ zc.size) (j : Nat) (hj : 515 ≤ j) : (layL zc 0 ln.toList)[j]? = zc[j]? := by
  rw [layL_get _ _ _ _ (by simp; omega), if_neg (by simp; omega)]
theorem ocs_size (ln : Array Value) (n p : Int) : (ocs ln n p).size = 520 := by simp [ocs, layL_size, zoc_size]
theorem ics_size (ln : Array Value) : (ics ln).size = 516 := by simp [ics, layL_size, zic_size]
theorem ocs_R {ln : Array Value} {l : L} (hs : ln.size = 515) (h : LineR ln l) (n p : Int) : LineR (ocs ln n p) l := by
  have h1 : LineR (layL zoc 0 ln.toList) l := h.congr (fun j hj => lay_ln hs (by rw [zoc_size]; omega) j hj)
  exact ((h1.far (by omega) _).far (by omega) _).far (by omega) _
theorem ics_R {ln : Array Value} {l : L} (hs : ln.size = 515) (h : LineR ln l) : LineR (ics ln) l := h.congr (fun j hj => lay_ln hs (by rw [zic_size]; omega) j hj)
theorem ocs_get {ln : Array Value} (hs : ln.size = 515) (n p : Int) : (ocs ln n p)[515]? = some (.int .i64 n) ∧ (ocs ln n p)[516]? = some (.int .i64 n) ∧ (ocs ln n p)[517]? = some (.slice none 0 0) ∧ (ocs ln n p)[518]? = some (.int .i64 0) ∧ (ocs ln n p)[519]? = some (.int .i64 p) := by
  have hl : (layL zoc 0 ln.toList).size = 520 := by rw [layL_size, zoc_size]
  refine ⟨?_, ?_, ?_, ?_, ?_⟩
  · rw [ocs, Array.getElem?_setIfInBounds_ne (by omega), Array.getElem?_setIfInBounds_ne (by omega), Array.getElem?_setIfInBounds_self_of_lt (by omega)]
  · rw [ocs, Array.getElem?_setIfInBounds_ne (by omega), Array.getElem?_setIfInBounds_self_of_lt (by simp; omega)]
  · rw [ocs, Array.getElem?_setIfInBounds_ne (by omega), Array.getElem?_setIfInBounds_ne (by omega), Array.getElem?_setIfInBounds_ne (by omega), lay_ln_far hs (by rw [zoc_size]; omega) _ (by omega)]
    kernel_rfl
  · rw [ocs, Array.getElem?_setIfInBounds_ne (by omega), Array.getElem?_setIfInBounds_ne (by omega), Array.getElem?_setIfInBounds_ne (by omega), lay_ln_far hs (by rw [zoc_size]; omega) _ (by omega)]
    kernel_rfl
  · rw [ocs, Array.getElem?_setIfInBounds_self_of_lt (by simp; omega)]
theorem ics_get {ln : Array Value} (hs : ln.size = 515) : (ics ln)[515]? = some (.int .i64 0) := by
  rw [ics, lay_ln_far hs (by rw [zic_size]; omega) _ (by omega)]
  kernel_rfl
end Go.Proofs.Ytofmgijdeeikeaa.Hop
