/- Do rows lie in a range; what Replace makes of a table. -/
import Derived.Test.YtjpalkggmefpfaaTabLend
set_option linter.unusedVariables false
set_option linter.unusedSimpArgs false
namespace Go.Proofs.Ytjpalkggmefpfaa.Tab
open Go.RowKit Go.Proofs.Ytjpalkggmefpfaa.Mem Go.Proofs.YtjpalkggmefpfaaW.PrintWords Go.Proofs.YtjpalkggmefpfaaW.PrintLast Go.Deep Go.Proofs.Ytjpalkggmefpfaa.Opn
attribute [local go_sem ↓] execOp_call_tmp
attribute [local go_sem] callVal_func
def lies (f u k : ByteArray) : Bool := !Op.bytesLess k.toList f.toList && (u.toList.isEmpty || Op.bytesLess k.toList u.toList)
theorem lies_any (f u k : ByteArray) (w : World) : Calls Try.prog 70 #[.agg #[.string f, .string u], .string k] w fun e w' => e = .returned (.bool (lies f u k)) ∧ Below w.heap.size w w' := by
  have P := Lib.hid (blk_new w (.cells #[.string f, .string u] 39))
  have B := Lib.hid (below_alloc (Below.refl w.heap.size w) (.cells #[.string f, .string u] 39))
  have cp := blkc P.out
  unfold lies
  go_enter Try.func70, Try.ntmps70
  go_wp2_with fail
  all_goals (go_ret; refine ⟨?_, B.out⟩; simp_all)
def repScan (f u : ByteArray) : Option Row → List Row → Int
  | _, [] => 0
  | q, r :: l => if r.check = 0 then (if lies f u r.key = true then (match q with
    | none => repScan f u (some r) l
    | some q => if lt q.key r.key then repScan f u (some r) l else 73) else 75) else r.check
def repAt (f u : ByteArray) (l : List Row) (k : Nat) : Int := repScan f u (if k = 0 then none else l[k - 1]?) (l.drop k)
theorem rep_end {f u : ByteArray} {l : List Row} {k : Nat} (h : l.length ≤ k) : repAt f u l k = 0 := by
  unfold repAt
  rw [List.drop_of_length_le h]
  cases (if k = 0 then none else l[k - 1]?) <;> rfl
theorem rep_bad {f u : ByteArray} {l : List Row} {k : Nat} {r : Row} (h : l[k]? = some r) (hc : r.check ≠ 0) : repAt f u l k = r.check := by
  have hl := (List.getElem?_eq_some_iff.1 h).1
  unfold repAt
  rw [List.drop_eq_getElem_cons hl, (List.getElem?_eq_some_iff.1 h).2]
  cases (if k = 0 then none else l[k - 1]?) <;> simp [repScan, hc]
theorem rep_out {f u : ByteArray} {l : List Row} {k : Nat} {r : Row} (h : l[k]? = some r) (hc : r.check = 0) (ho : lies f u r.key = false) : repAt f u l k = 75 := by
  have hl := (List.getElem?_eq_some_iff.1 h).1
  unfold repAt
  rw [List.drop_eq_getElem_cons hl, (List.getElem?_eq_some_iff.1 h).2]
  cases (if k = 0 then none else l[k - 1]?) <;> simp [repScan, hc, ho]
theorem rep_first {f u : ByteArray} {l : List Row} {r : Row} (h : l[0]? = some r) (hc : r.check = 0) (ho : lies f u r.key = true) : repAt f u l 0 = repAt f u l 1 := by
  have hl := (List.getElem?_eq_some_iff.1 h).1
  unfold repAt
  rw [scan_next h, List.drop_eq_getElem_cons hl, (List.getElem?_eq_some_iff.1 h).2]
  simp [repScan, hc, ho]
theorem rep_up {f u : ByteArray} {l : List Row} {k : Nat} {q r : Row} (hq : l[k]? = some q) (h : l[k + 1]? = some r) (hc : r.check = 0) (ho : lies f u r.key = true) (hl2 : lt q.key r.key = true) : repAt f u l (k + 1) = repAt f u l (k + 2) := by
  have hl := (List.getElem?_eq_some_iff.1 h).1
  unfold repAt
  rw [scan_next h, scan_next hq, List.drop_eq_getElem_cons hl, (List.getElem?_eq_some_iff.1 h).2]
  simp [repScan, hc, ho, hl2]
theorem rep_down {f u : ByteArray} {l : List Row} {k : Nat} {q r : Row} (hq : l[k]? = some q) (h : l[k + 1]? = some r) (hc : r.check = 0) (ho : lies f u r.key = true) (hl2 : lt q.key r.key = false) : repAt f u l (k + 1) = 73 := by
  have hl := (List.getElem?_eq_some_iff.1 h).1
  unfold repAt
  rw [scan_next hq, List.drop_eq_getElem_cons hl, (List.getElem?_eq_some_iff.1 h).2]
  simp [repScan, hc, ho, hl2]
/-- How many rows lie in the range. -/
def cutN (l : List Row) (f u : ByteArray) : Int := max (upTo l u) (below f l).length - (below f l).length
def replL (l : List Row) (f u : ByteArray) (rows : List Row) : Int × List Row :=
  if repScan f u none rows ≠ 0 then (repScan f u none rows, l)
  else if (l.length : Int) - cutN l f u + rows.length > 1048576 then (3, l)
  else (0, rows.foldl (fun l r => (putL l r).2) ((segD false l (below f l).length (upTo l u)).foldl (fun l r => without r.key l) l))
theorem LOk.foldDel {l : List Row} (h : LOk l) : ∀ s : List Row, LOk (s.foldl (fun l r => Tab.without r.key l) l)
  | [] => h
  | x :: s => LOk.foldDel (h.without x.key) s
theorem LOk.foldPut {l : List Row} (h : LOk l) : ∀ s : List Row, LOk (s.foldl (fun l r => (Tab.putL l r).2) l)
  | [] => h
  | x :: s => LOk.foldPut (h.putL x) s
theorem LOk.replL {l : List Row} (h : LOk l) (f u : ByteArray) (rows : List Row) : LOk (Tab.replL l f u rows).2 := by
  unfold Tab.replL
  split
  · exact h
  · split
    · exact h
    · exact LOk.foldPut (LOk.foldDel h _) rows
end Go.Proofs.Ytjpalkggmefpfaa.Tab
