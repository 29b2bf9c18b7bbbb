/- '==' of rows; what differs in two lists of rows. -/
import Derived.Test.YtjpalkggmefpfaaTab
import Derived.Test.YtjpalkggmefpfaaWEqStruct
import Derived.Laws.StructEq
import Derived.Laws.Closers25b
set_option linter.unusedVariables false
set_option linter.unusedSimpArgs false
namespace Go.Proofs.Ytjpalkggmefpfaa.Tab
open Go.RowKit Go.Proofs.Ytjpalkggmefpfaa.Mem Go.Proofs.YtjpalkggmefpfaaW.PrintWords Go.Proofs.YtjpalkggmefpfaaW.PrintLast Go.Deep
theorem eqRow (d : Nat) (w : World) (x0 y0 x1 y1 : ByteArray) (x2 y2 : Int) :
    (Op.equalIn (d + 2) 25 (.agg #[.string x0, .string x1, .int .i64 x2]) (.agg #[.string y0, .string y1, .int .i64 y2])).run Try.prog w = .ok (x0.toList == y0.toList && (x1.toList == y1.toList && (x2 == y2))) w := by
  refine eqA_of Try.underlying25 (by kernel_rfl) ?_
  refine eqf_cons (by rfl) (by go_simp; rfl) (by go_simp; rfl) (by go_simp) ?_
  refine eqf_cons (by rfl) (by go_simp; rfl) (by go_simp; rfl) (by go_simp) ?_
  exact eqf_last (by rfl) (by go_simp; rfl) (by go_simp; rfl) (by go_simp)
def Row.eqb (a b : Row) : Bool := a.key.toList == b.key.toList && (a.value.toList == b.value.toList && a.version == b.version)
theorem toList_inj {a b : ByteArray} (h : a.toList = b.toList) : a = b := by
  rw [ByteArray.toList_eq, ByteArray.toList_eq] at h
  exact Go.WideShapes.bytes_inj h
theorem Row.eqb_iff (a b : Row) : a.eqb b = true ↔ a = b := by
  constructor
  · intro h
    simp only [Row.eqb, Bool.and_eq_true, beq_iff_eq] at h
    obtain ⟨h1, h2, h3⟩ := h
    obtain ⟨a1, a2, a3⟩ := a
    obtain ⟨b1, b2, b3⟩ := b
    simp only at h1 h2 h3
    rw [toList_inj h1, toList_inj h2, h3]
  · rintro rfl
    simp [Row.eqb]
theorem run_eqR (a b : Row) (w : World) : (binOp .eql 25 (.agg #[.string a.key, .string a.value, .int .i64 a.version]) (.agg #[.string b.key, .string b.value, .int .i64 b.version])).run Try.prog w = .ok (.bool (a.eqb b)) w := by
  rw [run_eql_struct, eqRow 9998 w]
  rfl
theorem run_neR (a b : Row) (w : World) : (binOp .neq 25 (.agg #[.string a.key, .string a.value, .int .i64 a.version]) (.agg #[.string b.key, .string b.value, .int .i64 b.version])).run Try.prog w = .ok (.bool (!a.eqb b)) w := by
  rw [run_neq_struct, eqRow 9998 w]
  rfl
/-- The keys whose rows are unlike. -/
def diffs : List Row → List Row → List ByteArray
  | [], [] => []
  | [], y :: b => y.key :: diffs [] b
  | x :: a, [] => x.key :: diffs a []
  | x :: a, y :: b => if lt x.key y.key = true then x.key :: diffs a (y :: b) else if lt y.key x.key = true then y.key :: diffs (x :: a) b else if x.eqb y = true then diffs a b else x.key :: diffs a b
termination_by a b => a.length + b.length
theorem diffs_same : ∀ a : List Row, diffs a a = []
  | [] => by unfold diffs; rfl
  | x :: a => by
    unfold diffs
    rw [lt_irrefl, if_neg (by decide), if_neg (by decide), if_pos ((Row.eqb_iff x x).2 rfl), diffs_same a]
theorem diffs_nil : ∀ {a b : List Row}, diffs a b = [] → a = b
  | [], [], _ => rfl
  | [], y :: b, h => by unfold diffs at h; cases h
  | x :: a, [], h => by unfold diffs at h; cases h
  | x :: a, y :: b, h => by
    unfold diffs at h
    split at h
    · cases h
    · split at h
      · cases h
      · split at h
        · rename_i h3
          rw [(Row.eqb_iff x y).1 h3, diffs_nil h]
        · cases h
termination_by a b => a.length + b.length
theorem diffs_nil_l (y : Row) (b : List Row) : diffs [] (y :: b) = y.key :: diffs [] b := by rw [diffs]
theorem diffs_nil_r (x : Row) (a : List Row) : diffs (x :: a) [] = x.key :: diffs a [] := by rw [diffs]
theorem diffs_lt {x y : Row} {a b : List Row} (h : lt x.key y.key = true) : diffs (x :: a) (y :: b) = x.key :: diffs a (y :: b) := by rw [diffs, if_pos h]
theorem diffs_gt {x y : Row} {a b : List Row} (h : lt x.key y.key = false) (h2 : lt y.key x.key = true) : diffs (x :: a) (y :: b) = y.key :: diffs (x :: a) b := by rw [diffs, if_neg (by rw [h]; decide), if_pos h2]
theorem diffs_eq {x y : Row} {a b : List Row} (h : lt x.key y.key = false) (h2 : lt y.key x.key = false) (h3 : x.eqb y = true) : diffs (x :: a) (y :: b) = diffs a b := by rw [diffs, if_neg (by rw [h]; decide), if_neg (by rw [h2]; decide), if_pos h3]
theorem diffs_ne {x y : Row} {a b : List Row} (h : lt x.key y.key = false) (h2 : lt y.key x.key = false) (h3 : x.eqb y = false) : diffs (x :: a) (y :: b) = x.key :: diffs a b := by rw [diffs, if_neg (by rw [h]; decide), if_neg (by rw [h2]; decide), if_neg (by rw [h3]; decide)]
theorem diffs_len : ∀ (a b : List Row), (diffs a b).length ≤ a.length + b.length
  | [], [] => by simp [diffs]
  | [], y :: b => by rw [diffs_nil_l]; have := diffs_len [] b; simp at this ⊢; omega
  | x :: a, [] => by rw [diffs_nil_r]; have := diffs_len a []; simp at this ⊢; omega
  | x :: a, y :: b => by
    rw [diffs]
    split
    · have := diffs_len a (y :: b); simp at this ⊢; omega
    · split
      · have := diffs_len (x :: a) b; simp at this ⊢; omega
      · split
        · have := diffs_len a b; simp; omega
        · have := diffs_len a b; simp at this ⊢; omega
termination_by a b => a.length + b.length
/-- One tree lies at one place. -/
theorem TR.inj : ∀ {w : World} {t t' : T} {p : Option Addr}, TR w t p → TR w t' p → t = t'
  | _, .nil, .nil, _, _, _ => rfl
  | _, .nil, .node .., _, h, h' => by
    obtain ⟨_, _, _, e, _⟩ := h'
    rw [show _ = none from h] at e
    cases e
  | _, .node .., .nil, _, h, h' => by
    obtain ⟨_, _, _, e, _⟩ := h
    rw [show _ = none from h'] at e
    cases e
  | _, .node k v l r hh c, .node k' v' l' r' hh' c', _, h, h' => by
    obtain ⟨g, pl, pr, e, hg, hl, hr⟩ := h
    obtain ⟨g', pl', pr', e', hg', hl', hr'⟩ := h'
    rw [e] at e'
    cases e'
    rw [hg] at hg'
    simp only [nodeC, T.key, T.row, T.high, T.count, Option.some.injEq, Obj.cells.injEq, Array.mk.injEq, List.cons.injEq, Value.string.injEq, Value.pointer.injEq, Value.int.injEq, true_and, and_true] at hg'
    obtain ⟨h0, h1, h2, h3, h4, h5, h6, h7⟩ := hg'
    subst h4 h5
    obtain rfl := TR.inj hl hl'
    obtain rfl := TR.inj hr hr'
    obtain ⟨v0, v1, v2⟩ := v
    obtain ⟨u0, u1, u2⟩ := v'
    simp only at h1 h2 h3
    subst h0 h1 h2 h3 h6 h7
    rfl
end Go.Proofs.Ytjpalkggmefpfaa.Tab
