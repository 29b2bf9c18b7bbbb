/- Lists of rows in their order: sizes, what a put and a delete come to. -/
import Derived.Test.YtjpalkggmefpfaaTabPut
import Derived.Test.YtjpalkggmefpfaaRowCheck
import Derived.Test.YtjpalkggmefpfaaWKept
set_option linter.unusedVariables false
set_option linter.unusedSimpArgs false
namespace Go.Proofs.Ytjpalkggmefpfaa.Tab
open Go.RowKit Go.Proofs.Ytjpalkggmefpfaa.Mem Go.Proofs.YtjpalkggmefpfaaW.PrintWords
def Row.bytes (r : Row) : Int := (r.key.size : Int) + (r.value.size : Int)
def size : List Row → Int
  | [] => 0
  | r :: l => r.bytes + size l
theorem size_append : ∀ a b : List Row, size (a ++ b) = size a + size b
  | [], b => by simp [size]
  | r :: a, b => by simp only [List.cons_append, size, size_append a b]; omega
def Row.check (r : Row) : Int := checkRow (r.key, r.value, r.version)
def RowOk (r : Row) : Prop := r.check = 0
theorem RowOk.facts {r : Row} (h : RowOk r) : 1 ≤ (r.key.size : Int) ∧ (r.key.size : Int) ≤ 1024 ∧ (r.value.size : Int) ≤ 65536 ∧ 1 ≤ r.version ∧ r.version ≤ 1152921504606846976 := by
  unfold RowOk Row.check checkRow at h
  simp only at h
  split at h
  · omega
  · split at h
    · omega
    · split at h
      · omega
      · omega
theorem RowOk.bytes {r : Row} (h : RowOk r) : 1 ≤ r.bytes ∧ r.bytes ≤ 66560 := by
  have := h.facts
  unfold Row.bytes
  omega
structure LOk (l : List Row) : Prop where
  up : Up l
  len : l.length ≤ 1048576
  rows : ∀ r, r ∈ l → RowOk r
theorem size_bound : ∀ {l : List Row}, (∀ r, r ∈ l → RowOk r) → 0 ≤ size l ∧ size l ≤ 66560 * (l.length : Int)
  | [], _ => ⟨Int.le_refl _, by simp [size]⟩
  | r :: l, h => by
    have h1 := (h r (List.mem_cons_self ..)).bytes
    have h2 := size_bound (l := l) (fun x hx => h x (List.mem_cons_of_mem _ hx))
    simp only [size, List.length_cons]
    omega
theorem LOk.size {l : List Row} (h : LOk l) : 0 ≤ size l ∧ size l ≤ 69793218560 := by
  have := size_bound h.rows
  have := h.len
  omega
theorem split_list {l : List Row} (h : Up l) (k : ByteArray) : l = below k l ++ ((find l k).toList ++ above k l) := by
  induction l with
  | nil => rfl
  | cons y l ih =>
    have hu : Up l ∧ ∀ x, x ∈ l → lt y.key x.key = true := by
      unfold Up at h; rw [List.pairwise_cons] at h; exact ⟨h.2, h.1⟩
    have ih := ih hu.1
    have hf : find (y :: l) k = if eq y.key k then some y else find l k := by
      simp only [find, List.find?_cons]
      cases eq y.key k <;> rfl
    have hb : below k (y :: l) = if lt y.key k then y :: below k l else below k l := by simp only [below, List.filter_cons]
    have ha : above k (y :: l) = if lt k y.key then y :: above k l else above k l := by simp only [above, List.filter_cons]
    rw [hf, hb, ha]
    cases hy : eq y.key k with
    | true =>
      have hy2 := eq_iff.1 hy
      subst hy2
      rw [lt_irrefl]
      have n1 : below y.key l = [] := below_none (fun x hx => lt_asymm (hu.2 x hx))
      have n2 : above y.key l = l := above_all (fun x hx => hu.2 x hx)
      rw [n1, n2]
      simp
    | false =>
      have hne := eq_false.1 hy
      simp only [Bool.false_eq_true, if_false]
      cases h1 : lt y.key k with
      | true =>
        simp only [lt_asymm h1, if_true, Bool.false_eq_true, if_false, List.cons_append]
        rw [← ih]
      | false =>
        have h2 : lt k y.key = true := by
          cases h4 : lt k y.key with
          | true => rfl
          | false => exact absurd (lt_tri h1 h4) hne
        simp only [h2, if_true, Bool.false_eq_true, if_false]
        have n1 : below k l = [] := below_none (fun x hx => lt_asymm (lt_trans h2 (hu.2 x hx)))
        have n2 : find l k = none := find_none (fun x hx e => by have := lt_trans h2 (hu.2 x hx); rw [e, lt_irrefl] at this; cases this)
        have n3 : above k l = l := above_all (fun x hx => lt_trans h2 (hu.2 x hx))
        rw [n1, n2, n3]
        rfl
theorem find_key {l : List Row} {k : ByteArray} {r : Row} (h : find l k = some r) : r.key = k ∧ r ∈ l := by
  have h1 := List.find?_some h
  exact ⟨eq_iff.1 (by simpa using h1), List.mem_of_find?_eq_some h⟩
theorem without_split {l : List Row} (h : Up l) (k : ByteArray) : without k l = below k l ++ above k l := by
  conv => lhs; rw [split_list h k]
  have e : without k (below k l ++ ((find l k).toList ++ above k l)) = without k (below k l) ++ (without k (find l k).toList ++ without k (above k l)) := by simp [without]
  rw [e, without_all (l := below k l) (fun x hx => lt_ne (by simpa using (List.mem_filter.1 hx).2)), without_all (l := above k l) (fun x hx e => lt_ne (by simpa using (List.mem_filter.1 hx).2) e.symm)]
  cases hf : find l k with
  | none => simp [without]
  | some r =>
    have := (find_key hf).1
    simp [without, eq_iff.2 this]
theorem size_put_none {l : List Row} (h : Up l) {r : Row} (hf : find l r.key = none) : size (below r.key l ++ r :: above r.key l) = size l + r.bytes := by
  conv => rhs; rw [split_list h r.key, hf]
  simp only [size_append, size, Option.toList_none, List.nil_append]
  omega
theorem size_put_some {l : List Row} (h : Up l) {r o : Row} (hf : find l r.key = some o) : size (below r.key l ++ r :: above r.key l) = size l - o.bytes + r.bytes := by
  conv => rhs; rw [split_list h r.key, hf]
  simp only [size_append, size, Option.toList_some, List.cons_append, List.nil_append]
  omega
theorem size_without {l : List Row} (h : Up l) {k : ByteArray} {o : Row} (hf : find l k = some o) : size (without k l) = size l - o.bytes := by
  rw [without_split h]
  conv => rhs; rw [split_list h k, hf]
  simp only [size_append, size, Option.toList_some, List.cons_append, List.nil_append]
  omega
theorem without_none {l : List Row} {k : ByteArray} (hf : find l k = none) : without k l = l := by
  refine without_all (fun x hx e => ?_)
  have := List.find?_eq_none.1 hf x hx
  exact this (by simpa using eq_iff.2 e)
theorem LOk.put {l : List Row} (h : LOk l) {r : Row} (hr : RowOk r) (hn : (find l r.key).isSome = true ∨ l.length < 1048576) : LOk (below r.key l ++ r :: above r.key l) where
  up := up_put h.up r
  len := by
    rw [len_put h.up r]
    have := h.len
    split
    · omega
    · rename_i h2
      rcases hn with h3 | h3
      · exact absurd h3 h2
      · omega
  rows := fun x hx => by
    rcases List.mem_append.1 hx with hx | hx
    · exact h.rows x (List.mem_filter.1 hx).1
    · rcases List.mem_cons.1 hx with rfl | hx
      · exact hr
      · exact h.rows x (List.mem_filter.1 hx).1
theorem LOk.without {l : List Row} (h : LOk l) (k : ByteArray) : LOk (without k l) where
  up := up_without h.up k
  len := by have := len_without (l := l) k; have := h.len; omega
  rows := fun x hx => h.rows x (List.mem_filter.1 hx).1
theorem LOk.nil : LOk [] := ⟨List.Pairwise.nil, by simp, fun r hr => by cases hr⟩
/-- What Put comes to. -/
def putL (l : List Row) (r : Row) : Int × List Row :=
  if r.check = 0 then (if (find l r.key).isSome = true ∨ l.length < 1048576 then (0, below r.key l ++ r :: above r.key l) else (3, l)) else (r.check, l)
theorem LOk.putL {l : List Row} (h : LOk l) (r : Row) : LOk (putL l r).2 := by
  unfold Tab.putL
  split
  · rename_i h1
    split
    · rename_i h2
      exact h.put h1 h2
    · exact h
  · exact h
abbrev tTab : TypeId := 76
abbrev tabC (root : Option Addr) (n : Int) : Obj := .cells #[.pointer root, .int .i64 n, .bool true] tTab (0, 0)
/-- A table in memory. -/
def TabR (w : World) (g : Nat) (l : List Row) : Prop := ∃ t root, w.heap[g]? = some (tabC root (size l)) ∧ TR w t root ∧ t.WF ∧ t.list = l
theorem TR.kept {w w1 : World} {t : T} {p : Option Addr} {P : Nat → Prop} (h : TR w t p) (hk : Kept w w1 P) (hP : ∀ (g : Nat) (cs : Array Value), w.heap[g]? = some (.cells cs tN (0, 0)) → ¬ P g) : TR w1 t p :=
  TR.imp (fun g _ _ _ hg => blk_kept hg hk (hP g _ hg)) h
theorem TR.set {w : World} {t : T} {p : Option Addr} {g j : Nat} {v : Value} {cs : Array Value} {ty : TypeId} (h : TR w t p) (hg : w.heap[g]? = some (.cells cs ty (0, 0))) (hne : tN ≠ ty) : TR (w.setCell ⟨g, j, none⟩ v) t p :=
  TR.imp (fun g' _ _ _ hg' => blk_far hg' (p := ⟨g, j, none⟩) (blk_ne hg' hg hne) v) h
theorem TabR.below {w w1 : World} {g : Nat} {l : List Row} (h : TabR w g l) (hb : Below w.heap.size w w1) : TabR w1 g l := by
  obtain ⟨t, root, h1, h2, h3⟩ := h
  exact ⟨t, root, blk_below h1 hb, h2.below hb, h3⟩
/-- Behind a call on another table. -/
theorem TabR.kept {w w1 : World} {g g' : Nat} {l l' : List Row} (h : TabR w g l) (h' : TabR w g' l') (hne : g ≠ g') (hk : Kept w w1 (fun k => k = g')) : TabR w1 g l := by
  obtain ⟨t, root, h1, h2, h3⟩ := h
  obtain ⟨_, _, hg', _⟩ := h'
  exact ⟨t, root, blk_kept h1 hk hne, h2.kept hk (fun k cs hc e => blk_ne hc hg' (show tN ≠ tTab by decide) e), h3⟩
theorem TabR.lt {w : World} {g : Nat} {l : List Row} (h : TabR w g l) : g < w.heap.size := by
  obtain ⟨t, root, h1, _⟩ := h
  exact blk_lt h1
end Go.Proofs.Ytjpalkggmefpfaa.Tab
