/- A segment of a list of rows; what a round keeps for the iterator. -/
import Derived.Test.YtjpalkggmefpfaaTable
import Derived.RangeFuncNested
import Derived.RangeFuncBound
import Derived.RangeFuncCalls
import Derived.RangeFuncLeaves
set_option linter.unusedVariables false
set_option linter.unusedSimpArgs false
namespace Go.Proofs.Ytjpalkggmefpfaa.Tab
open Go.RowKit Go.Proofs.Ytjpalkggmefpfaa.Mem Go.Proofs.YtjpalkggmefpfaaW.PrintWords
/-- The places from one up to another. -/
def seg (l : List Row) (a b : Int) : List Row := (l.take b.toNat).drop a.toNat
def segD (down : Bool) (l : List Row) (a b : Int) : List Row := if down then (seg l a b).reverse else seg l a b
theorem seg_none {l : List Row} {a b : Int} (h : b ≤ a ∨ b ≤ 0 ∨ (l.length : Int) ≤ a) : seg l a b = [] := by
  unfold seg
  rw [List.drop_eq_nil_iff, List.length_take]
  omega
theorem seg_node (L R : List Row) (v : Row) {a b : Int} (ha : 0 ≤ a) : seg (L ++ v :: R) a b = seg L a (min b L.length) ++ ((if a ≤ L.length ∧ (L.length : Int) < b then [v] else []) ++ seg R (max (a - L.length - 1) 0) (b - L.length - 1)) := by
  apply List.ext_getElem?
  intro i
  unfold seg
  rw [List.getElem?_append]
  simp only [List.length_drop, List.length_take]
  split
  · rename_i h
    rw [List.getElem?_drop, List.getElem?_drop, List.getElem?_take, List.getElem?_take, if_pos (by omega), if_pos (by omega), List.getElem?_append_left (by omega)]
  · rename_i h
    rw [List.getElem?_drop, List.getElem?_take]
    by_cases hb : a.toNat + i < b.toNat
    · rw [if_pos hb, List.getElem?_append_right (by omega)]
      by_cases hm : a ≤ L.length ∧ (L.length : Int) < b
      · rw [if_pos hm]
        by_cases hi : i - (min (min b (L.length : Int)).toNat L.length - a.toNat) < 1
        · rw [List.getElem?_append_left (by simpa using hi)]
          rw [show a.toNat + i - L.length = 0 by omega, show i - (min (min b (L.length : Int)).toNat L.length - a.toNat) = 0 by omega]
          rfl
        · rw [List.getElem?_append_right (by simp; omega), List.getElem?_drop, List.getElem?_take, List.length_singleton, if_pos (by omega)]
          rw [show a.toNat + i - L.length = (max (a - L.length - 1) 0).toNat + (i - (min (min b (L.length : Int)).toNat L.length - a.toNat) - 1) + 1 by omega, List.getElem?_cons_succ]
      · rw [if_neg hm, List.nil_append, List.getElem?_drop, List.getElem?_take, if_pos (by omega)]
        rw [show a.toNat + i - L.length = (max (a - L.length - 1) 0).toNat + (i - (min (min b (L.length : Int)).toNat L.length - a.toNat)) + 1 by omega, List.getElem?_cons_succ]
    · rw [if_neg hb]
      refine (List.getElem?_eq_none ?_).symm
      rw [List.length_append, List.length_drop, List.length_take]
      split
      · rw [List.length_singleton]
        omega
      · rw [List.length_nil]
        omega
theorem seg_all (l : List Row) : seg l 0 l.length = l := by
  unfold seg
  simp
/-- What a round that goes on keeps for the iterator: the trees' nodes, and, of the blocks from b0 on, its own boxes. -/
def KeepI (b0 : Nat) (W W' : World) : Prop := W.heap.size ≤ W'.heap.size ∧ ∀ (k : Nat) (cs : Array Value) (t : TypeId), W.heap[k]? = some (.cells cs t (0, 0)) → (t = tN ∨ (b0 ≤ k ∧ (t = 74 ∨ t = 3 ∨ t = 4 ∨ t = 28))) → W'.heap[k]? = some (.cells cs t (0, 0))
theorem KeepI.refl (b0 : Nat) (W : World) : KeepI b0 W W := ⟨Nat.le_refl _, fun _ _ _ h _ => h⟩
theorem KeepI.trans {b0 : Nat} {A B C : World} (h : KeepI b0 A B) (k : KeepI b0 B C) : KeepI b0 A C := ⟨Nat.le_trans h.1 k.1, fun i cs t hi ht => k.2 i cs t (h.2 i cs t hi ht) ht⟩
theorem KeepI.of_below {b0 : Nat} {A B : World} (h : Below A.heap.size A B) : KeepI b0 A B := ⟨h.size, fun i cs t hi _ => blk_below hi h⟩
theorem KeepI.putObj {b0 : Nat} (W : World) (l : Nat) (o o' : Obj) (h : W.heap[l]? = some o) (hc : o.isCells = false) : KeepI b0 W (W.putObj l o') :=
  ⟨by simp, fun k cs t hk _ => by
    have hne : k ≠ l := fun e => by subst e; rw [h] at hk; cases hk; cases hc
    exact (World.putObj_heap_other hne).trans hk⟩
theorem TR.keepI {b0 : Nat} {A B : World} {t : T} {p : Option Addr} (h : TR A t p) (k : KeepI b0 A B) : TR B t p := TR.imp (fun g _ _ _ hg => k.2 g _ _ hg (.inl rfl)) h
abbrev tPN : TypeId := 74
abbrev tI : TypeId := 3
abbrev tB : TypeId := 4
abbrev tY : TypeId := 28
theorem KeepI.box {b0 k : Nat} {A B : World} {v : Value} {t : TypeId} (h : KeepI b0 A B) (hb : A.heap[k]? = some (.cells #[v] t (0, 0))) (hk : b0 ≤ k) (ht : t = tPN ∨ t = tI ∨ t = tB ∨ t = tY) : B.heap[k]? = some (.cells #[v] t (0, 0)) :=
  h.2 k _ t hb (.inr ⟨hk, ht⟩)
end Go.Proofs.Ytjpalkggmefpfaa.Tab
