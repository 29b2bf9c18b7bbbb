/- The zero of a line. -/
import Derived.Test.YtofmgijdeeikeaaHopSet
import Derived.KernelRfl
set_option linter.unusedVariables false
set_option linter.unusedSimpArgs false
namespace Go.Proofs.Ytofmgijdeeikeaa.Hop
open Go.RowKit Go.Proofs.Ytofmgijdeeikeaa.Mem Go.Proofs.YtofmgijdeeikeaaW.PrintWords Go.Proofs.YtofmgijdeeikeaaW.PrintLast Go.Deep
def zlist : List Value := [.int .i64 0, .int .i64 0] ++ ((List.replicate 64 U.zero).flatMap U.cells ++ (List.replicate 64 (.bool false) ++ [.bool false]))
def zcs : Array Value := zlist.toArray
theorem info_line : (Try.prog.info? 73).map (fun i => (i.zero, i.size)) = some (some (.agg zcs), 515) := by kernel_rfl
theorem zero_line (u : World) : (zeroValue 73).run Try.prog u = .ok (.agg zcs) u := by
  obtain ⟨i, hi, hz⟩ := Option.map_eq_some_iff.1 info_line
  simp only [Prod.mk.injEq] at hz
  simp [zeroValue, typeInfo, hi, hz.1]
theorem flat_get {α : Type} {enc : α → List Value} {s : Nat} (hs : ∀ x, (enc x).length = s) : ∀ (l : List α) (j : Nat) (p : α) (i : Nat) (u : Value), l[j]? = some p → (enc p)[i]? = some u → (l.flatMap enc)[j * s + i]? = some u
  | [], j, p, i, u, h, _ => by simp at h
  | a :: l, 0, p, i, u, h, hu => by
    have hi : i < (enc p).length := (List.getElem?_eq_some_iff.1 hu).1
    simp only [List.getElem?_cons_zero, Option.some.injEq] at h
    subst h
    rw [Nat.zero_mul, Nat.zero_add, List.flatMap_cons, List.getElem?_append_left hi, hu]
  | a :: l, j + 1, p, i, u, h, hu => by
    have h' : l[j]? = some p := by simpa using h
    have e : (j + 1) * s + i = s + (j * s + i) := by rw [Nat.succ_mul]; omega
    rw [List.flatMap_cons, e, List.getElem?_append_right (by rw [hs]; omega), hs, Nat.add_sub_cancel_left]
    exact flat_get hs l j p i u h' hu
theorem flat_len {α : Type} {enc : α → List Value} {s : Nat} (hs : ∀ x, (enc x).length = s) : ∀ l : List α, (l.flatMap enc).length = l.length * s
  | [] => by simp
  | a :: l => by rw [List.flatMap_cons, List.length_append, hs, flat_len hs l, List.length_cons, Nat.succ_mul]; omega
def lineZero : L := ⟨0, 0, fun _ => U.zero, fun _ => false, false⟩
theorem cells_len (u : U) : u.cells.length = 7 := rfl
theorem zcs_size : zcs.size = 515 := by kernel_rfl
theorem zero_held (k : Nat) (hk : k < 64) (j : Nat) (v : Value) (h : U.zero.cells[j]? = some v) : zcs[2 + k * 7 + j]? = some v := by
  have hj : j < 7 := (List.getElem?_eq_some_iff.1 h).1
  have h1 := flat_get cells_len (List.replicate 64 U.zero) k U.zero j v (by rw [List.getElem?_replicate_of_lt hk]) h
  have h2 := flat_len cells_len (List.replicate 64 U.zero)
  rw [List.length_replicate] at h2
  simp only [zcs, zlist, List.getElem?_toArray]
  rw [List.getElem?_append_right (by simp; omega), List.getElem?_append_left (by rw [h2]; simp; omega)]
  rw [show 2 + k * 7 + j - [Value.int .i64 0, .int .i64 0].length = k * 7 + j by simp; omega]
  exact h1
theorem zero_there (k : Nat) (hk : k < 64) : zcs[450 + k]? = some (.bool false) := by
  have h2 := flat_len cells_len (List.replicate 64 U.zero)
  rw [List.length_replicate] at h2
  simp only [zcs, zlist, List.getElem?_toArray]
  rw [List.getElem?_append_right (by simp; omega), List.getElem?_append_right (by rw [h2]; simp; omega), List.getElem?_append_left (by rw [h2]; simp; omega), List.getElem?_replicate_of_lt (by rw [h2]; simp; omega)]
theorem zero_R : LineR zcs lineZero where
  from_ := by kernel_rfl
  window := by kernel_rfl
  made := by kernel_rfl
  held := fun k hk => ⟨zero_held k hk 0 _ rfl, zero_held k hk 1 _ rfl, zero_held k hk 2 _ rfl, zero_held k hk 3 _ rfl, zero_held k hk 4 _ rfl, zero_held k hk 5 _ rfl, zero_held k hk 6 _ rfl⟩
  there := fun k hk => zero_there k hk
end Go.Proofs.Ytofmgijdeeikeaa.Hop
