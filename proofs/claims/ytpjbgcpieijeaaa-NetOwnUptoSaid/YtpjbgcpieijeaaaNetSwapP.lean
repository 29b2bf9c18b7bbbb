/- Two flights change places, as they lie. -/
import Derived.Test.YtpjbgcpieijeaaaNetTake
import Derived.Deep.MidRow
set_option linter.unusedVariables false
set_option linter.unusedSimpArgs false
namespace Go.Proofs.Ytpjbgcpieijeaaa.Net
open Go.RowKit Go.Proofs.Ytpjbgcpieijeaaa.Mem Go.Proofs.YtpjbgcpieijeaaaW.PrintWords Go.Proofs.Ytpjbgcpieijeaaa.Byt Go.Proofs.Ytpjbgcpieijeaaa.Opn
section
variable {w w1 : World} {base g m : Nat} {O O' : Nat → Prop} {nd cl : Int} {v : Value} {fls : List Fl} {sent : List LtT}
def lay4 (cs : Array Value) (o : Nat) (f : Fl) : Array Value := (((cs.setIfInBounds o (.int .i64 f.src)).setIfInBounds (o + 1) (.int .i64 f.dst)).setIfInBounds (o + 2) f.sv).setIfInBounds (o + 3) f.nv
theorem blk_lay4 {b o : Nat} {t : TypeId} {cs : Array Value} (f : Fl) (h : w.heap[b]? = some (.cells cs t (0, 0))) : (w.setCells b o f.cells).heap[b]? = some (.cells (lay4 cs o f) t (0, 0)) := blk_set (blk_set (blk_set (blk_set h o _) (o + 1) _) (o + 2) _) (o + 3) _
theorem lay4_size (cs : Array Value) (o : Nat) (f : Fl) : (lay4 cs o f).size = cs.size := by simp [lay4]
theorem lay4_far {cs : Array Value} {o : Nat} {f : Fl} {j : Nat} (h : j < o ∨ o + 4 ≤ j) : (lay4 cs o f)[j]? = cs[j]? := by
  simp only [lay4, Array.getElem?_setIfInBounds]
  repeat (rw [if_neg (by omega)])
theorem lay4_here {cs : Array Value} {o : Nat} {f : Fl} (h : o + 4 ≤ cs.size) (j : Nat) (hj : j < 4) : (lay4 cs o f)[o + j]? = f.cells[j]? := by
  match j, hj with
  | 0, _ => simp [lay4, Fl.cells, Array.getElem?_setIfInBounds]; omega
  | 1, _ => simp [lay4, Fl.cells, Array.getElem?_setIfInBounds]; omega
  | 2, _ => simp [lay4, Fl.cells, Array.getElem?_setIfInBounds]; omega
  | 3, _ => simp [lay4, Fl.cells, Array.getElem?_setIfInBounds]; omega
theorem lay4_row {cs : Array Value} {n i : Nat} {f : Fl} (hl : fls.length = n) (hi : i < n) (hs : n * 4 ≤ cs.size) (h : cs.toList.take (n * 4) = cellsOf fls) : (lay4 cs (i * 4) f).toList.take (n * 4) = cellsOf (fls.set i f) := by
  apply List.ext_getElem?
  intro j
  rcases Nat.lt_or_ge j (n * 4) with hj | hj
  · rw [List.getElem?_take_of_lt hj, Array.getElem?_toList]
    have hq : j / 4 < fls.length := by omega
    have hjj : j / 4 * 4 + j % 4 = j := by omega
    by_cases hji : j / 4 = i
    · have h1 := cellsOf_get (fls.set i f) i f (by rw [List.getElem?_set_self (by omega)]) (j % 4) (Nat.mod_lt _ (by decide))
      rw [← hji, hjj] at h1
      rw [hji] at h1
      rw [h1, ← hjj, hji, lay4_here (by omega) _ (Nat.mod_lt _ (by decide))]
      congr 1
      omega
    · have h1 := cellsOf_get (fls.set i f) (j / 4) fls[j / 4] (by rw [List.getElem?_set_ne (fun e => hji e.symm), List.getElem?_eq_getElem hq]) (j % 4) (Nat.mod_lt _ (by decide))
      have h2 := cellsOf_get fls (j / 4) fls[j / 4] (List.getElem?_eq_getElem hq) (j % 4) (Nat.mod_lt _ (by decide))
      rw [hjj] at h1 h2
      rw [h1, ← h2, ← h, lay4_far (by omega), List.getElem?_take_of_lt hj, Array.getElem?_toList]
  · rw [List.getElem?_eq_none (by rw [List.length_take]; omega), List.getElem?_eq_none (by rw [cellsOf_len, List.length_set]; omega)]
/-- A flight is written over another, in its place. -/
theorem WayR.put (h : WayR w base v fls) {ad : Addr} {n c : Nat} (hv : v = .slice (some ad) n c) {i : Nat} (hi : i < fls.length) (f : Fl) :
    ad.add (i * 4) = ⟨ad.block, i * 4, none⟩ ∧ w.there ad.block (i * 4) 4 ∧ WayR (w.setCells ad.block (i * 4) f.cells) base v (fls.set i f) := by
  rcases h with h | ⟨b, cur, rfl, h1, h2, h3, h4, h5⟩
  · obtain ⟨ho1, ho2⟩ := h
    rcases ho2 with ⟨rfl, _⟩ | ⟨b, cap, cur, rfl, h1, h2, h3, h4, h5, h6⟩
    · cases hv
    · cases hv
      refine ⟨by rw [add_plain], fun j hj => ?_, .inl ⟨by rw [cellsOf_len], .inr ⟨b, c, lay4 cur (i * 4) f, by rw [List.length_set], h1, blk_lay4 f h2, by rw [List.length_set]; exact h3, h4, by rw [lay4_size]; exact h5, ?_⟩⟩⟩
      · rw [blkc h2, blkz h2, Array.getElem?_eq_getElem (by omega)]
        exact ⟨rfl, rfl⟩
      · rw [List.length_set]
        exact lay4_row rfl hi (by omega) h6
  · cases hv
    refine ⟨by rw [add_plain], fun j hj => ?_, .inr ⟨b, lay4 cur (i * 4) f, by rw [List.length_set], h1, blk_lay4 f h2, by rw [List.length_set, lay4_size]; exact h3, by rw [List.length_set]; exact h4, ?_⟩⟩
    · rw [blkc h2, blkz h2, Array.getElem?_eq_getElem (by omega)]
      exact ⟨rfl, rfl⟩
    · rw [List.length_set]
      exact lay4_row rfl hi h3 h5
theorem setCells_far {b : Nat} : ∀ (vs : List Value) (o : Nat) (w : World) (k : Nat), k ≠ b → (w.setCells b o vs).heap[k]? = w.heap[k]?
  | [], _, _, _, _ => rfl
  | x :: r, o, w, k, h => (setCells_far r (o + 1) (w.setCell ⟨b, o, none⟩ x) k h).trans (Below.heap_setCell w ⟨b, o, none⟩ x k h)
theorem below_setCells {b : Nat} {w0 : World} (hb : w0.heap.size ≤ b) : ∀ (vs : List Value) (o : Nat) {w : World}, Below w0.heap.size w0 w → Below w0.heap.size w0 (w.setCells b o vs)
  | [], _, _, h => h
  | x :: r, o, w, h => below_setCells hb r (o + 1) (below_set h hb)
theorem kept_setCells {b : Nat} {S : Nat → Prop} {w0 : World} (hb : S b) : ∀ (vs : List Value) (o : Nat) {w : World}, Kept w0 w S → Kept w0 (w.setCells b o vs) S
  | [], _, _, h => h
  | x :: r, o, w, h => kept_setCells hb r (o + 1) (h.setCell (p := ⟨b, o, none⟩) (.inl hb) x)
theorem Apart.swap (h : Apart fls) {i k : Nat} {fi fk : Fl} (hi : fls[i]? = some fi) (hk : fls[k]? = some fk) : Apart ((fls.set i fk).set k fi) := by
  refine h.sub (fun j => if j = k then i else if j = i then k else j) (fun j f hj => ?_) (fun a b e => ?_)
  · rcases set_at hj with ⟨rfl, rfl⟩ | ⟨h1, hj⟩
    · simp only [if_true]
      exact hi
    · rw [if_neg (fun e => h1 e.symm)]
      rcases set_at hj with ⟨rfl, rfl⟩ | ⟨h2, hj⟩
      · rw [if_pos rfl]
        exact hk
      · rw [if_neg (fun e => h2 e.symm)]
        exact hj
  · by_cases h1 : a = k <;> by_cases h2 : a = i <;> by_cases h3 : b = k <;> by_cases h4 : b = i <;> simp only [h1, h2, h3, h4, if_true, if_false] at e <;> (repeat (split at e)) <;> omega
/-- Two have changed places. -/
theorem NetR.swapped (h : NetR w base O g m nd cl v fls sent) {i k : Nat} {fi fk : Fl} (hi : fls[i]? = some fi) (hk : fls[k]? = some fk) {b : Nat} (hb : v.ownBlock = some b) (hw : WayR w1 base v ((fls.set i fk).set k fi)) (hf : ∀ k, k ≠ b → w1.heap[k]? = w.heap[k]?) : NetR w1 base O g m nd cl v ((fls.set i fk).set k fi) sent := by
  have hne : ∀ {bs : List Int} {u : Value}, Ow w base u bs → ∀ k, u.ownBlock = some k → k ≠ b := fun {bs u} hu k hk e => by
    obtain ⟨cs, hc⟩ := hu.typed hk
    exact way_ne h.way hc (by decide) (by rw [hb, e])
  refine ⟨(hf g (fun e => h.g_not.1 (by rw [hb, e]))).trans h.net, hw, fun f hf' => ?_, h.sep.swap hi hk, h.mp.block (hf m (fun e => h.m_not.1 (by rw [hb, e]))), h.og, h.om, h.ov, h.ob, h.nn, h.nc⟩
  have hx : FlR w base O f := by
    rcases List.mem_or_eq_of_mem_set hf' with hf' | rfl
    · rcases List.mem_or_eq_of_mem_set hf' with hf' | rfl
      · exact h.fl f hf'
      · exact h.fl _ (List.mem_of_getElem? hk)
    · exact h.fl _ (List.mem_of_getElem? hi)
  exact ⟨hx.s.move (fun q hq => hf q (hne hx.s q hq)), hx.n.move (fun q hq => hf q (hne hx.n q hq)), hx.os, hx.on, hx.len, hx.rs, hx.rn, hx.lb⟩
theorem store_step4 {P : Program} {ops : Array Oper} {o : Oper} {a : Act} {W : World} {Kc : Act → World → Prop} {Q : Exit → Act → World → Prop} (hw : Region.wanted o (yielded ops a.tmps) = true) (hd : o.dst = none) (ty : TypeId) (x y : Operand) (ho : o.op = .store ty x y)
    (b off : Nat) (f : Fl) (hx : a.eval x = .pointer (some ⟨b, off, none⟩)) (hy : a.eval y = .agg f.cells.toArray) (ht : W.there b off 4) (hi : (P.info? ty).map (·.size) = some 4) (h1 : f.one)
    (h : Kc a (W.setCells b off f.cells)) : if Region.wanted o (yielded ops a.tmps) = true then Oper.wp P o a W Kc Q else Kc (a.put o.dst undef) W := by
  rw [if_pos hw]
  exact wp_store_mid ty x y ho b off _ hx hy ht hi (all_oneCell_toArray (fun u hu => cells_one (ys := [f]) (fun f' hf' => by rw [List.mem_singleton.1 hf']; exact h1) u (by rw [cellsOf_one]; exact hu))) (by rw [hd]; exact h)
end
end Go.Proofs.Ytpjbgcpieijeaaa.Net
