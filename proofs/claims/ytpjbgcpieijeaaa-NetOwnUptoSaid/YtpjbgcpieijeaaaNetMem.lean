/- A net in memory: its own block, the packets under way, what was sent. -/
import Derived.Test.YtpjbgcpieijeaaaNetSent
import Derived.Test.YtpjbgcpieijeaaaBytes
import Derived.Laws.OwnMore
import Derived.Maps.AppendAt
set_option linter.unusedVariables false
set_option linter.unusedSimpArgs false
namespace Go.Proofs.Ytpjbgcpieijeaaa.Net
open Go.RowKit Go.Proofs.Ytpjbgcpieijeaaa.Mem Go.Proofs.YtpjbgcpieijeaaaW.PrintWords Go.Proofs.Ytpjbgcpieijeaaa.Byt
abbrev tFl : TypeId := 80
abbrev tFls : TypeId := 68
abbrev tU8 : TypeId := 5
abbrev tNet : TypeId := 71
/-- A flight as it lies: from, to, the slices of its bytes, and these. -/
structure Fl where
  src : Int
  dst : Int
  sv : Value
  nv : Value
  sb : List Int
  nb : List Int
def Fl.cells (f : Fl) : List Value := [.int .i64 f.src, .int .i64 f.dst, f.sv, f.nv]
def cellsOf (fls : List Fl) : List Value := fls.flatMap Fl.cells
theorem cellsOf_len : ∀ (fls : List Fl), (cellsOf fls).length = fls.length * 4
  | [] => rfl
  | f :: fls => by
    simp only [cellsOf, List.flatMap_cons, List.length_append, List.length_cons]
    have := cellsOf_len fls
    simp only [cellsOf] at this
    rw [this]
    simp only [Fl.cells, List.length_cons, List.length_nil]
    omega
theorem cellsOf_append (a b : List Fl) : cellsOf (a ++ b) = cellsOf a ++ cellsOf b := by simp [cellsOf]
theorem cellsOf_one (f : Fl) : cellsOf [f] = f.cells := by simp [cellsOf]
theorem cellsOf_get : ∀ (fls : List Fl) (i : Nat) (f : Fl), fls[i]? = some f → ∀ j, j < 4 → (cellsOf fls)[i * 4 + j]? = f.cells[j]?
  | [], i, f, h, _, _ => by simp at h
  | g :: fls, 0, f, h, j, hj => by
    have : g = f := by simpa using h
    subst this
    simp only [cellsOf, List.flatMap_cons, Nat.zero_mul, Nat.zero_add]
    rw [List.getElem?_append_left (by simp only [Fl.cells, List.length_cons, List.length_nil]; omega)]
  | g :: fls, i + 1, f, h, j, hj => by
    have h1 := cellsOf_get fls i f (by simpa using h) j hj
    simp only [cellsOf, List.flatMap_cons] at h1 ⊢
    rw [List.getElem?_append_right (by simp only [Fl.cells, List.length_cons, List.length_nil]; omega), ← h1]
    congr 1
    simp only [Fl.cells, List.length_cons, List.length_nil]
    omega
theorem cellsOf_take (fls : List Fl) (i : Nat) : cellsOf (fls.take i) = (cellsOf fls).take (i * 4) := by
  rcases Nat.lt_or_ge i fls.length with hi | hi
  · have h2 : (cellsOf (fls.take i)).length = i * 4 := by rw [cellsOf_len, List.length_take]; omega
    have h3 : cellsOf fls = cellsOf (fls.take i) ++ cellsOf (fls.drop i) := by rw [← cellsOf_append, List.take_append_drop]
    rw [h3, List.take_left' h2]
  · rw [List.take_of_length_le hi, List.take_of_length_le (by rw [cellsOf_len]; omega)]
theorem cellsOf_drop (fls : List Fl) (i : Nat) (hi : i ≤ fls.length) : cellsOf (fls.drop i) = (cellsOf fls).drop (i * 4) := by
  have h : fls = fls.take i ++ fls.drop i := (List.take_append_drop i fls).symm
  have h2 : (cellsOf (fls.take i)).length = i * 4 := by rw [cellsOf_len, List.length_take]; omega
  have h3 : cellsOf fls = cellsOf (fls.take i) ++ cellsOf (fls.drop i) := by rw [← cellsOf_append, List.take_append_drop]
  rw [h3, List.drop_left' h2]
/-- The packets under way, as they lie: a row of the net's own, or one that was cut behind its last (no room behind it). -/
def WayR (w : World) (base : Nat) (v : Value) (fls : List Fl) : Prop :=
  w.ownsRow base tFl 4 v fls.length (cellsOf fls) ∨
  ∃ g cur, v = .slice (some ⟨g, 0, none⟩) fls.length fls.length ∧ base ≤ g ∧ w.heap[g]? = some (.cells cur tFl (0, 0)) ∧ fls.length * 4 ≤ cur.size ∧ fls.length ≤ maxLen ∧ cur.toList.take (fls.length * 4) = cellsOf fls
section
variable {w w1 : World} {base : Nat} {v : Value} {fls : List Fl}
theorem WayR.slice (h : WayR w base v fls) : ∃ A c, v = .slice A fls.length c ∧ fls.length ≤ c := by
  rcases h with h | ⟨g, cur, rfl, _, _, _, _, _⟩
  · rcases h.2 with ⟨rfl, h0⟩ | ⟨g, cap, cur, rfl, _, _, h1, _⟩
    · exact ⟨none, 0, by rw [h0], by omega⟩
    · exact ⟨_, _, rfl, h1⟩
  · exact ⟨_, _, rfl, Nat.le_refl _⟩
/-- Its block, where it has one. -/
theorem WayR.blk (h : WayR w base v fls) : (v = .slice none 0 0 ∧ fls = []) ∨ ∃ g c cur, v = .slice (some ⟨g, 0, none⟩) fls.length c ∧ base ≤ g ∧ w.heap[g]? = some (.cells cur tFl (0, 0)) ∧ fls.length ≤ c ∧ fls.length * 4 ≤ cur.size ∧ c ≤ maxLen ∧ cur.toList.take (fls.length * 4) = cellsOf fls := by
  rcases h with h | ⟨g, cur, rfl, h1, h2, h3, h4, h5⟩
  · rcases h.2 with ⟨rfl, h0⟩ | ⟨g, cap, cur, rfl, h1, h2, h3, h4, h5, h6⟩
    · exact .inl ⟨rfl, List.eq_nil_of_length_eq_zero h0⟩
    · exact .inr ⟨g, cap, cur, rfl, h1, h2, h3, by omega, h4, h6⟩
  · exact .inr ⟨g, _, cur, rfl, h1, h2, Nat.le_refl _, h3, h4, h5⟩
theorem WayR.move (h : WayR w base v fls) (hm : ∀ k, v.ownBlock = some k → w1.heap[k]? = w.heap[k]?) : WayR w1 base v fls := by
  rcases h with h | ⟨g, cur, rfl, h1, h2, h3⟩
  · exact .inl (own_move h hm)
  · exact .inr ⟨g, cur, rfl, h1, (hm g (by simp [Value.ownBlock])).trans h2, h3⟩
theorem WayR.lt (h : WayR w base v fls) (k : Nat) (hk : v.ownBlock = some k) : base ≤ k ∧ k < w.heap.size ∧ ∃ cur, w.heap[k]? = some (.cells cur tFl (0, 0)) := by
  rcases h.blk with ⟨rfl, _⟩ | ⟨g, c, cur, rfl, h1, h2, _⟩
  · simp [Value.ownBlock] at hk
  · have : g = k := by simpa [Value.ownBlock] using hk
    subst this
    exact ⟨h1, blk_lt h2, cur, h2⟩
theorem WayR.below (h : WayR w base v fls) (hb : Below w.heap.size w w1) : WayR w1 base v fls := h.move (fun k hk => hb.block k (h.lt k hk).2.1)
/-- The cells of a place. -/
theorem WayR.at (h : WayR w base v fls) {i : Nat} {f : Fl} (hi : fls[i]? = some f) : ∃ ad c, v = .slice (some ad) fls.length c ∧ fls.length ≤ c ∧ v.ownBlock = some ad.block ∧
    w.cell? (ad.add (i * 4)) = some (.int .i64 f.src) ∧ w.cell? ⟨(ad.add (i * 4)).block, (ad.add (i * 4)).off + 1, none⟩ = some (.int .i64 f.dst) ∧ w.cell? ⟨(ad.add (i * 4)).block, (ad.add (i * 4)).off + 2, none⟩ = some f.sv ∧ w.cell? ⟨(ad.add (i * 4)).block, (ad.add (i * 4)).off + 3, none⟩ = some f.nv := by
  have hil : i < fls.length := (List.getElem?_eq_some_iff.1 hi).1
  rcases h.blk with ⟨rfl, rfl⟩ | ⟨g, c, cur, rfl, h1, h2, h3, h4, h5, h6⟩
  · simp at hi
  · have hc : ∀ j, j < 4 → w.cell? ⟨g, i * 4 + j, none⟩ = f.cells[j]? := fun j hj => by
      rw [blkc h2 (i * 4 + j), ← cellsOf_get fls i f hi j hj, ← h6, List.getElem?_take_of_lt (by omega), Array.getElem?_toList]
    have ha : (⟨g, 0, none⟩ : Addr).add (i * 4) = ⟨g, i * 4, none⟩ := by rw [add_plain]
    refine ⟨⟨g, 0, none⟩, c, rfl, h3, rfl, ?_, ?_, ?_, ?_⟩ <;> rw [ha]
    · exact hc 0 (by omega)
    · exact hc 1 (by omega)
    · exact hc 2 (by omega)
    · exact hc 3 (by omega)
end
theorem infoFl : (Try.prog.info? tFl).map (fun i => (i.zero, i.size, i.bytes)) = some (some (.agg #[.int .i64 0, .int .i64 0, .slice none 0 0, .slice none 0 0]), 4, 64) := by kernel_rfl
theorem nextcap_le {need old : Nat} (h : old < need) : 4 * Builtin.nextslicecap need old ≤ 5 * need + 2048 := by
  unfold Builtin.nextslicecap
  split
  · omega
  · split
    · omega
    · rw [growBy_four]
      repeat' split
      all_goals omega
def Fl.one (f : Fl) : Prop := f.sv.oneCell' = true ∧ f.nv.oneCell' = true
theorem cells_one {ys : List Fl} (h : ∀ f ∈ ys, f.one) : ∀ u ∈ cellsOf ys, u.oneCell' = true := by
  intro u hu
  obtain ⟨f, hf, hu⟩ := List.mem_flatMap.1 hu
  simp only [Fl.cells, List.mem_cons, List.not_mem_nil, or_false] at hu
  rcases hu with rfl | rfl | rfl | rfl
  · rfl
  · rfl
  · exact (h f hf).1
  · exact (h f hf).2
/-- More packets behind those that are under way. -/
theorem way_app (W : World) (ty : TypeId) {base : Nat} {v : Value} {fls ys : List Fl} (HW : WayR W base v fls) (ad : Addr) (m c : Nat) (hm : ys.length = m) (hm0 : 0 < m) (hy : ∀ j u, (cellsOf ys)[j]? = some u → W.cell? (ad.add j) = some u) (h1 : ∀ f ∈ ys, f.one)
    (hbase : base ≤ W.heap.size) (hl : fls.length + m ≤ 2199023255552) :
    ∃ v1 w1, (Builtin.append_ #[tFls, tFls] ty #[v, .slice (some ad) m c]).run Try.prog W = .ok v1 w1 ∧ w1.ownsRow base tFl 4 v1 (fls ++ ys).length (cellsOf (fls ++ ys)) ∧ W.grownBy w1 v.ownBlock ∧ (v1.ownBlock = v.ownBlock ∨ v1.ownBlock = some W.heap.size) := by
  obtain ⟨i0, hi, hzz⟩ := Option.map_eq_some_iff.1 infoFl
  simp only [Prod.mk.injEq] at hzz
  obtain ⟨hz0, hz1, hz2⟩ := hzz
  have hu := Try.underlying68
  have hnl : (cellsOf ys).length = m * 4 := by rw [cellsOf_len, hm]
  have hol : (cellsOf fls).length = fls.length * 4 := cellsOf_len fls
  have hx : (fls ++ ys).length = fls.length + m := by rw [List.length_append, hm]
  rw [hx, cellsOf_append]
  have h63 : fls.length + m ≤ maxLen := by simp only [maxLen]; omega
  have grown : ∀ (old : Nat), old < fls.length + m → ∀ (row : Option Nat),
      (W.drew.alloc (.cells ((cellsOf fls).toArray ++ (cellsOf ys).toArray ++ Builtin.zeroCells (Value.agg #[.int .i64 0, .int .i64 0, .slice none 0 0, .slice none 0 0]).cells (grownCap W (fls.length + m) old tFl - (fls.length + m))) tFl)).ownsRow base tFl 4
        (.slice (some ⟨W.heap.size, 0, none⟩) (fls.length + m) (grownCap W (fls.length + m) old tFl)) (fls.length + m) (cellsOf fls ++ cellsOf ys) ∧
      W.grownBy (W.drew.alloc (.cells ((cellsOf fls).toArray ++ (cellsOf ys).toArray ++ Builtin.zeroCells (Value.agg #[.int .i64 0, .int .i64 0, .slice none 0 0, .slice none 0 0]).cells (grownCap W (fls.length + m) old tFl - (fls.length + m))) tFl)) row := by
    intro old ho row
    have hge := grownCap_ge W (fls.length + m) old tFl
    have hcm : grownCap W (fls.length + m) old tFl ≤ maxLen := grownCap_le_maxLen W (fls.length + m) old tFl h63
    have hzs : (Value.agg #[.int .i64 0, .int .i64 0, .slice none 0 0, .slice none 0 0]).cells.size = 4 := rfl
    refine ⟨⟨by rw [List.length_append, hol, hnl, Nat.add_mul], .inr ⟨W.heap.size, _, _, rfl, hbase, heap_alloc_new W.drew _, hge, hcm, ?_, ?_⟩⟩, ⟨rfl, rfl, rfl, by simp, fun k hk _ => heap_alloc_old W.drew _ hk⟩⟩
    · simp only [Array.size_append, List.size_toArray, size_zeroCells, hzs, hol, hnl]
      omega
    · simp only [Array.toList_append, List.append_assoc]
      rw [← List.append_assoc, show (fls.length + m) * 4 = (cellsOf fls ++ cellsOf ys).length by rw [List.length_append, hol, hnl, Nat.add_mul]]
      exact List.take_left
  have growN : ∀ (g cap : Nat), v = .slice (some ⟨g, 0, none⟩) fls.length cap → cap < fls.length + m → (∀ j u, (cellsOf fls)[j]? = some u → W.cell? ((⟨g, 0, none⟩ : Addr).add j) = some u) →
      ∃ v1 w1, (Builtin.append_ #[tFls, tFls] ty #[v, .slice (some ad) m c]).run Try.prog W = .ok v1 w1 ∧ w1.ownsRow base tFl 4 v1 (fls.length + m) (cellsOf fls ++ cellsOf ys) ∧ W.grownBy w1 v.ownBlock ∧ (v1.ownBlock = v.ownBlock ∨ v1.ownBlock = some W.heap.size) := fun g cap hv hc holds => by
    subst hv
    have hnx := nextcap_le (need := fls.length + m) (old := cap) hc
    have hrun := run_append_grow (P := Try.prog) W tFls ty tFl i0 _ hu hi hz0 ⟨g, 0, none⟩ fls.length cap (cellsOf fls) (by rw [hol, hz1]) holds ad m c (cellsOf ys) (by rw [hnl, hz1]) hy hc (by omega) (by rw [hz2]; omega)
    have hgr := grown cap hc (Value.ownBlock (.slice (some ⟨g, 0, none⟩) fls.length cap))
    exact ⟨_, _, hrun, hgr.1, hgr.2, .inr rfl⟩
  rcases HW with hown | ⟨g, cur, rfl, h2, h3, h4, h5, h6⟩
  · rcases hown.2 with ⟨rfl, h0⟩ | ⟨g, cap, cur, rfl, hbg, hg, hnc2, hcm, hcs, htake⟩
    · have hx0 : fls = [] := List.eq_nil_of_length_eq_zero h0
      subst hx0
      have hrun := run_append_nil (P := Try.prog) W tFls ty tFl i0 _ hu hi hz0 ad m c (cellsOf ys) (by rw [hnl, hz1]) hy hm0 (by simp only [List.length_nil] at hl; omega) (by rw [hz2]; simp only [List.length_nil] at hl; omega)
      have hgr := grown 0 (by omega) (Value.ownBlock (.slice none 0 0))
      simp only [List.length_nil, Nat.zero_add, cellsOf, List.flatMap_nil, List.nil_append, Array.empty_append] at hgr ⊢
      exact ⟨_, _, hrun, by simpa [cellsOf] using hgr.1, hgr.2, .inr rfl⟩
    · by_cases hroom : fls.length + m ≤ cap
      · obtain ⟨w1, hrun, ho, hgr⟩ := run_append_fits (P := Try.prog) W base tFls ty tFl i0 4 hu hi hz1 g fls.length cap (cellsOf fls) hown ad m c (cellsOf ys) hnl hy (cells_one h1) hroom
        exact ⟨_, _, hrun, ho, hgr, .inl rfl⟩
      · exact growN g cap rfl (by omega) (hown.cells (g := g) rfl)
  · exact growN g fls.length rfl (by omega) (fun j u hj => by
      have hjl : j < fls.length * 4 := by rw [← hol]; exact (List.getElem?_eq_some_iff.1 hj).1
      rw [add_plain, blkc h3 j, ← Array.getElem?_toList, ← List.getElem?_take_of_lt hjl, h6]
      exact hj)
end Go.Proofs.Ytpjbgcpieijeaaa.Net
