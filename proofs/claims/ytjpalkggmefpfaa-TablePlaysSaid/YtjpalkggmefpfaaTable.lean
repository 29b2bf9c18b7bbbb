/- A table's small functions, Put, Delete, Get. -/
import Derived.Test.YtjpalkggmefpfaaTabList
set_option linter.unusedVariables false
set_option linter.unusedSimpArgs false
namespace Go.Proofs.Ytjpalkggmefpfaa.Tab
open Go.RowKit Go.Proofs.Ytjpalkggmefpfaa.Mem Go.Proofs.YtjpalkggmefpfaaW.PrintWords Go.Proofs.YtjpalkggmefpfaaW.PrintLast Go.Deep
section
variable {w : World} {g : Nat}
theorem is_any {root : Option Addr} {n : Int} (h : w.heap[g]? = some (tabC root n)) : Calls Try.prog 45 #[.pointer (some ⟨g, 0, none⟩)] w fun e w' => e = .returned (.bool true) ∧ w = w' := by
  have c1 := blkc h
  go_enter Try.func45, Try.ntmps45
  go_wp2
  go_ret
  exact ⟨rfl, rfl⟩
theorem tree_any {root : Option Addr} {n : Int} (h : w.heap[g]? = some (tabC root n)) : Calls Try.prog 44 #[.pointer (some ⟨g, 0, none⟩)] w fun e w' => e = .returned (.pointer root) ∧ w = w' := by
  have H := Lib.hid h
  have c1 := blkc h
  clear h
  go_enter Try.func44, Try.ntmps44
  go_wp2_with fail
  refine (is_any H.out).mono ?_
  rintro e w1 ⟨rfl, rfl⟩
  go_wp2
  go_ret
  exact ⟨rfl, rfl⟩
theorem len_any {l : List Row} (h : TabR w g l) : Calls Try.prog 20 #[.pointer (some ⟨g, 0, none⟩)] w fun e w' => e = .returned (.int .i64 (l.length : Int)) ∧ w = w' := by
  obtain ⟨t, root, h1, h2, h3, rfl⟩ := h
  have H := Lib.hid h1
  have HC := Lib.hid (WF.count h3)
  clear h1
  go_enter Try.func20, Try.ntmps20
  go_wp2_with fail
  refine (tree_any H.out).mono ?_
  rintro e w1 ⟨rfl, rfl⟩
  go_wp2_with fail
  refine (count_any h2).mono ?_
  rintro e w1 ⟨rfl, rfl⟩
  go_wp2
  go_ret
  exact ⟨by show Ending.returned (Value.int .i64 t.count) = _; rw [HC.out], rfl⟩
theorem new_any (w : World) : Calls Try.prog 21 #[] w fun e w' => e = .returned (.pointer (some ⟨w.heap.size, 0, none⟩)) ∧ TabR w' w.heap.size [] ∧ Below w.heap.size w w' := by
  go_enter Try.func21, Try.ntmps21
  go_wp2
  go_ret
  exact ⟨rfl, ⟨.nil, none, blk_new w (tabC none 0), rfl, trivial, rfl⟩, below_alloc (Below.refl _ _) _⟩
theorem bytes_any (r : Row) (w : World) (h : r.bytes ≤ 4611686018427387904) : Calls Try.prog 40 #[r.val] w fun e w' => e = .returned (.int .i64 r.bytes) ∧ Below w.heap.size w w' := by
  unfold Row.bytes at *
  have h1 : 0 ≤ (r.key.size : Int) := by omega
  have h2 : 0 ≤ (r.value.size : Int) := by omega
  go_enter Try.func40, Try.ntmps40
  go_wp2
  go_ret
  exact ⟨rfl, below_alloc (Below.refl _ _) _⟩
end
set_option maxHeartbeats 800000 in
theorem tget_any {w : World} {g : Nat} {l : List Row} (h : TabR w g l) (hu : Up l) (k : ByteArray) : Calls Try.prog 24 #[.pointer (some ⟨g, 0, none⟩), .string k] w fun e w' => e = .returned (.tuple #[((find l k).getD Row.zero).val, .bool (find l k).isSome]) ∧ Below w.heap.size w w' := by
  obtain ⟨t, root, h1, h2, h3, rfl⟩ := h
  have B0 := Lib.hid (below_alloc (Below.refl w.heap.size w) (.cells #[.string ⟨#[]⟩, .string ⟨#[]⟩, .int .i64 0] tRow))
  have H := Lib.hid (blk_below h1 B0.out)
  have HT := Lib.hid (h2.below B0.out)
  have hus := Try.underlying25
  clear h1 h2
  rcases get_list h3 hu k with ⟨hg, hf⟩ | ⟨k0, v, l0, r0, hh, c, hg, hf⟩
  · have HG := Lib.hid hg
    have HF := Lib.hid hf
    clear hg hf
    go_enter Try.func24, Try.ntmps24
    go_wp2_with fail
    refine (tree_any H.out).mono ?_
    rintro e w1 ⟨rfl, rfl⟩
    go_wp2_with fail
    refine (get_any HT.out k).mono ?_
    rintro e w1 ⟨q, rfl, hq, rfl⟩
    rw [HG.out] at hq
    cases hq
    go_wp2
    exact bodyPost_ret (v := .tuple #[Row.zero.val, .bool false]) (by simp [results, Try.results24, go_sem, hus, Row.zero]) rfl ⟨by rw [HF.out]; rfl, by first | exact B0.out | exact (B0.out.drew) | exact below_set B0.out (Nat.le_refl _)⟩
  · have HG := Lib.hid hg
    have HF := Lib.hid hf
    clear hg hf
    go_enter Try.func24, Try.ntmps24
    go_wp2_with fail
    refine (tree_any H.out).mono ?_
    rintro e w1 ⟨rfl, rfl⟩
    go_wp2_with fail
    refine (get_any HT.out k).mono ?_
    rintro e w1 ⟨q, rfl, hq, rfl⟩
    rw [HG.out] at hq
    obtain ⟨gn, pl, pr, rfl, hgn, _, _⟩ := hq
    have hgn : (World.alloc w _).heap[gn]? = some (.cells #[.string k0, .string v.key, .string v.value, .int .i64 v.version, .pointer pl, .pointer pr, .int .i64 hh, .int .i64 c] tN (0, 0)) := hgn
    have cn := blkc hgn
    clear hgn
    go_wp2
    exact bodyPost_ret (v := .tuple #[v.val, .bool true]) (by simp [results, Try.results24, go_sem, hus]) rfl ⟨by rw [HF.out]; rfl, below_alloc (Below.refl _ _) _⟩
theorem kept_set {w W : World} {g : Nat} (h : Kept w W (fun i => i = g)) (j : Nat) (v : Value) : Kept w (W.setCell ⟨g, j, none⟩ v) (fun i => i = g) :=
  h.then_ (S2 := fun i => i = g) ⟨by simp, fun i _ hi => Below.heap_setCell W ⟨g, j, none⟩ _ i hi⟩ (fun k hk => .inl hk)
set_option maxHeartbeats 1600000 in
set_option maxRecDepth 100000 in
theorem put_bad {w w0 : World} {g : Nat} {l : List Row} (r : Row) (h : TabR w g l) (hl : LOk l) (hg : w0.heap.size ≤ g) (HB : Below w0.heap.size w0 w) (hc : r.check ≠ 0) :
    Calls Try.prog 22 #[.pointer (some ⟨g, 0, none⟩), r.val] w fun e w' => e = .returned (.int .i64 r.check) ∧ TabR w' g l ∧ Kept w w' (fun k => k = g) ∧ Below w0.heap.size w0 w' := by
  obtain ⟨t, root, hb0, ht0, wf, rfl⟩ := h
  have hu := hl.up
  have hlen := hl.len
  have hcnt := WF.count wf
  have hsz := hl.size
  have HC := Lib.hid (show (checkRow (r.key, r.value, r.version) != 0) = true by simpa [Row.check] using hc)
  clear hc
  have X0 := Lib.hid (below_alloc (Below.refl w.heap.size w) (.cells #[Value.string r.key, .string r.value, .int .i64 r.version] tRow))
  have P0 := Lib.hid (blk_new w (.cells #[Value.string r.key, .string r.value, .int .i64 r.version] tRow))
  have G0 := Lib.hid (blk_below hb0 X0.out)
  have T0 := Lib.hid (ht0.below X0.out)
  have B0 := Lib.hid (below_then HB HB.size X0.out)
  have K0 := Lib.hid (Kept.of_below X0.out (fun k => k = g))
  have hpg : w.heap.size ≠ g := by have := blk_lt hb0; omega
  have HLN := Lib.hid hlen
  clear hlen hcnt
  have cg := blkc G0.out
  have cp := blkc P0.out
  clear X0 hb0 ht0 HB
  go_enter Try.func22, Try.ntmps22
  go_wp2_with fail
  refine (is_any G0.out).mono ?_
  rintro e w1 ⟨rfl, rfl⟩
  go_wp2_with fail
  clear cg cp
  generalize (World.alloc w _) = W0 at *
  refine (check_any r.key r.value r.version W0).mono ?_
  rintro e w1 ⟨rfl, hb1⟩
  have G1 := Lib.hid (blk_below G0.out hb1)
  have P1 := Lib.hid (blk_below P0.out hb1)
  have T1 := Lib.hid (T0.out.below hb1)
  have B1 := Lib.hid (below_then B0.out B0.out.size hb1)
  have K1 := Lib.hid (K0.out.below hb1)
  clear G0 P0 T0 B0 K0
  clear hb1
  have dc := HC.out
  have cg := blkc G1.out
  have cp := blkc P1.out
  go_wp2_with fail
  go_ret
  exact ⟨rfl, ⟨t, root, G1.out, T1.out, wf, rfl⟩, K1.out, B1.out⟩
set_option maxHeartbeats 1600000 in
set_option maxRecDepth 100000 in
theorem put_full {w w0 : World} {g : Nat} {l : List Row} (r : Row) (h : TabR w g l) (hl : LOk l) (hg : w0.heap.size ≤ g) (HB : Below w0.heap.size w0 w) (hc : r.check = 0) (hf : find l r.key = none) (hn : ¬ l.length < 1048576) :
    Calls Try.prog 22 #[.pointer (some ⟨g, 0, none⟩), r.val] w fun e w' => e = .returned (.int .i64 3) ∧ TabR w' g l ∧ Kept w w' (fun k => k = g) ∧ Below w0.heap.size w0 w' := by
  obtain ⟨t, root, hb0, ht0, wf, rfl⟩ := h
  have hu := hl.up
  have hlen := hl.len
  have hcnt := WF.count wf
  have hsz := hl.size
  have HG := Lib.hid (show t.get r.key = .nil by rcases get_list wf hu r.key with ⟨h1, _⟩ | ⟨_, _, _, _, _, _, _, h2⟩; exact h1; rw [hf] at h2; cases h2)
  have HF := Lib.hid hf
  have HC := Lib.hid (show checkRow (r.key, r.value, r.version) = 0 from hc)
  clear hf
  have dn : decide (1048576 ≤ t.count) = true := by simp; omega
  clear hc hn
  have X0 := Lib.hid (below_alloc (Below.refl w.heap.size w) (.cells #[Value.string r.key, .string r.value, .int .i64 r.version] tRow))
  have P0 := Lib.hid (blk_new w (.cells #[Value.string r.key, .string r.value, .int .i64 r.version] tRow))
  have G0 := Lib.hid (blk_below hb0 X0.out)
  have T0 := Lib.hid (ht0.below X0.out)
  have B0 := Lib.hid (below_then HB HB.size X0.out)
  have K0 := Lib.hid (Kept.of_below X0.out (fun k => k = g))
  have hpg : w.heap.size ≠ g := by have := blk_lt hb0; omega
  have HLN := Lib.hid hlen
  clear hlen hcnt
  have cg := blkc G0.out
  have cp := blkc P0.out
  clear X0 hb0 ht0 HB
  go_enter Try.func22, Try.ntmps22
  go_wp2_with fail
  refine (is_any G0.out).mono ?_
  rintro e w1 ⟨rfl, rfl⟩
  go_wp2_with fail
  clear cg cp
  generalize (World.alloc w _) = W0 at *
  refine (check_any r.key r.value r.version W0).mono ?_
  rintro e w1 ⟨rfl, hb1⟩
  have G1 := Lib.hid (blk_below G0.out hb1)
  have P1 := Lib.hid (blk_below P0.out hb1)
  have T1 := Lib.hid (T0.out.below hb1)
  have B1 := Lib.hid (below_then B0.out B0.out.size hb1)
  have K1 := Lib.hid (K0.out.below hb1)
  clear G0 P0 T0 B0 K0
  clear hb1
  rw [HC.out]
  have cg := blkc G1.out
  have cp := blkc P1.out
  go_wp2_with fail
  clear cg cp
  have G2 := Lib.hid (blk_drew G1.out)
  have P2 := Lib.hid (blk_drew P1.out)
  have T2 := Lib.hid (T1.out.below (below_drew (Below.refl _ _)))
  have B2 := Lib.hid (B1.out.drew)
  have K2 := Lib.hid (K1.out.drew)
  clear G1 P1 T1 B1 K1
  refine start_ (n := 8) (S := fun w' => (∀ o, w'.cell? ⟨g, o, none⟩ = #[Value.pointer root, .int .i64 (size t.list), .bool true][o]?) ∧ (∀ o, w'.cell? ⟨w.heap.size, o, none⟩ = #[Value.string r.key, .string r.value, .int .i64 r.version][o]?)) (ds := []) #[false, false, false, false, false, false, false, false] (by kernel_rfl) rfl rfl ⟨(blkc G2.out), (blkc P2.out)⟩ (fun hHeld => ?_)
  refine pure_ (i := 0) (N := some 15) (v := ?_) (a' := ?_) #[true, false, false, false, false, false, false, false] rfl rfl (by kernel_rfl) (fun _ _ _ h => h) (Or.inl ⟨by rfl, ?_⟩) ?_ ?_
  rotate_left
  · intro w'
    go_simp
    with_reducible rfl
  rotate_left
  · simp only [Act.put, List.setIfInBounds_toArray, List.set_cons_zero, List.set_cons_succ, i64_w, i32_w]
    rfl
  refine pure_ (i := 1) (N := some 16) (v := ?_) (a' := ?_) #[true, true, false, false, false, false, false, false] rfl rfl (by kernel_rfl) (fun _ _ _ h => h) (Or.inl ⟨by rfl, ?_⟩) ?_ ?_
  rotate_left
  · intro w'
    go_simp
    with_reducible rfl
  rotate_left
  · simp only [Act.put, List.setIfInBounds_toArray, List.set_cons_zero, List.set_cons_succ, i64_w, i32_w]
    rfl
  refine pure_ (i := 2) (N := some 17) (v := ?_) (a' := ?_) #[true, true, true, false, false, false, false, false] rfl rfl (by kernel_rfl) (fun _ _ _ h => h) (Or.inl ⟨by rfl, ?_⟩) ?_ ?_
  rotate_left
  · intro w'
    go_simp
    with_reducible rfl
  rotate_left
  · simp only [Act.put, List.setIfInBounds_toArray, List.set_cons_zero, List.set_cons_succ, i64_w, i32_w]
    rfl
  refine pure_ (i := 4) (N := some 19) (v := ?_) (a' := ?_) #[true, true, true, false, true, false, false, false] rfl rfl (by kernel_rfl) (fun _ _ _ h => h) (Or.inl ⟨by rfl, ?_⟩) ?_ ?_
  rotate_left
  · intro w'
    go_simp
    with_reducible rfl
  rotate_left
  · simp only [Act.put, List.setIfInBounds_toArray, List.set_cons_zero, List.set_cons_succ, i64_w, i32_w]
    rfl
  refine take_ (i := 3) (N := some 18) (v := ?_) (a' := ?_) #[true, true, true, true, true, false, false, false] rfl rfl (by kernel_rfl) (fun _ _ _ h => h) (Or.inl ⟨by rfl, ?_⟩) hHeld ?_ ?_
  rotate_left
  · rintro w' ⟨s0, s1⟩
    go_simp
    with_reducible rfl
  rotate_left
  · simp only [Act.put, List.setIfInBounds_toArray, List.set_cons_zero, List.set_cons_succ, i64_w, i32_w]
    rfl
  refine take_ (i := 5) (N := some 20) (v := ?_) (a' := ?_) #[true, true, true, true, true, true, false, false] rfl rfl (by kernel_rfl) (fun _ _ _ h => h) (Or.inl ⟨by rfl, ?_⟩) hHeld ?_ ?_
  rotate_left
  · rintro w' ⟨s0, s1⟩
    go_simp
    with_reducible rfl
  rotate_left
  · simp only [Act.put, List.setIfInBounds_toArray, List.set_cons_zero, List.set_cons_succ, i64_w, i32_w]
    rfl
  refine one_ (i := 6) (N := some 21) #[true, true, true, true, true, true, true, false] rfl rfl (by kernel_rfl) (by decide) (fun K hK => ?_)
  refine goes_ Try.func46 (by kernel_rfl) rfl #[.pointer root, .string r.key] (by rfl) rfl rfl (by simp only [List.map_toArray, List.map_cons, List.map_nil]; rfl) ?_
  with_reducible refine (get_any T2.out r.key).mono ?_
  rintro e w2 ⟨q, rfl, hq, rfl⟩
  refine ⟨_, rfl, ?_⟩
  rw [HG.out] at hq
  cases hq
  refine hK.out _ _ ⟨hHeld.1, hHeld.2⟩ (fun hHeld => ?_)
  clear hK K
  refine norm_ (a' := ?_) ?_ ?_
  rotate_left
  · show Act.put _ (some 21) _ = _
    simp only [Act.put, List.setIfInBounds_toArray, List.set_cons_zero, List.set_cons_succ, i64_w, i32_w]
    rfl
  refine pure_ (i := 7) (N := some 6) (v := ?_) (a' := ?_) #[true, true, true, true, true, true, true, true] rfl rfl (by kernel_rfl) (fun _ _ _ h => h) (Or.inl ⟨by rfl, ?_⟩) ?_ ?_
  rotate_left
  · intro w'
    go_simp
    with_reducible rfl
  rotate_left
  · simp only [Act.put, List.setIfInBounds_toArray, List.set_cons_zero, List.set_cons_succ, i64_w, i32_w]
    rfl
  refine done_ (by kernel_rfl) ?_
  generalize (World.drew w1) = W2 at *
  have cg := blkc G2.out
  have cp := blkc P2.out
  go_wp2_with fail
  refine (count_any T2.out).mono ?_
  rintro e w3 ⟨rfl, rfl⟩
  go_wp2_with fail
  go_ret
  exact ⟨rfl, ⟨t, root, G2.out, T2.out, wf, rfl⟩, K2.out, B2.out⟩
set_option maxHeartbeats 1600000 in
set_option maxRecDepth 100000 in
theorem put_new {w w0 : World} {g : Nat} {l : List Row} (r : Row) (h : TabR w g l) (hl : LOk l) (hg : w0.heap.size ≤ g) (HB : Below w0.heap.size w0 w) (hc : r.check = 0) (hf : find l r.key = none) (hn : l.length < 1048576) :
    Calls Try.prog 22 #[.pointer (some ⟨g, 0, none⟩), r.val] w fun e w' => e = .returned (.int .i64 0) ∧ TabR w' g (below r.key l ++ r :: above r.key l) ∧ Kept w w' (fun k => k = g) ∧ Below w0.heap.size w0 w' := by
  obtain ⟨t, root, hb0, ht0, wf, rfl⟩ := h
  have hu := hl.up
  have hlen := hl.len
  have hcnt := WF.count wf
  have hsz := hl.size
  have HG := Lib.hid (show t.get r.key = .nil by rcases get_list wf hu r.key with ⟨h1, _⟩ | ⟨_, _, _, _, _, _, _, h2⟩; exact h1; rw [hf] at h2; cases h2)
  have HF := Lib.hid hf
  have HC := Lib.hid (show checkRow (r.key, r.value, r.version) = 0 from hc)
  clear hf
  have dn : decide (1048576 ≤ t.count) = false := by simp; omega
  have hrb := (show RowOk r from hc).bytes
  clear hc hn
  have X0 := Lib.hid (below_alloc (Below.refl w.heap.size w) (.cells #[Value.string r.key, .string r.value, .int .i64 r.version] tRow))
  have P0 := Lib.hid (blk_new w (.cells #[Value.string r.key, .string r.value, .int .i64 r.version] tRow))
  have G0 := Lib.hid (blk_below hb0 X0.out)
  have T0 := Lib.hid (ht0.below X0.out)
  have B0 := Lib.hid (below_then HB HB.size X0.out)
  have K0 := Lib.hid (Kept.of_below X0.out (fun k => k = g))
  have hpg : w.heap.size ≠ g := by have := blk_lt hb0; omega
  have HLN := Lib.hid hlen
  clear hlen hcnt
  have cg := blkc G0.out
  have cp := blkc P0.out
  clear X0 hb0 ht0 HB
  go_enter Try.func22, Try.ntmps22
  go_wp2_with fail
  refine (is_any G0.out).mono ?_
  rintro e w1 ⟨rfl, rfl⟩
  go_wp2_with fail
  clear cg cp
  generalize (World.alloc w _) = W0 at *
  refine (check_any r.key r.value r.version W0).mono ?_
  rintro e w1 ⟨rfl, hb1⟩
  have G1 := Lib.hid (blk_below G0.out hb1)
  have P1 := Lib.hid (blk_below P0.out hb1)
  have T1 := Lib.hid (T0.out.below hb1)
  have B1 := Lib.hid (below_then B0.out B0.out.size hb1)
  have K1 := Lib.hid (K0.out.below hb1)
  clear G0 P0 T0 B0 K0
  clear hb1
  have e1 : IntKind.i64.wrap (size t.list + r.bytes) = size t.list + r.bytes := IntWalk.i64_in _ (by omega)
  have f1 : wrap64 (size t.list + r.bytes) = size t.list + r.bytes := by rw [← i64_w]; exact e1
  rw [HC.out]
  have cg := blkc G1.out
  have cp := blkc P1.out
  go_wp2_with fail
  clear cg cp
  have G2 := Lib.hid (blk_drew G1.out)
  have P2 := Lib.hid (blk_drew P1.out)
  have T2 := Lib.hid (T1.out.below (below_drew (Below.refl _ _)))
  have B2 := Lib.hid (B1.out.drew)
  have K2 := Lib.hid (K1.out.drew)
  clear G1 P1 T1 B1 K1
  refine start_ (n := 8) (S := fun w' => (∀ o, w'.cell? ⟨g, o, none⟩ = #[Value.pointer root, .int .i64 (size t.list), .bool true][o]?) ∧ (∀ o, w'.cell? ⟨w.heap.size, o, none⟩ = #[Value.string r.key, .string r.value, .int .i64 r.version][o]?)) (ds := []) #[false, false, false, false, false, false, false, false] (by kernel_rfl) rfl rfl ⟨(blkc G2.out), (blkc P2.out)⟩ (fun hHeld => ?_)
  refine pure_ (i := 0) (N := some 15) (v := ?_) (a' := ?_) #[true, false, false, false, false, false, false, false] rfl rfl (by kernel_rfl) (fun _ _ _ h => h) (Or.inl ⟨by rfl, ?_⟩) ?_ ?_
  rotate_left
  · intro w'
    go_simp
    with_reducible rfl
  rotate_left
  · simp only [Act.put, List.setIfInBounds_toArray, List.set_cons_zero, List.set_cons_succ, i64_w, i32_w]
    rfl
  refine pure_ (i := 1) (N := some 16) (v := ?_) (a' := ?_) #[true, true, false, false, false, false, false, false] rfl rfl (by kernel_rfl) (fun _ _ _ h => h) (Or.inl ⟨by rfl, ?_⟩) ?_ ?_
  rotate_left
  · intro w'
    go_simp
    with_reducible rfl
  rotate_left
  · simp only [Act.put, List.setIfInBounds_toArray, List.set_cons_zero, List.set_cons_succ, i64_w, i32_w]
    rfl
  refine pure_ (i := 2) (N := some 17) (v := ?_) (a' := ?_) #[true, true, true, false, false, false, false, false] rfl rfl (by kernel_rfl) (fun _ _ _ h => h) (Or.inl ⟨by rfl, ?_⟩) ?_ ?_
  rotate_left
  · intro w'
    go_simp
    with_reducible rfl
  rotate_left
  · simp only [Act.put, List.setIfInBounds_toArray, List.set_cons_zero, List.set_cons_succ, i64_w, i32_w]
    rfl
  refine pure_ (i := 4) (N := some 19) (v := ?_) (a' := ?_) #[true, true, true, false, true, false, false, false] rfl rfl (by kernel_rfl) (fun _ _ _ h => h) (Or.inl ⟨by rfl, ?_⟩) ?_ ?_
  rotate_left
  · intro w'
    go_simp
    with_reducible rfl
  rotate_left
  · simp only [Act.put, List.setIfInBounds_toArray, List.set_cons_zero, List.set_cons_succ, i64_w, i32_w]
    rfl
  refine take_ (i := 3) (N := some 18) (v := ?_) (a' := ?_) #[true, true, true, true, true, false, false, false] rfl rfl (by kernel_rfl) (fun _ _ _ h => h) (Or.inl ⟨by rfl, ?_⟩) hHeld ?_ ?_
  rotate_left
  · rintro w' ⟨s0, s1⟩
    go_simp
    with_reducible rfl
  rotate_left
  · simp only [Act.put, List.setIfInBounds_toArray, List.set_cons_zero, List.set_cons_succ, i64_w, i32_w]
    rfl
  refine take_ (i := 5) (N := some 20) (v := ?_) (a' := ?_) #[true, true, true, true, true, true, false, false] rfl rfl (by kernel_rfl) (fun _ _ _ h => h) (Or.inl ⟨by rfl, ?_⟩) hHeld ?_ ?_
  rotate_left
  · rintro w' ⟨s0, s1⟩
    go_simp
    with_reducible rfl
  rotate_left
  · simp only [Act.put, List.setIfInBounds_toArray, List.set_cons_zero, List.set_cons_succ, i64_w, i32_w]
    rfl
  refine one_ (i := 6) (N := some 21) #[true, true, true, true, true, true, true, false] rfl rfl (by kernel_rfl) (by decide) (fun K hK => ?_)
  refine goes_ Try.func46 (by kernel_rfl) rfl #[.pointer root, .string r.key] (by rfl) rfl rfl (by simp only [List.map_toArray, List.map_cons, List.map_nil]; rfl) ?_
  with_reducible refine (get_any T2.out r.key).mono ?_
  rintro e w2 ⟨q, rfl, hq, rfl⟩
  refine ⟨_, rfl, ?_⟩
  rw [HG.out] at hq
  cases hq
  refine hK.out _ _ ⟨hHeld.1, hHeld.2⟩ (fun hHeld => ?_)
  clear hK K
  refine norm_ (a' := ?_) ?_ ?_
  rotate_left
  · show Act.put _ (some 21) _ = _
    simp only [Act.put, List.setIfInBounds_toArray, List.set_cons_zero, List.set_cons_succ, i64_w, i32_w]
    rfl
  refine pure_ (i := 7) (N := some 6) (v := ?_) (a' := ?_) #[true, true, true, true, true, true, true, true] rfl rfl (by kernel_rfl) (fun _ _ _ h => h) (Or.inl ⟨by rfl, ?_⟩) ?_ ?_
  rotate_left
  · intro w'
    go_simp
    with_reducible rfl
  rotate_left
  · simp only [Act.put, List.setIfInBounds_toArray, List.set_cons_zero, List.set_cons_succ, i64_w, i32_w]
    rfl
  refine done_ (by kernel_rfl) ?_
  generalize (World.drew w1) = W2 at *
  have cg := blkc G2.out
  have cp := blkc P2.out
  go_wp2_with fail
  refine (count_any T2.out).mono ?_
  rintro e w3 ⟨rfl, rfl⟩
  go_wp2_with fail
  clear cg cp
  have G3 := Lib.hid (blk_drew G2.out)
  have P3 := Lib.hid (blk_drew P2.out)
  have T3 := Lib.hid (T2.out.below (below_drew (Below.refl _ _)))
  have B3 := Lib.hid (B2.out.drew)
  have K3 := Lib.hid (K2.out.drew)
  clear G2 P2 T2 B2 K2
  refine start_ (n := 10) (S := fun w' => (∀ o, w'.cell? ⟨g, o, none⟩ = #[Value.pointer root, .int .i64 (size t.list), .bool true][o]?) ∧ (∀ o, w'.cell? ⟨w.heap.size, o, none⟩ = #[Value.string r.key, .string r.value, .int .i64 r.version][o]?)) (ds := [9]) #[false, false, false, false, false, false, false, false, false, false] (by kernel_rfl) rfl rfl ⟨(blkc G3.out), (blkc P3.out)⟩ (fun hHeld => ?_)
  refine pure_ (i := 0) (N := some 46) (v := ?_) (a' := ?_) #[true, false, false, false, false, false, false, false, false, false] rfl rfl (by kernel_rfl) (fun _ _ _ h => h) (Or.inl ⟨by rfl, ?_⟩) ?_ ?_
  rotate_left
  · intro w'
    go_simp
    with_reducible rfl
  rotate_left
  · simp only [Act.put, List.setIfInBounds_toArray, List.set_cons_zero, List.set_cons_succ, i64_w, i32_w]
    rfl
  refine pure_ (i := 1) (N := some 47) (v := ?_) (a' := ?_) #[true, true, false, false, false, false, false, false, false, false] rfl rfl (by kernel_rfl) (fun _ _ _ h => h) (Or.inl ⟨by rfl, ?_⟩) ?_ ?_
  rotate_left
  · intro w'
    go_simp
    with_reducible rfl
  rotate_left
  · simp only [Act.put, List.setIfInBounds_toArray, List.set_cons_zero, List.set_cons_succ, i64_w, i32_w]
    rfl
  refine pure_ (i := 2) (N := some 48) (v := ?_) (a' := ?_) #[true, true, true, false, false, false, false, false, false, false] rfl rfl (by kernel_rfl) (fun _ _ _ h => h) (Or.inl ⟨by rfl, ?_⟩) ?_ ?_
  rotate_left
  · intro w'
    go_simp
    with_reducible rfl
  rotate_left
  · simp only [Act.put, List.setIfInBounds_toArray, List.set_cons_zero, List.set_cons_succ, i64_w, i32_w]
    rfl
  refine take_ (i := 3) (N := some 49) (v := ?_) (a' := ?_) #[true, true, true, true, false, false, false, false, false, false] rfl rfl (by kernel_rfl) (fun _ _ _ h => h) (Or.inl ⟨by rfl, ?_⟩) hHeld ?_ ?_
  rotate_left
  · rintro w' ⟨s0, s1⟩
    go_simp
    with_reducible rfl
  rotate_left
  · simp only [Act.put, List.setIfInBounds_toArray, List.set_cons_zero, List.set_cons_succ, i64_w, i32_w]
    rfl
  refine take_ (i := 4) (N := some 50) (v := ?_) (a' := ?_) #[true, true, true, true, true, false, false, false, false, false] rfl rfl (by kernel_rfl) (fun _ _ _ h => h) (Or.inl ⟨by rfl, ?_⟩) hHeld ?_ ?_
  rotate_left
  · rintro w' ⟨s0, s1⟩
    go_simp
    with_reducible rfl
  rotate_left
  · simp only [Act.put, List.setIfInBounds_toArray, List.set_cons_zero, List.set_cons_succ, i64_w, i32_w]
    rfl
  refine one_ (i := 5) (N := some 51) #[true, true, true, true, true, true, false, false, false, false] rfl rfl (by kernel_rfl) (by decide) (fun K hK => ?_)
  refine goes_ Try.func40 (by kernel_rfl) rfl #[r.val] (by rfl) rfl rfl (by simp only [List.map_toArray, List.map_cons, List.map_nil]; rfl) ?_
  with_reducible refine (bytes_any r _ (by omega)).mono ?_
  rintro e w4 ⟨rfl, hb4⟩
  refine ⟨_, rfl, ?_⟩
  have G4 := Lib.hid (blk_below G3.out hb4)
  have P4 := Lib.hid (blk_below P3.out hb4)
  have T4 := Lib.hid (T3.out.below hb4)
  have B4 := Lib.hid (below_then B3.out B3.out.size hb4)
  have K4 := Lib.hid (K3.out.below hb4)
  refine hK.out _ _ ⟨(blkc G4.out), (blkc P4.out)⟩ (fun hHeld => ?_)
  clear hK K
  refine norm_ (a' := ?_) ?_ ?_
  rotate_left
  · show Act.put _ (some 51) _ = _
    simp only [Act.put, List.setIfInBounds_toArray, List.set_cons_zero, List.set_cons_succ, i64_w, i32_w]
    rfl
  refine pure_ (i := 6) (N := some 52) (v := ?_) (a' := ?_) #[true, true, true, true, true, true, true, false, false, false] rfl rfl (by kernel_rfl) (fun _ _ _ h => h) (Or.inl ⟨by rfl, ?_⟩) ?_ ?_
  rotate_left
  · intro w'
    go_simp
    with_reducible rfl
  rotate_left
  · simp only [Act.put, List.setIfInBounds_toArray, List.set_cons_zero, List.set_cons_succ, i64_w, i32_w]
    rfl
  refine pure_ (i := 7) (N := some 53) (v := ?_) (a' := ?_) #[true, true, true, true, true, true, true, true, false, false] rfl rfl (by kernel_rfl) (fun _ _ _ h => h) (Or.inl ⟨by rfl, ?_⟩) ?_ ?_
  rotate_left
  · intro w'
    go_simp
    with_reducible rfl
  rotate_left
  · simp only [Act.put, List.setIfInBounds_toArray, List.set_cons_zero, List.set_cons_succ, i64_w, i32_w]
    rfl
  refine pure_ (i := 8) (N := some 54) (v := ?_) (a' := ?_) #[true, true, true, true, true, true, true, true, true, false] rfl rfl (by kernel_rfl) (fun _ _ _ h => h) (Or.inl ⟨by rfl, ?_⟩) ?_ ?_
  rotate_left
  · intro w'
    go_simp
    with_reducible rfl
  rotate_left
  · simp only [Act.put, List.setIfInBounds_toArray, List.set_cons_zero, List.set_cons_succ, i64_w, i32_w]
    rfl
  refine last_ (i := 9) (N := none) #[true, true, true, true, true, true, true, true, true, true] rfl rfl (by kernel_rfl) (by decide) (fun K hK => ?_)
  have z8 := blkz G4.out 1
  have c8 := blkc G4.out 1
  refine skip_ (w1 := ?_) (by rfl) rfl ?_ ?_
  rotate_left
  · go_simp
    rfl
  refine hK.out _ _ ?_
  clear hK K
  refine done_ (by kernel_rfl) ?_
  have G5 := Lib.hid (show (World.setCell w4 ⟨g, 1, none⟩ (.int .i64 (size t.list + r.bytes))).heap[g]? = some (tabC root (size t.list + r.bytes)) from by have := blk_set G4.out 1 (.int .i64 (size t.list + r.bytes)); simpa using this)
  have P5 := Lib.hid (blk_far (p := ⟨g, 1, none⟩) P4.out hpg (.int .i64 (size t.list + r.bytes)))
  have T5 := Lib.hid (T4.out.set (j := 1) (v := (.int .i64 (size t.list + r.bytes))) G4.out (show tN ≠ tTab by decide))
  have B5 := Lib.hid (below_set (g := g) (j := 1) (v := (.int .i64 (size t.list + r.bytes))) B4.out hg)
  have K5 := Lib.hid (kept_set K4.out 1 (.int .i64 (size t.list + r.bytes)))
  clear G3 G4 P3 P4 T3 T4 B3 B4 K3 K4 hb4
  generalize (World.setCell _ _ _) = W5 at *
  have cg := blkc G5.out
  have cp := blkc P5.out
  go_wp2_with fail
  clear cg cp
  have G6 := Lib.hid (blk_drew G5.out)
  have P6 := Lib.hid (blk_drew P5.out)
  have T6 := Lib.hid (T5.out.below (below_drew (Below.refl _ _)))
  have B6 := Lib.hid (B5.out.drew)
  have K6 := Lib.hid (K5.out.drew)
  clear G5 P5 T5 B5 K5
  refine start_ (n := 12) (S := fun w' => (∀ o, w'.cell? ⟨g, o, none⟩ = #[Value.pointer root, .int .i64 (size t.list + r.bytes), .bool true][o]?) ∧ (∀ o, w'.cell? ⟨w.heap.size, o, none⟩ = #[Value.string r.key, .string r.value, .int .i64 r.version][o]?)) (ds := [11]) #[false, false, false, false, false, false, false, false, false, false, false, false] (by kernel_rfl) rfl rfl ⟨(blkc G6.out), (blkc P6.out)⟩ (fun hHeld => ?_)
  refine pure_ (i := 0) (N := some 55) (v := ?_) (a' := ?_) #[true, false, false, false, false, false, false, false, false, false, false, false] rfl rfl (by kernel_rfl) (fun _ _ _ h => h) (Or.inl ⟨by rfl, ?_⟩) ?_ ?_
  rotate_left
  · intro w'
    go_simp
    with_reducible rfl
  rotate_left
  · simp only [Act.put, List.setIfInBounds_toArray, List.set_cons_zero, List.set_cons_succ, i64_w, i32_w]
    rfl
  refine pure_ (i := 1) (N := some 56) (v := ?_) (a' := ?_) #[true, true, false, false, false, false, false, false, false, false, false, false] rfl rfl (by kernel_rfl) (fun _ _ _ h => h) (Or.inl ⟨by rfl, ?_⟩) ?_ ?_
  rotate_left
  · intro w'
    go_simp
    with_reducible rfl
  rotate_left
  · simp only [Act.put, List.setIfInBounds_toArray, List.set_cons_zero, List.set_cons_succ, i64_w, i32_w]
    rfl
  refine pure_ (i := 2) (N := some 57) (v := ?_) (a' := ?_) #[true, true, true, false, false, false, false, false, false, false, false, false] rfl rfl (by kernel_rfl) (fun _ _ _ h => h) (Or.inl ⟨by rfl, ?_⟩) ?_ ?_
  rotate_left
  · intro w'
    go_simp
    with_reducible rfl
  rotate_left
  · simp only [Act.put, List.setIfInBounds_toArray, List.set_cons_zero, List.set_cons_succ, i64_w, i32_w]
    rfl
  refine pure_ (i := 3) (N := some 58) (v := ?_) (a' := ?_) #[true, true, true, true, false, false, false, false, false, false, false, false] rfl rfl (by kernel_rfl) (fun _ _ _ h => h) (Or.inl ⟨by rfl, ?_⟩) ?_ ?_
  rotate_left
  · intro w'
    go_simp
    with_reducible rfl
  rotate_left
  · simp only [Act.put, List.setIfInBounds_toArray, List.set_cons_zero, List.set_cons_succ, i64_w, i32_w]
    rfl
  refine pure_ (i := 5) (N := some 60) (v := ?_) (a' := ?_) #[true, true, true, true, false, true, false, false, false, false, false, false] rfl rfl (by kernel_rfl) (fun _ _ _ h => h) (Or.inl ⟨by rfl, ?_⟩) ?_ ?_
  rotate_left
  · intro w'
    go_simp
    with_reducible rfl
  rotate_left
  · simp only [Act.put, List.setIfInBounds_toArray, List.set_cons_zero, List.set_cons_succ, i64_w, i32_w]
    rfl
  refine take_ (i := 4) (N := some 59) (v := ?_) (a' := ?_) #[true, true, true, true, true, true, false, false, false, false, false, false] rfl rfl (by kernel_rfl) (fun _ _ _ h => h) (Or.inl ⟨by rfl, ?_⟩) hHeld ?_ ?_
  rotate_left
  · rintro w' ⟨s0, s1⟩
    go_simp
    with_reducible rfl
  rotate_left
  · simp only [Act.put, List.setIfInBounds_toArray, List.set_cons_zero, List.set_cons_succ, i64_w, i32_w]
    rfl
  refine take_ (i := 6) (N := some 61) (v := ?_) (a' := ?_) #[true, true, true, true, true, true, true, false, false, false, false, false] rfl rfl (by kernel_rfl) (fun _ _ _ h => h) (Or.inl ⟨by rfl, ?_⟩) hHeld ?_ ?_
  rotate_left
  · rintro w' ⟨s0, s1⟩
    go_simp
    with_reducible rfl
  rotate_left
  · simp only [Act.put, List.setIfInBounds_toArray, List.set_cons_zero, List.set_cons_succ, i64_w, i32_w]
    rfl
  refine take_ (i := 7) (N := some 62) (v := ?_) (a' := ?_) #[true, true, true, true, true, true, true, true, false, false, false, false] rfl rfl (by kernel_rfl) (fun _ _ _ h => h) (Or.inl ⟨by rfl, ?_⟩) hHeld ?_ ?_
  rotate_left
  · rintro w' ⟨s0, s1⟩
    go_simp
    with_reducible rfl
  rotate_left
  · simp only [Act.put, List.setIfInBounds_toArray, List.set_cons_zero, List.set_cons_succ, i64_w, i32_w]
    rfl
  refine one_ (i := 8) (N := some 63) #[true, true, true, true, true, true, true, true, true, false, false, false] rfl rfl (by kernel_rfl) (by decide) (fun K hK => ?_)
  refine goes_ Try.func47 (by kernel_rfl) rfl #[.pointer root, .string r.key, r.val] (by rfl) rfl rfl (by simp only [List.map_toArray, List.map_cons, List.map_nil]; rfl) ?_
  with_reducible refine (put_any r t _ _ T6.out wf (by have := HLN.out; omega)).mono ?_
  rintro e w7 ⟨p6, rfl, hT, hb7⟩
  refine ⟨_, rfl, ?_⟩
  have G7 := Lib.hid (blk_below G6.out hb7)
  have P7 := Lib.hid (blk_below P6.out hb7)
  have T7 := Lib.hid (T6.out.below hb7)
  have B7 := Lib.hid (below_then B6.out B6.out.size hb7)
  have K7 := Lib.hid (K6.out.below hb7)
  have TT := Lib.hid hT
  refine hK.out _ _ ⟨(blkc G7.out), (blkc P7.out)⟩ (fun hHeld => ?_)
  clear hK K
  refine norm_ (a' := ?_) ?_ ?_
  rotate_left
  · show Act.put _ (some 63) _ = _
    simp only [Act.put, List.setIfInBounds_toArray, List.set_cons_zero, List.set_cons_succ, i64_w, i32_w]
    rfl
  refine pure_ (i := 9) (N := some 64) (v := ?_) (a' := ?_) #[true, true, true, true, true, true, true, true, true, true, false, false] rfl rfl (by kernel_rfl) (fun _ _ _ h => h) (Or.inl ⟨by rfl, ?_⟩) ?_ ?_
  rotate_left
  · intro w'
    go_simp
    with_reducible rfl
  rotate_left
  · simp only [Act.put, List.setIfInBounds_toArray, List.set_cons_zero, List.set_cons_succ, i64_w, i32_w]
    rfl
  refine pure_ (i := 10) (N := some 65) (v := ?_) (a' := ?_) #[true, true, true, true, true, true, true, true, true, true, true, false] rfl rfl (by kernel_rfl) (fun _ _ _ h => h) (Or.inl ⟨by rfl, ?_⟩) ?_ ?_
  rotate_left
  · intro w'
    go_simp
    with_reducible rfl
  rotate_left
  · simp only [Act.put, List.setIfInBounds_toArray, List.set_cons_zero, List.set_cons_succ, i64_w, i32_w]
    rfl
  refine last_ (i := 11) (N := none) #[true, true, true, true, true, true, true, true, true, true, true, true] rfl rfl (by kernel_rfl) (by decide) (fun K hK => ?_)
  have z8 := blkz G7.out 0
  have c8 := blkc G7.out 0
  refine skip_ (w1 := ?_) (by rfl) rfl ?_ ?_
  rotate_left
  · go_simp
    rfl
  refine hK.out _ _ ?_
  clear hK K
  refine done_ (by kernel_rfl) ?_
  have GZ := Lib.hid (show (World.setCell w7 ⟨g, 0, none⟩ (.pointer p6)).heap[g]? = some (tabC p6 (size t.list + r.bytes)) from by have := blk_set G7.out 0 (.pointer p6); simpa using this)
  have TZ := Lib.hid (TT.out.set (j := 0) (v := (.pointer p6)) G7.out (show tN ≠ tTab by decide))
  have BZ := Lib.hid (below_set (g := g) (j := 0) (v := (.pointer p6)) B7.out hg)
  have KZ := Lib.hid (kept_set K7.out 0 (.pointer p6))
  generalize (World.setCell _ _ _) = WZ at *
  go_wp2_with fail
  go_ret
  exact ⟨rfl, ⟨t.put r.key r, p6, by rw [size_put_none hu HF.out]; exact GZ.out, TZ.out, WF.put wf, put_list wf hu r⟩, KZ.out, BZ.out⟩
set_option maxHeartbeats 1600000 in
set_option maxRecDepth 100000 in
theorem put_old {w w0 : World} {g : Nat} {l : List Row} (r : Row) (h : TabR w g l) (hl : LOk l) (hg : w0.heap.size ≤ g) (HB : Below w0.heap.size w0 w) (hc : r.check = 0) {ol : Row} (hf : find l r.key = some ol) :
    Calls Try.prog 22 #[.pointer (some ⟨g, 0, none⟩), r.val] w fun e w' => e = .returned (.int .i64 0) ∧ TabR w' g (below r.key l ++ r :: above r.key l) ∧ Kept w w' (fun k => k = g) ∧ Below w0.heap.size w0 w' := by
  obtain ⟨t, root, hb0, ht0, wf, rfl⟩ := h
  have hu := hl.up
  have hlen := hl.len
  have hcnt := WF.count wf
  have hsz := hl.size
  obtain ⟨k0, l0, r0, hh, c, HG_⟩ : ∃ k0 l0 r0 hh c, t.get r.key = .node k0 ol l0 r0 hh c := by rcases get_list wf hu r.key with ⟨_, h2⟩ | ⟨k0, v, l0, r0, hh, c, h1, h2⟩; rw [hf] at h2; cases h2; rw [hf] at h2; cases h2; exact ⟨_, _, _, _, _, h1⟩
  have HG := Lib.hid HG_
  have HF := Lib.hid hf
  have HC := Lib.hid (show checkRow (r.key, r.value, r.version) = 0 from hc)
  have hob := (hl.rows ol (find_key hf).2).bytes
  clear hf HG_
  have hrb := (show RowOk r from hc).bytes
  clear hc
  have X0 := Lib.hid (below_alloc (Below.refl w.heap.size w) (.cells #[Value.string r.key, .string r.value, .int .i64 r.version] tRow))
  have P0 := Lib.hid (blk_new w (.cells #[Value.string r.key, .string r.value, .int .i64 r.version] tRow))
  have G0 := Lib.hid (blk_below hb0 X0.out)
  have T0 := Lib.hid (ht0.below X0.out)
  have B0 := Lib.hid (below_then HB HB.size X0.out)
  have K0 := Lib.hid (Kept.of_below X0.out (fun k => k = g))
  have hpg : w.heap.size ≠ g := by have := blk_lt hb0; omega
  have HLN := Lib.hid hlen
  clear hlen hcnt
  have cg := blkc G0.out
  have cp := blkc P0.out
  clear X0 hb0 ht0 HB
  go_enter Try.func22, Try.ntmps22
  go_wp2_with fail
  refine (is_any G0.out).mono ?_
  rintro e w1 ⟨rfl, rfl⟩
  go_wp2_with fail
  clear cg cp
  generalize (World.alloc w _) = W0 at *
  refine (check_any r.key r.value r.version W0).mono ?_
  rintro e w1 ⟨rfl, hb1⟩
  have G1 := Lib.hid (blk_below G0.out hb1)
  have P1 := Lib.hid (blk_below P0.out hb1)
  have T1 := Lib.hid (T0.out.below hb1)
  have B1 := Lib.hid (below_then B0.out B0.out.size hb1)
  have K1 := Lib.hid (K0.out.below hb1)
  clear G0 P0 T0 B0 K0
  clear hb1
  have e1 : IntKind.i64.wrap (size t.list - ol.bytes) = size t.list - ol.bytes := IntWalk.i64_in _ (by omega)
  have f1 : wrap64 (size t.list - ol.bytes) = size t.list - ol.bytes := by rw [← i64_w]; exact e1
  have e2 : IntKind.i64.wrap (size t.list - ol.bytes + r.bytes) = size t.list - ol.bytes + r.bytes := IntWalk.i64_in _ (by omega)
  have f2 : wrap64 (size t.list - ol.bytes + r.bytes) = size t.list - ol.bytes + r.bytes := by rw [← i64_w]; exact e2
  rw [HC.out]
  have cg := blkc G1.out
  have cp := blkc P1.out
  go_wp2_with fail
  clear cg cp
  have G2 := Lib.hid (blk_drew G1.out)
  have P2 := Lib.hid (blk_drew P1.out)
  have T2 := Lib.hid (T1.out.below (below_drew (Below.refl _ _)))
  have B2 := Lib.hid (B1.out.drew)
  have K2 := Lib.hid (K1.out.drew)
  clear G1 P1 T1 B1 K1
  refine start_ (n := 8) (S := fun w' => (∀ o, w'.cell? ⟨g, o, none⟩ = #[Value.pointer root, .int .i64 (size t.list), .bool true][o]?) ∧ (∀ o, w'.cell? ⟨w.heap.size, o, none⟩ = #[Value.string r.key, .string r.value, .int .i64 r.version][o]?)) (ds := []) #[false, false, false, false, false, false, false, false] (by kernel_rfl) rfl rfl ⟨(blkc G2.out), (blkc P2.out)⟩ (fun hHeld => ?_)
  refine pure_ (i := 0) (N := some 15) (v := ?_) (a' := ?_) #[true, false, false, false, false, false, false, false] rfl rfl (by kernel_rfl) (fun _ _ _ h => h) (Or.inl ⟨by rfl, ?_⟩) ?_ ?_
  rotate_left
  · intro w'
    go_simp
    with_reducible rfl
  rotate_left
  · simp only [Act.put, List.setIfInBounds_toArray, List.set_cons_zero, List.set_cons_succ, i64_w, i32_w]
    rfl
  refine pure_ (i := 1) (N := some 16) (v := ?_) (a' := ?_) #[true, true, false, false, false, false, false, false] rfl rfl (by kernel_rfl) (fun _ _ _ h => h) (Or.inl ⟨by rfl, ?_⟩) ?_ ?_
  rotate_left
  · intro w'
    go_simp
    with_reducible rfl
  rotate_left
  · simp only [Act.put, List.setIfInBounds_toArray, List.set_cons_zero, List.set_cons_succ, i64_w, i32_w]
    rfl
  refine pure_ (i := 2) (N := some 17) (v := ?_) (a' := ?_) #[true, true, true, false, false, false, false, false] rfl rfl (by kernel_rfl) (fun _ _ _ h => h) (Or.inl ⟨by rfl, ?_⟩) ?_ ?_
  rotate_left
  · intro w'
    go_simp
    with_reducible rfl
  rotate_left
  · simp only [Act.put, List.setIfInBounds_toArray, List.set_cons_zero, List.set_cons_succ, i64_w, i32_w]
    rfl
  refine pure_ (i := 4) (N := some 19) (v := ?_) (a' := ?_) #[true, true, true, false, true, false, false, false] rfl rfl (by kernel_rfl) (fun _ _ _ h => h) (Or.inl ⟨by rfl, ?_⟩) ?_ ?_
  rotate_left
  · intro w'
    go_simp
    with_reducible rfl
  rotate_left
  · simp only [Act.put, List.setIfInBounds_toArray, List.set_cons_zero, List.set_cons_succ, i64_w, i32_w]
    rfl
  refine take_ (i := 3) (N := some 18) (v := ?_) (a' := ?_) #[true, true, true, true, true, false, false, false] rfl rfl (by kernel_rfl) (fun _ _ _ h => h) (Or.inl ⟨by rfl, ?_⟩) hHeld ?_ ?_
  rotate_left
  · rintro w' ⟨s0, s1⟩
    go_simp
    with_reducible rfl
  rotate_left
  · simp only [Act.put, List.setIfInBounds_toArray, List.set_cons_zero, List.set_cons_succ, i64_w, i32_w]
    rfl
  refine take_ (i := 5) (N := some 20) (v := ?_) (a' := ?_) #[true, true, true, true, true, true, false, false] rfl rfl (by kernel_rfl) (fun _ _ _ h => h) (Or.inl ⟨by rfl, ?_⟩) hHeld ?_ ?_
  rotate_left
  · rintro w' ⟨s0, s1⟩
    go_simp
    with_reducible rfl
  rotate_left
  · simp only [Act.put, List.setIfInBounds_toArray, List.set_cons_zero, List.set_cons_succ, i64_w, i32_w]
    rfl
  refine one_ (i := 6) (N := some 21) #[true, true, true, true, true, true, true, false] rfl rfl (by kernel_rfl) (by decide) (fun K hK => ?_)
  refine goes_ Try.func46 (by kernel_rfl) rfl #[.pointer root, .string r.key] (by rfl) rfl rfl (by simp only [List.map_toArray, List.map_cons, List.map_nil]; rfl) ?_
  with_reducible refine (get_any T2.out r.key).mono ?_
  rintro e w2 ⟨q, rfl, hq, rfl⟩
  refine ⟨_, rfl, ?_⟩
  rw [HG.out] at hq
  obtain ⟨gn, pl, pr, rfl, hgn, _, _⟩ := hq
  have N2_ := Lib.hid (show (World.drew w1).heap[gn]? = some (.cells #[Value.string k0, .string ol.key, .string ol.value, .int .i64 ol.version, .pointer pl, .pointer pr, .int .i64 hh, .int .i64 c] tN (0, 0)) from hgn)
  clear hgn
  refine hK.out _ _ ⟨hHeld.1, hHeld.2⟩ (fun hHeld => ?_)
  clear hK K
  refine norm_ (a' := ?_) ?_ ?_
  rotate_left
  · show Act.put _ (some 21) _ = _
    simp only [Act.put, List.setIfInBounds_toArray, List.set_cons_zero, List.set_cons_succ, i64_w, i32_w]
    rfl
  refine pure_ (i := 7) (N := some 6) (v := ?_) (a' := ?_) #[true, true, true, true, true, true, true, true] rfl rfl (by kernel_rfl) (fun _ _ _ h => h) (Or.inl ⟨by rfl, ?_⟩) ?_ ?_
  rotate_left
  · intro w'
    go_simp
    with_reducible rfl
  rotate_left
  · simp only [Act.put, List.setIfInBounds_toArray, List.set_cons_zero, List.set_cons_succ, i64_w, i32_w]
    rfl
  refine done_ (by kernel_rfl) ?_
  generalize (World.drew w1) = W2 at *
  have N2 := N2_
  clear N2_
  have cn := blkc N2.out
  have cg := blkc G2.out
  have cp := blkc P2.out
  go_wp2_with fail
  clear cg cp cn
  have G3 := Lib.hid (blk_drew G2.out)
  have P3 := Lib.hid (blk_drew P2.out)
  have T3 := Lib.hid (T2.out.below (below_drew (Below.refl _ _)))
  have B3 := Lib.hid (B2.out.drew)
  have K3 := Lib.hid (K2.out.drew)
  clear G2 P2 T2 B2 K2
  refine start_ (n := 13) (S := fun w' => (∀ o, w'.cell? ⟨g, o, none⟩ = #[Value.pointer root, .int .i64 (size t.list), .bool true][o]?) ∧ (∀ o, w'.cell? ⟨gn, o, none⟩ = #[Value.string k0, .string ol.key, .string ol.value, .int .i64 ol.version, .pointer pl, .pointer pr, .int .i64 hh, .int .i64 c][o]?)) (ds := [12]) #[false, false, false, false, false, false, false, false, false, false, false, false, false] (by kernel_rfl) rfl rfl ⟨(blkc G3.out), (blkc (blk_below N2.out (below_drew (Below.refl _ _))))⟩ (fun hHeld => ?_)
  refine pure_ (i := 0) (N := some 34) (v := ?_) (a' := ?_) #[true, false, false, false, false, false, false, false, false, false, false, false, false] rfl rfl (by kernel_rfl) (fun _ _ _ h => h) (Or.inl ⟨by rfl, ?_⟩) ?_ ?_
  rotate_left
  · intro w'
    go_simp
    with_reducible rfl
  rotate_left
  · simp only [Act.put, List.setIfInBounds_toArray, List.set_cons_zero, List.set_cons_succ, i64_w, i32_w]
    rfl
  refine pure_ (i := 1) (N := some 35) (v := ?_) (a' := ?_) #[true, true, false, false, false, false, false, false, false, false, false, false, false] rfl rfl (by kernel_rfl) (fun _ _ _ h => h) (Or.inl ⟨by rfl, ?_⟩) ?_ ?_
  rotate_left
  · intro w'
    go_simp
    with_reducible rfl
  rotate_left
  · simp only [Act.put, List.setIfInBounds_toArray, List.set_cons_zero, List.set_cons_succ, i64_w, i32_w]
    rfl
  refine pure_ (i := 2) (N := some 36) (v := ?_) (a' := ?_) #[true, true, true, false, false, false, false, false, false, false, false, false, false] rfl rfl (by kernel_rfl) (fun _ _ _ h => h) (Or.inl ⟨by rfl, ?_⟩) ?_ ?_
  rotate_left
  · intro w'
    go_simp
    with_reducible rfl
  rotate_left
  · simp only [Act.put, List.setIfInBounds_toArray, List.set_cons_zero, List.set_cons_succ, i64_w, i32_w]
    rfl
  refine pure_ (i := 4) (N := some 38) (v := ?_) (a' := ?_) #[true, true, true, false, true, false, false, false, false, false, false, false, false] rfl rfl (by kernel_rfl) (fun _ _ _ h => h) (Or.inl ⟨by rfl, ?_⟩) ?_ ?_
  rotate_left
  · intro w'
    go_simp
    with_reducible rfl
  rotate_left
  · simp only [Act.put, List.setIfInBounds_toArray, List.set_cons_zero, List.set_cons_succ, i64_w, i32_w]
    rfl
  refine pure_ (i := 5) (N := some 39) (v := ?_) (a' := ?_) #[true, true, true, false, true, true, false, false, false, false, false, false, false] rfl rfl (by kernel_rfl) (fun _ _ _ h => h) (Or.inl ⟨by rfl, ?_⟩) ?_ ?_
  rotate_left
  · intro w'
    go_simp
    with_reducible rfl
  rotate_left
  · simp only [Act.put, List.setIfInBounds_toArray, List.set_cons_zero, List.set_cons_succ, i64_w, i32_w]
    rfl
  refine pure_ (i := 6) (N := some 40) (v := ?_) (a' := ?_) #[true, true, true, false, true, true, true, false, false, false, false, false, false] rfl rfl (by kernel_rfl) (fun _ _ _ h => h) (Or.inl ⟨by rfl, ?_⟩) ?_ ?_
  rotate_left
  · intro w'
    go_simp
    with_reducible rfl
  rotate_left
  · simp only [Act.put, List.setIfInBounds_toArray, List.set_cons_zero, List.set_cons_succ, i64_w, i32_w]
    rfl
  refine take_ (i := 3) (N := some 37) (v := ?_) (a' := ?_) #[true, true, true, true, true, true, true, false, false, false, false, false, false] rfl rfl (by kernel_rfl) (fun _ _ _ h => h) (Or.inl ⟨by rfl, ?_⟩) hHeld ?_ ?_
  rotate_left
  · rintro w' ⟨s0, s1⟩
    go_simp
    with_reducible rfl
  rotate_left
  · simp only [Act.put, List.setIfInBounds_toArray, List.set_cons_zero, List.set_cons_succ, i64_w, i32_w]
    rfl
  refine take_ (i := 7) (N := some 41) (v := ?_) (a' := ?_) #[true, true, true, true, true, true, true, true, false, false, false, false, false] rfl rfl (by kernel_rfl) (fun _ _ _ h => h) (Or.inl ⟨by rfl, ?_⟩) hHeld ?_ ?_
  rotate_left
  · rintro w' ⟨s0, s1⟩
    go_simp
    with_reducible rfl
  rotate_left
  · simp only [Act.put, List.setIfInBounds_toArray, List.set_cons_zero, List.set_cons_succ, i64_w, i32_w]
    rfl
  refine one_ (i := 8) (N := some 42) #[true, true, true, true, true, true, true, true, true, false, false, false, false] rfl rfl (by kernel_rfl) (by decide) (fun K hK => ?_)
  refine goes_ Try.func40 (by kernel_rfl) rfl #[ol.val] (by rfl) rfl rfl (by simp only [List.map_toArray, List.map_cons, List.map_nil]; rfl) ?_
  with_reducible refine (bytes_any ol _ (by omega)).mono ?_
  rintro e w4 ⟨rfl, hb4⟩
  refine ⟨_, rfl, ?_⟩
  have G4 := Lib.hid (blk_below G3.out hb4)
  have P4 := Lib.hid (blk_below P3.out hb4)
  have T4 := Lib.hid (T3.out.below hb4)
  have B4 := Lib.hid (below_then B3.out B3.out.size hb4)
  have K4 := Lib.hid (K3.out.below hb4)
  refine hK.out _ _ ⟨(blkc G4.out), (blkc (blk_below (blk_below N2.out (below_drew (Below.refl _ _))) hb4))⟩ (fun hHeld => ?_)
  clear hK K
  refine norm_ (a' := ?_) ?_ ?_
  rotate_left
  · show Act.put _ (some 42) _ = _
    simp only [Act.put, List.setIfInBounds_toArray, List.set_cons_zero, List.set_cons_succ, i64_w, i32_w]
    rfl
  refine pure_ (i := 9) (N := some 43) (v := ?_) (a' := ?_) #[true, true, true, true, true, true, true, true, true, true, false, false, false] rfl rfl (by kernel_rfl) (fun _ _ _ h => h) (Or.inl ⟨by rfl, ?_⟩) ?_ ?_
  rotate_left
  · intro w'
    go_simp
    with_reducible rfl
  rotate_left
  · simp only [Act.put, List.setIfInBounds_toArray, List.set_cons_zero, List.set_cons_succ, i64_w, i32_w]
    rfl
  refine pure_ (i := 10) (N := some 44) (v := ?_) (a' := ?_) #[true, true, true, true, true, true, true, true, true, true, true, false, false] rfl rfl (by kernel_rfl) (fun _ _ _ h => h) (Or.inl ⟨by rfl, ?_⟩) ?_ ?_
  rotate_left
  · intro w'
    go_simp
    with_reducible rfl
  rotate_left
  · simp only [Act.put, List.setIfInBounds_toArray, List.set_cons_zero, List.set_cons_succ, i64_w, i32_w]
    rfl
  refine pure_ (i := 11) (N := some 45) (v := ?_) (a' := ?_) #[true, true, true, true, true, true, true, true, true, true, true, true, false] rfl rfl (by kernel_rfl) (fun _ _ _ h => h) (Or.inl ⟨by rfl, ?_⟩) ?_ ?_
  rotate_left
  · intro w'
    go_simp
    with_reducible rfl
  rotate_left
  · simp only [Act.put, List.setIfInBounds_toArray, List.set_cons_zero, List.set_cons_succ, i64_w, i32_w]
    rfl
  refine last_ (i := 12) (N := none) #[true, true, true, true, true, true, true, true, true, true, true, true, true] rfl rfl (by kernel_rfl) (by decide) (fun K hK => ?_)
  have z8 := blkz G4.out 1
  have c8 := blkc G4.out 1
  refine skip_ (w1 := ?_) (by rfl) rfl ?_ ?_
  rotate_left
  · go_simp
    rfl
  refine hK.out _ _ ?_
  clear hK K
  refine done_ (by kernel_rfl) ?_
  have G5 := Lib.hid (show (World.setCell w4 ⟨g, 1, none⟩ (.int .i64 (size t.list - ol.bytes))).heap[g]? = some (tabC root (size t.list - ol.bytes)) from by have := blk_set G4.out 1 (.int .i64 (size t.list - ol.bytes)); simpa using this)
  have P5 := Lib.hid (blk_far (p := ⟨g, 1, none⟩) P4.out hpg (.int .i64 (size t.list - ol.bytes)))
  have T5 := Lib.hid (T4.out.set (j := 1) (v := (.int .i64 (size t.list - ol.bytes))) G4.out (show tN ≠ tTab by decide))
  have B5 := Lib.hid (below_set (g := g) (j := 1) (v := (.int .i64 (size t.list - ol.bytes))) B4.out hg)
  have K5 := Lib.hid (kept_set K4.out 1 (.int .i64 (size t.list - ol.bytes)))
  clear G3 G4 P3 P4 T3 T4 B3 B4 K3 K4 hb4
  generalize (World.setCell _ _ _) = W5 at *
  have cg := blkc G5.out
  have cp := blkc P5.out
  go_wp2_with fail
  clear cg cp
  have G6 := Lib.hid (blk_drew G5.out)
  have P6 := Lib.hid (blk_drew P5.out)
  have T6 := Lib.hid (T5.out.below (below_drew (Below.refl _ _)))
  have B6 := Lib.hid (B5.out.drew)
  have K6 := Lib.hid (K5.out.drew)
  clear G5 P5 T5 B5 K5
  refine start_ (n := 10) (S := fun w' => (∀ o, w'.cell? ⟨g, o, none⟩ = #[Value.pointer root, .int .i64 (size t.list - ol.bytes), .bool true][o]?) ∧ (∀ o, w'.cell? ⟨w.heap.size, o, none⟩ = #[Value.string r.key, .string r.value, .int .i64 r.version][o]?)) (ds := [9]) #[false, false, false, false, false, false, false, false, false, false] (by kernel_rfl) rfl rfl ⟨(blkc G6.out), (blkc P6.out)⟩ (fun hHeld => ?_)
  refine pure_ (i := 0) (N := some 46) (v := ?_) (a' := ?_) #[true, false, false, false, false, false, false, false, false, false] rfl rfl (by kernel_rfl) (fun _ _ _ h => h) (Or.inl ⟨by rfl, ?_⟩) ?_ ?_
  rotate_left
  · intro w'
    go_simp
    with_reducible rfl
  rotate_left
  · simp only [Act.put, List.setIfInBounds_toArray, List.set_cons_zero, List.set_cons_succ, i64_w, i32_w]
    rfl
  refine pure_ (i := 1) (N := some 47) (v := ?_) (a' := ?_) #[true, true, false, false, false, false, false, false, false, false] rfl rfl (by kernel_rfl) (fun _ _ _ h => h) (Or.inl ⟨by rfl, ?_⟩) ?_ ?_
  rotate_left
  · intro w'
    go_simp
    with_reducible rfl
  rotate_left
  · simp only [Act.put, List.setIfInBounds_toArray, List.set_cons_zero, List.set_cons_succ, i64_w, i32_w]
    rfl
  refine pure_ (i := 2) (N := some 48) (v := ?_) (a' := ?_) #[true, true, true, false, false, false, false, false, false, false] rfl rfl (by kernel_rfl) (fun _ _ _ h => h) (Or.inl ⟨by rfl, ?_⟩) ?_ ?_
  rotate_left
  · intro w'
    go_simp
    with_reducible rfl
  rotate_left
  · simp only [Act.put, List.setIfInBounds_toArray, List.set_cons_zero, List.set_cons_succ, i64_w, i32_w]
    rfl
  refine take_ (i := 3) (N := some 49) (v := ?_) (a' := ?_) #[true, true, true, true, false, false, false, false, false, false] rfl rfl (by kernel_rfl) (fun _ _ _ h => h) (Or.inl ⟨by rfl, ?_⟩) hHeld ?_ ?_
  rotate_left
  · rintro w' ⟨s0, s1⟩
    go_simp
    with_reducible rfl
  rotate_left
  · simp only [Act.put, List.setIfInBounds_toArray, List.set_cons_zero, List.set_cons_succ, i64_w, i32_w]
    rfl
  refine take_ (i := 4) (N := some 50) (v := ?_) (a' := ?_) #[true, true, true, true, true, false, false, false, false, false] rfl rfl (by kernel_rfl) (fun _ _ _ h => h) (Or.inl ⟨by rfl, ?_⟩) hHeld ?_ ?_
  rotate_left
  · rintro w' ⟨s0, s1⟩
    go_simp
    with_reducible rfl
  rotate_left
  · simp only [Act.put, List.setIfInBounds_toArray, List.set_cons_zero, List.set_cons_succ, i64_w, i32_w]
    rfl
  refine one_ (i := 5) (N := some 51) #[true, true, true, true, true, true, false, false, false, false] rfl rfl (by kernel_rfl) (by decide) (fun K hK => ?_)
  refine goes_ Try.func40 (by kernel_rfl) rfl #[r.val] (by rfl) rfl rfl (by simp only [List.map_toArray, List.map_cons, List.map_nil]; rfl) ?_
  with_reducible refine (bytes_any r _ (by omega)).mono ?_
  rintro e w7 ⟨rfl, hb7⟩
  refine ⟨_, rfl, ?_⟩
  have G7 := Lib.hid (blk_below G6.out hb7)
  have P7 := Lib.hid (blk_below P6.out hb7)
  have T7 := Lib.hid (T6.out.below hb7)
  have B7 := Lib.hid (below_then B6.out B6.out.size hb7)
  have K7 := Lib.hid (K6.out.below hb7)
  refine hK.out _ _ ⟨(blkc G7.out), (blkc P7.out)⟩ (fun hHeld => ?_)
  clear hK K
  refine norm_ (a' := ?_) ?_ ?_
  rotate_left
  · show Act.put _ (some 51) _ = _
    simp only [Act.put, List.setIfInBounds_toArray, List.set_cons_zero, List.set_cons_succ, i64_w, i32_w]
    rfl
  refine pure_ (i := 6) (N := some 52) (v := ?_) (a' := ?_) #[true, true, true, true, true, true, true, false, false, false] rfl rfl (by kernel_rfl) (fun _ _ _ h => h) (Or.inl ⟨by rfl, ?_⟩) ?_ ?_
  rotate_left
  · intro w'
    go_simp
    with_reducible rfl
  rotate_left
  · simp only [Act.put, List.setIfInBounds_toArray, List.set_cons_zero, List.set_cons_succ, i64_w, i32_w]
    rfl
  refine pure_ (i := 7) (N := some 53) (v := ?_) (a' := ?_) #[true, true, true, true, true, true, true, true, false, false] rfl rfl (by kernel_rfl) (fun _ _ _ h => h) (Or.inl ⟨by rfl, ?_⟩) ?_ ?_
  rotate_left
  · intro w'
    go_simp
    with_reducible rfl
  rotate_left
  · simp only [Act.put, List.setIfInBounds_toArray, List.set_cons_zero, List.set_cons_succ, i64_w, i32_w]
    rfl
  refine pure_ (i := 8) (N := some 54) (v := ?_) (a' := ?_) #[true, true, true, true, true, true, true, true, true, false] rfl rfl (by kernel_rfl) (fun _ _ _ h => h) (Or.inl ⟨by rfl, ?_⟩) ?_ ?_
  rotate_left
  · intro w'
    go_simp
    with_reducible rfl
  rotate_left
  · simp only [Act.put, List.setIfInBounds_toArray, List.set_cons_zero, List.set_cons_succ, i64_w, i32_w]
    rfl
  refine last_ (i := 9) (N := none) #[true, true, true, true, true, true, true, true, true, true] rfl rfl (by kernel_rfl) (by decide) (fun K hK => ?_)
  have z8 := blkz G7.out 1
  have c8 := blkc G7.out 1
  refine skip_ (w1 := ?_) (by rfl) rfl ?_ ?_
  rotate_left
  · go_simp
    rfl
  refine hK.out _ _ ?_
  clear hK K
  refine done_ (by kernel_rfl) ?_
  have G8 := Lib.hid (show (World.setCell w7 ⟨g, 1, none⟩ (.int .i64 (size t.list - ol.bytes + r.bytes))).heap[g]? = some (tabC root (size t.list - ol.bytes + r.bytes)) from by have := blk_set G7.out 1 (.int .i64 (size t.list - ol.bytes + r.bytes)); simpa using this)
  have P8 := Lib.hid (blk_far (p := ⟨g, 1, none⟩) P7.out hpg (.int .i64 (size t.list - ol.bytes + r.bytes)))
  have T8 := Lib.hid (T7.out.set (j := 1) (v := (.int .i64 (size t.list - ol.bytes + r.bytes))) G7.out (show tN ≠ tTab by decide))
  have B8 := Lib.hid (below_set (g := g) (j := 1) (v := (.int .i64 (size t.list - ol.bytes + r.bytes))) B7.out hg)
  have K8 := Lib.hid (kept_set K7.out 1 (.int .i64 (size t.list - ol.bytes + r.bytes)))
  clear G6 G7 P6 P7 T6 T7 B6 B7 K6 K7 hb7
  generalize (World.setCell _ _ _) = W8 at *
  have cg := blkc G8.out
  have cp := blkc P8.out
  go_wp2_with fail
  clear cg cp
  have G9 := Lib.hid (blk_drew G8.out)
  have P9 := Lib.hid (blk_drew P8.out)
  have T9 := Lib.hid (T8.out.below (below_drew (Below.refl _ _)))
  have B9 := Lib.hid (B8.out.drew)
  have K9 := Lib.hid (K8.out.drew)
  clear G8 P8 T8 B8 K8
  refine start_ (n := 12) (S := fun w' => (∀ o, w'.cell? ⟨g, o, none⟩ = #[Value.pointer root, .int .i64 (size t.list - ol.bytes + r.bytes), .bool true][o]?) ∧ (∀ o, w'.cell? ⟨w.heap.size, o, none⟩ = #[Value.string r.key, .string r.value, .int .i64 r.version][o]?)) (ds := [11]) #[false, false, false, false, false, false, false, false, false, false, false, false] (by kernel_rfl) rfl rfl ⟨(blkc G9.out), (blkc P9.out)⟩ (fun hHeld => ?_)
  refine pure_ (i := 0) (N := some 55) (v := ?_) (a' := ?_) #[true, false, false, false, false, false, false, false, false, false, false, false] rfl rfl (by kernel_rfl) (fun _ _ _ h => h) (Or.inl ⟨by rfl, ?_⟩) ?_ ?_
  rotate_left
  · intro w'
    go_simp
    with_reducible rfl
  rotate_left
  · simp only [Act.put, List.setIfInBounds_toArray, List.set_cons_zero, List.set_cons_succ, i64_w, i32_w]
    rfl
  refine pure_ (i := 1) (N := some 56) (v := ?_) (a' := ?_) #[true, true, false, false, false, false, false, false, false, false, false, false] rfl rfl (by kernel_rfl) (fun _ _ _ h => h) (Or.inl ⟨by rfl, ?_⟩) ?_ ?_
  rotate_left
  · intro w'
    go_simp
    with_reducible rfl
  rotate_left
  · simp only [Act.put, List.setIfInBounds_toArray, List.set_cons_zero, List.set_cons_succ, i64_w, i32_w]
    rfl
  refine pure_ (i := 2) (N := some 57) (v := ?_) (a' := ?_) #[true, true, true, false, false, false, false, false, false, false, false, false] rfl rfl (by kernel_rfl) (fun _ _ _ h => h) (Or.inl ⟨by rfl, ?_⟩) ?_ ?_
  rotate_left
  · intro w'
    go_simp
    with_reducible rfl
  rotate_left
  · simp only [Act.put, List.setIfInBounds_toArray, List.set_cons_zero, List.set_cons_succ, i64_w, i32_w]
    rfl
  refine pure_ (i := 3) (N := some 58) (v := ?_) (a' := ?_) #[true, true, true, true, false, false, false, false, false, false, false, false] rfl rfl (by kernel_rfl) (fun _ _ _ h => h) (Or.inl ⟨by rfl, ?_⟩) ?_ ?_
  rotate_left
  · intro w'
    go_simp
    with_reducible rfl
  rotate_left
  · simp only [Act.put, List.setIfInBounds_toArray, List.set_cons_zero, List.set_cons_succ, i64_w, i32_w]
    rfl
  refine pure_ (i := 5) (N := some 60) (v := ?_) (a' := ?_) #[true, true, true, true, false, true, false, false, false, false, false, false] rfl rfl (by kernel_rfl) (fun _ _ _ h => h) (Or.inl ⟨by rfl, ?_⟩) ?_ ?_
  rotate_left
  · intro w'
    go_simp
    with_reducible rfl
  rotate_left
  · simp only [Act.put, List.setIfInBounds_toArray, List.set_cons_zero, List.set_cons_succ, i64_w, i32_w]
    rfl
  refine take_ (i := 4) (N := some 59) (v := ?_) (a' := ?_) #[true, true, true, true, true, true, false, false, false, false, false, false] rfl rfl (by kernel_rfl) (fun _ _ _ h => h) (Or.inl ⟨by rfl, ?_⟩) hHeld ?_ ?_
  rotate_left
  · rintro w' ⟨s0, s1⟩
    go_simp
    with_reducible rfl
  rotate_left
  · simp only [Act.put, List.setIfInBounds_toArray, List.set_cons_zero, List.set_cons_succ, i64_w, i32_w]
    rfl
  refine take_ (i := 6) (N := some 61) (v := ?_) (a' := ?_) #[true, true, true, true, true, true, true, false, false, false, false, false] rfl rfl (by kernel_rfl) (fun _ _ _ h => h) (Or.inl ⟨by rfl, ?_⟩) hHeld ?_ ?_
  rotate_left
  · rintro w' ⟨s0, s1⟩
    go_simp
    with_reducible rfl
  rotate_left
  · simp only [Act.put, List.setIfInBounds_toArray, List.set_cons_zero, List.set_cons_succ, i64_w, i32_w]
    rfl
  refine take_ (i := 7) (N := some 62) (v := ?_) (a' := ?_) #[true, true, true, true, true, true, true, true, false, false, false, false] rfl rfl (by kernel_rfl) (fun _ _ _ h => h) (Or.inl ⟨by rfl, ?_⟩) hHeld ?_ ?_
  rotate_left
  · rintro w' ⟨s0, s1⟩
    go_simp
    with_reducible rfl
  rotate_left
  · simp only [Act.put, List.setIfInBounds_toArray, List.set_cons_zero, List.set_cons_succ, i64_w, i32_w]
    rfl
  refine one_ (i := 8) (N := some 63) #[true, true, true, true, true, true, true, true, true, false, false, false] rfl rfl (by kernel_rfl) (by decide) (fun K hK => ?_)
  refine goes_ Try.func47 (by kernel_rfl) rfl #[.pointer root, .string r.key, r.val] (by rfl) rfl rfl (by simp only [List.map_toArray, List.map_cons, List.map_nil]; rfl) ?_
  with_reducible refine (put_any r t _ _ T9.out wf (by have := HLN.out; omega)).mono ?_
  rintro e w10 ⟨p6, rfl, hT, hb10⟩
  refine ⟨_, rfl, ?_⟩
  have G10 := Lib.hid (blk_below G9.out hb10)
  have P10 := Lib.hid (blk_below P9.out hb10)
  have T10 := Lib.hid (T9.out.below hb10)
  have B10 := Lib.hid (below_then B9.out B9.out.size hb10)
  have K10 := Lib.hid (K9.out.below hb10)
  have TT := Lib.hid hT
  refine hK.out _ _ ⟨(blkc G10.out), (blkc P10.out)⟩ (fun hHeld => ?_)
  clear hK K
  refine norm_ (a' := ?_) ?_ ?_
  rotate_left
  · show Act.put _ (some 63) _ = _
    simp only [Act.put, List.setIfInBounds_toArray, List.set_cons_zero, List.set_cons_succ, i64_w, i32_w]
    rfl
  refine pure_ (i := 9) (N := some 64) (v := ?_) (a' := ?_) #[true, true, true, true, true, true, true, true, true, true, false, false] rfl rfl (by kernel_rfl) (fun _ _ _ h => h) (Or.inl ⟨by rfl, ?_⟩) ?_ ?_
  rotate_left
  · intro w'
    go_simp
    with_reducible rfl
  rotate_left
  · simp only [Act.put, List.setIfInBounds_toArray, List.set_cons_zero, List.set_cons_succ, i64_w, i32_w]
    rfl
  refine pure_ (i := 10) (N := some 65) (v := ?_) (a' := ?_) #[true, true, true, true, true, true, true, true, true, true, true, false] rfl rfl (by kernel_rfl) (fun _ _ _ h => h) (Or.inl ⟨by rfl, ?_⟩) ?_ ?_
  rotate_left
  · intro w'
    go_simp
    with_reducible rfl
  rotate_left
  · simp only [Act.put, List.setIfInBounds_toArray, List.set_cons_zero, List.set_cons_succ, i64_w, i32_w]
    rfl
  refine last_ (i := 11) (N := none) #[true, true, true, true, true, true, true, true, true, true, true, true] rfl rfl (by kernel_rfl) (by decide) (fun K hK => ?_)
  have z8 := blkz G10.out 0
  have c8 := blkc G10.out 0
  refine skip_ (w1 := ?_) (by rfl) rfl ?_ ?_
  rotate_left
  · go_simp
    rfl
  refine hK.out _ _ ?_
  clear hK K
  refine done_ (by kernel_rfl) ?_
  have GZ := Lib.hid (show (World.setCell w10 ⟨g, 0, none⟩ (.pointer p6)).heap[g]? = some (tabC p6 (size t.list - ol.bytes + r.bytes)) from by have := blk_set G10.out 0 (.pointer p6); simpa using this)
  have TZ := Lib.hid (TT.out.set (j := 0) (v := (.pointer p6)) G10.out (show tN ≠ tTab by decide))
  have BZ := Lib.hid (below_set (g := g) (j := 0) (v := (.pointer p6)) B10.out hg)
  have KZ := Lib.hid (kept_set K10.out 0 (.pointer p6))
  generalize (World.setCell _ _ _) = WZ at *
  go_wp2_with fail
  go_ret
  exact ⟨rfl, ⟨t.put r.key r, p6, by rw [size_put_some hu HF.out]; exact GZ.out, TZ.out, WF.put wf, put_list wf hu r⟩, KZ.out, BZ.out⟩
theorem tput_any {w w0 : World} {g : Nat} {l : List Row} (r : Row) (h : TabR w g l) (hl : LOk l) (hg : w0.heap.size ≤ g) (HB : Below w0.heap.size w0 w) :
    Calls Try.prog 22 #[.pointer (some ⟨g, 0, none⟩), r.val] w fun e w' => e = .returned (.int .i64 (putL l r).1) ∧ TabR w' g (putL l r).2 ∧ Kept w w' (fun k => k = g) ∧ Below w0.heap.size w0 w' := by
  unfold putL
  by_cases hc : r.check = 0
  · rw [if_pos hc]
    cases hf : find l r.key with
    | none =>
      by_cases hn : l.length < 1048576
      · rw [if_pos (.inr hn)]
        exact put_new r h hl hg HB hc hf hn
      · rw [if_neg (by simp; omega)]
        exact put_full r h hl hg HB hc hf hn
    | some o =>
      rw [if_pos (.inl rfl)]
      exact put_old r h hl hg HB hc hf
  · rw [if_neg hc]
    exact put_bad r h hl hg HB hc
set_option maxHeartbeats 1600000 in
set_option maxRecDepth 100000 in
theorem tdel_any {w w0 : World} {g : Nat} {l : List Row} (k : ByteArray) (h : TabR w g l) (hl : LOk l) (hg : w0.heap.size ≤ g) (HB : Below w0.heap.size w0 w) :
    Calls Try.prog 23 #[.pointer (some ⟨g, 0, none⟩), .string k] w fun e w' => e = .returned (.bool (find l k).isSome) ∧ TabR w' g (without k l) ∧ Kept w w' (fun k => k = g) ∧ Below w0.heap.size w0 w' := by
  obtain ⟨t, root, hb0, ht0, wf, rfl⟩ := h
  have hu := hl.up
  have HLN := Lib.hid hl.len
  have hsz := hl.size
  have G0 := Lib.hid hb0
  have T0 := Lib.hid ht0
  have B0 := Lib.hid HB
  have K0 := Lib.hid (Kept.refl w (fun k => k = g))
  clear hb0 ht0 HB
  rcases get_list wf hu k with ⟨hg1, hf⟩ | ⟨k0, ol, l0, r0, hh, c, hg1, hf⟩
  · have HG := Lib.hid hg1
    have HF := Lib.hid hf
    clear hg1 hf
    go_enter Try.func23, Try.ntmps23
    go_wp2_with fail
    refine (tree_any G0.out).mono ?_
    rintro e w1 ⟨rfl, rfl⟩
    go_wp2_with fail
    refine (get_any T0.out k).mono ?_
    rintro e w1 ⟨q, rfl, hq, rfl⟩
    rw [HG.out] at hq
    cases hq
    go_wp2
    go_ret
    exact ⟨by rw [HF.out]; rfl, ⟨t, root, by rw [without_none HF.out]; exact G0.out, T0.out, wf, (without_none HF.out).symm⟩, K0.out, B0.out⟩
  · have HG := Lib.hid hg1
    have HF := Lib.hid hf
    have hob := (hl.rows ol (find_key hf).2).bytes
    clear hg1 hf
    have e1 : IntKind.i64.wrap (size t.list - ol.bytes) = size t.list - ol.bytes := IntWalk.i64_in _ (by omega)
    have f1 : wrap64 (size t.list - ol.bytes) = size t.list - ol.bytes := by rw [← i64_w]; exact e1
    go_enter Try.func23, Try.ntmps23
    go_wp2_with fail
    refine (tree_any G0.out).mono ?_
    rintro e w1 ⟨rfl, rfl⟩
    go_wp2_with fail
    refine (get_any T0.out k).mono ?_
    rintro e w1 ⟨q, rfl, hq, rfl⟩
    rw [HG.out] at hq
    obtain ⟨gn, pl, pr, rfl, hgn, _, _⟩ := hq
    have N0 := Lib.hid (show (World.drew w).heap[gn]? = some (.cells #[Value.string k0, .string ol.key, .string ol.value, .int .i64 ol.version, .pointer pl, .pointer pr, .int .i64 hh, .int .i64 c] tN (0, 0)) from hgn)
    clear hgn
    go_wp2_with fail
    have G1 := Lib.hid (blk_drew G0.out)
    have T1 := Lib.hid (T0.out.below (below_drew (Below.refl _ _)))
    have B1 := Lib.hid (B0.out.drew)
    have K1 := Lib.hid (K0.out.drew)
    clear G0 T0 B0 K0
    refine start_ (n := 13) (S := fun w' => (∀ o, w'.cell? ⟨g, o, none⟩ = #[Value.pointer root, .int .i64 (size t.list), .bool true][o]?) ∧ (∀ o, w'.cell? ⟨gn, o, none⟩ = #[Value.string k0, .string ol.key, .string ol.value, .int .i64 ol.version, .pointer pl, .pointer pr, .int .i64 hh, .int .i64 c][o]?)) (ds := [12]) #[false, false, false, false, false, false, false, false, false, false, false, false, false] (by kernel_rfl) rfl rfl ⟨(blkc G1.out), (blkc N0.out)⟩ (fun hHeld => ?_)
    refine pure_ (i := 0) (N := some 12) (v := ?_) (a' := ?_) #[true, false, false, false, false, false, false, false, false, false, false, false, false] rfl rfl (by kernel_rfl) (fun _ _ _ h => h) (Or.inl ⟨by rfl, ?_⟩) ?_ ?_
    rotate_left
    · intro w'
      go_simp
      with_reducible rfl
    rotate_left
    · simp only [Act.put, List.setIfInBounds_toArray, List.set_cons_zero, List.set_cons_succ, i64_w, i32_w]
      rfl
    refine pure_ (i := 1) (N := some 13) (v := ?_) (a' := ?_) #[true, true, false, false, false, false, false, false, false, false, false, false, false] rfl rfl (by kernel_rfl) (fun _ _ _ h => h) (Or.inl ⟨by rfl, ?_⟩) ?_ ?_
    rotate_left
    · intro w'
      go_simp
      with_reducible rfl
    rotate_left
    · simp only [Act.put, List.setIfInBounds_toArray, List.set_cons_zero, List.set_cons_succ, i64_w, i32_w]
      rfl
    refine pure_ (i := 2) (N := some 14) (v := ?_) (a' := ?_) #[true, true, true, false, false, false, false, false, false, false, false, false, false] rfl rfl (by kernel_rfl) (fun _ _ _ h => h) (Or.inl ⟨by rfl, ?_⟩) ?_ ?_
    rotate_left
    · intro w'
      go_simp
      with_reducible rfl
    rotate_left
    · simp only [Act.put, List.setIfInBounds_toArray, List.set_cons_zero, List.set_cons_succ, i64_w, i32_w]
      rfl
    refine pure_ (i := 4) (N := some 16) (v := ?_) (a' := ?_) #[true, true, true, false, true, false, false, false, false, false, false, false, false] rfl rfl (by kernel_rfl) (fun _ _ _ h => h) (Or.inl ⟨by rfl, ?_⟩) ?_ ?_
    rotate_left
    · intro w'
      go_simp
      with_reducible rfl
    rotate_left
    · simp only [Act.put, List.setIfInBounds_toArray, List.set_cons_zero, List.set_cons_succ, i64_w, i32_w]
      rfl
    refine pure_ (i := 5) (N := some 17) (v := ?_) (a' := ?_) #[true, true, true, false, true, true, false, false, false, false, false, false, false] rfl rfl (by kernel_rfl) (fun _ _ _ h => h) (Or.inl ⟨by rfl, ?_⟩) ?_ ?_
    rotate_left
    · intro w'
      go_simp
      with_reducible rfl
    rotate_left
    · simp only [Act.put, List.setIfInBounds_toArray, List.set_cons_zero, List.set_cons_succ, i64_w, i32_w]
      rfl
    refine pure_ (i := 6) (N := some 18) (v := ?_) (a' := ?_) #[true, true, true, false, true, true, true, false, false, false, false, false, false] rfl rfl (by kernel_rfl) (fun _ _ _ h => h) (Or.inl ⟨by rfl, ?_⟩) ?_ ?_
    rotate_left
    · intro w'
      go_simp
      with_reducible rfl
    rotate_left
    · simp only [Act.put, List.setIfInBounds_toArray, List.set_cons_zero, List.set_cons_succ, i64_w, i32_w]
      rfl
    refine take_ (i := 3) (N := some 15) (v := ?_) (a' := ?_) #[true, true, true, true, true, true, true, false, false, false, false, false, false] rfl rfl (by kernel_rfl) (fun _ _ _ h => h) (Or.inl ⟨by rfl, ?_⟩) hHeld ?_ ?_
    rotate_left
    · rintro w' ⟨s0, s1⟩
      go_simp
      with_reducible rfl
    rotate_left
    · simp only [Act.put, List.setIfInBounds_toArray, List.set_cons_zero, List.set_cons_succ, i64_w, i32_w]
      rfl
    refine take_ (i := 7) (N := some 19) (v := ?_) (a' := ?_) #[true, true, true, true, true, true, true, true, false, false, false, false, false] rfl rfl (by kernel_rfl) (fun _ _ _ h => h) (Or.inl ⟨by rfl, ?_⟩) hHeld ?_ ?_
    rotate_left
    · rintro w' ⟨s0, s1⟩
      go_simp
      with_reducible rfl
    rotate_left
    · simp only [Act.put, List.setIfInBounds_toArray, List.set_cons_zero, List.set_cons_succ, i64_w, i32_w]
      rfl
    refine one_ (i := 8) (N := some 20) #[true, true, true, true, true, true, true, true, true, false, false, false, false] rfl rfl (by kernel_rfl) (by decide) (fun K hK => ?_)
    refine goes_ Try.func40 (by kernel_rfl) rfl #[ol.val] (by rfl) rfl rfl (by simp only [List.map_toArray, List.map_cons, List.map_nil]; rfl) ?_
    with_reducible refine (bytes_any ol _ (by omega)).mono ?_
    rintro e w2 ⟨rfl, hb2⟩
    refine ⟨_, rfl, ?_⟩
    have G2 := Lib.hid (blk_below G1.out hb2)
    have T2 := Lib.hid (T1.out.below hb2)
    have B2 := Lib.hid (below_then B1.out B1.out.size hb2)
    have K2 := Lib.hid (K1.out.below hb2)
    refine hK.out _ _ ⟨(blkc G2.out), (blkc (blk_below N0.out hb2))⟩ (fun hHeld => ?_)
    clear hK K
    refine norm_ (a' := ?_) ?_ ?_
    rotate_left
    · show Act.put _ (some 20) _ = _
      simp only [Act.put, List.setIfInBounds_toArray, List.set_cons_zero, List.set_cons_succ, i64_w, i32_w]
      rfl
    refine pure_ (i := 9) (N := some 21) (v := ?_) (a' := ?_) #[true, true, true, true, true, true, true, true, true, true, false, false, false] rfl rfl (by kernel_rfl) (fun _ _ _ h => h) (Or.inl ⟨by rfl, ?_⟩) ?_ ?_
    rotate_left
    · intro w'
      go_simp
      with_reducible rfl
    rotate_left
    · simp only [Act.put, List.setIfInBounds_toArray, List.set_cons_zero, List.set_cons_succ, i64_w, i32_w]
      rfl
    refine pure_ (i := 10) (N := some 22) (v := ?_) (a' := ?_) #[true, true, true, true, true, true, true, true, true, true, true, false, false] rfl rfl (by kernel_rfl) (fun _ _ _ h => h) (Or.inl ⟨by rfl, ?_⟩) ?_ ?_
    rotate_left
    · intro w'
      go_simp
      with_reducible rfl
    rotate_left
    · simp only [Act.put, List.setIfInBounds_toArray, List.set_cons_zero, List.set_cons_succ, i64_w, i32_w]
      rfl
    refine pure_ (i := 11) (N := some 23) (v := ?_) (a' := ?_) #[true, true, true, true, true, true, true, true, true, true, true, true, false] rfl rfl (by kernel_rfl) (fun _ _ _ h => h) (Or.inl ⟨by rfl, ?_⟩) ?_ ?_
    rotate_left
    · intro w'
      go_simp
      with_reducible rfl
    rotate_left
    · simp only [Act.put, List.setIfInBounds_toArray, List.set_cons_zero, List.set_cons_succ, i64_w, i32_w]
      rfl
    refine last_ (i := 12) (N := none) #[true, true, true, true, true, true, true, true, true, true, true, true, true] rfl rfl (by kernel_rfl) (by decide) (fun K hK => ?_)
    have z8 := blkz G2.out 1
    have c8 := blkc G2.out 1
    refine skip_ (w1 := ?_) (by rfl) rfl ?_ ?_
    rotate_left
    · go_simp
      rfl
    refine hK.out _ _ ?_
    clear hK K
    refine done_ (by kernel_rfl) ?_
    have G3 := Lib.hid (show (World.setCell w2 ⟨g, 1, none⟩ (.int .i64 (size t.list - ol.bytes))).heap[g]? = some (tabC root (size t.list - ol.bytes)) from by have := blk_set G2.out 1 (.int .i64 (size t.list - ol.bytes)); simpa using this)
    have T3 := Lib.hid (T2.out.set (j := 1) (v := (.int .i64 (size t.list - ol.bytes))) G2.out (show tN ≠ tTab by decide))
    have B3 := Lib.hid (below_set (g := g) (j := 1) (v := (.int .i64 (size t.list - ol.bytes))) B2.out hg)
    have K3 := Lib.hid (kept_set K2.out 1 (.int .i64 (size t.list - ol.bytes)))
    clear G1 G2 T1 T2 B1 B2 K1 K2 hb2
    generalize (World.setCell _ _ _) = W3 at *
    have cg := blkc G3.out
    go_wp2_with fail
    refine (cut_any t k _ _ T3.out wf (by have := HLN.out; omega)).mono ?_
    rintro e w4 ⟨p4, rfl, hT4, hb4⟩
    have G4 := Lib.hid (blk_below G3.out hb4)
    have T4 := Lib.hid hT4
    have B4 := Lib.hid (below_then B3.out B3.out.size hb4)
    have K4 := Lib.hid (K3.out.below hb4)
    clear cg hT4 hb4
    have cg := blkc G4.out
    have zg := blkz G4.out
    go_wp2_with fail
    have GZ := Lib.hid (show (World.setCell w4 ⟨g, 0, none⟩ (.pointer p4)).heap[g]? = some (tabC p4 (size t.list - ol.bytes)) from by have := blk_set G4.out 0 (.pointer p4); simpa using this)
    have TZ := Lib.hid (T4.out.set (j := 0) (v := .pointer p4) G4.out (show tN ≠ tTab by decide))
    have BZ := Lib.hid (below_set (g := g) (j := 0) (v := .pointer p4) B4.out hg)
    have KZ := Lib.hid (kept_set K4.out 0 (.pointer p4))
    go_ret
    exact ⟨by rw [HF.out]; rfl, ⟨t.cut k, p4, by rw [size_without hu HF.out]; exact GZ.out, TZ.out, WF.cut wf k, cut_list wf hu k⟩, KZ.out, BZ.out⟩
end Go.Proofs.Ytjpalkggmefpfaa.Tab
