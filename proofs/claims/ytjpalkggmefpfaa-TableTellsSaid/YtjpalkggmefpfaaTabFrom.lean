/- A tree built of rows that came in. -/
import Derived.Test.YtjpalkggmefpfaaTabTold
import Derived.Test.YtjpalkggmefpfaaTableMap
set_option linter.unusedVariables false
set_option linter.unusedSimpArgs false
namespace Go.Proofs.Ytjpalkggmefpfaa.Tab
open Go.RowKit Go.Proofs.Ytjpalkggmefpfaa.Mem Go.Proofs.YtjpalkggmefpfaaW.PrintWords Go.Proofs.YtjpalkggmefpfaaW.PrintLast Go.Deep Go.Proofs.Ytjpalkggmefpfaa.Opn
attribute [local go_sem ↓] execOp_call_tmp
attribute [local go_sem] callVal_func
/-- A list of rows, at one place. -/
theorem at_R {w : World} {A : Option Addr} {n : Nat} {xs : List Row} (h : kR.C w A n xs) {i : Nat} {r : Row} (hi : xs[i]? = some r) : ∃ ad, A = some ad ∧ w.cell? (ad.add (i * 3)) = some (.string r.key) ∧ w.cell? ⟨(ad.add (i * 3)).block, (ad.add (i * 3)).off + 1, none⟩ = some (.string r.value) ∧ w.cell? ⟨(ad.add (i * 3)).block, (ad.add (i * 3)).off + 2, none⟩ = some (.int .i64 r.version) := by
  have hl := (List.getElem?_eq_some_iff.1 hi).1
  obtain ⟨ad, c, ha, hcl, hK, hcell⟩ := Kd.C_get h r (i : Int) (by omega) (by have := h.1; omega)
  have hK' : kR.K w r c := by simpa [List.getD_eq_getElem?_getD, hi] using hK
  obtain rfl := kR_cells hK'
  simp only [Int.toNat_natCast] at hcell
  have hz : kR.sz = 3 := rfl
  rw [hz] at hcell
  refine ⟨ad, ha, ?_, ?_, ?_⟩
  · simpa using hcell 0 _ rfl
  · rw [← add_field ad (i * 3) 1 (by omega)]; exact hcell 1 _ rfl
  · rw [← add_field ad (i * 3) 2 (by omega)]; exact hcell 2 _ rfl
set_option maxHeartbeats 1600000 in
set_option maxRecDepth 100000 in
theorem from1_any {w : World} {b c : Nat} {A : Option Addr} {l : List Row} (hb : w.heap[b]? = some (bx (.slice A l.length c) tRows)) (hC : kR.C w A l.length l) {i : Int} {r : Row} (hi0 : 0 ≤ i) (hi : l[i.toNat]? = some r) :
    Calls Try.prog 42 #[.int .i64 i, .pointer (some ⟨b, 0, none⟩)] w fun e w' => e = .returned (.tuple #[.string r.key, r.val]) ∧ Below w.heap.size w w' := by
  have hl := (List.getElem?_eq_some_iff.1 hi).1
  have hm := hC.2.1
  obtain ⟨ad, hA, x0, x1, x2⟩ := at_R hC hi
  cases hA
  have hus := Try.underlying25
  have B0 := Lib.hid (below_alloc (Below.refl w.heap.size w) (.cells #[.string ⟨#[]⟩, .string ⟨#[]⟩, .int .i64 0] tRow)).drew
  have Z0 := Lib.hid (blk_new w (.cells #[.string ⟨#[]⟩, .string ⟨#[]⟩, .int .i64 0] tRow))
  have B00 := Lib.hid (below_alloc (Below.refl w.heap.size w) (.cells #[.string ⟨#[]⟩, .string ⟨#[]⟩, .int .i64 0] tRow))
  have y0 := pw_cell_below B0.out x0
  have y1 := pw_cell_below B0.out x1
  have y2 := pw_cell_below B0.out x2
  have yb := blk1 (blk_below hb B0.out)
  have p2 : i < (l.length : Int) := by omega
  clear hC hi x0 x1 x2 hb
  go_enter Try.func42, Try.ntmps42
  go_wp2_with fail
  generalize hW : (World.alloc w _) = W0 at *
  clear hW
  refine start_ (n := 11) (S := fun w' => (w'.cell? ⟨b, 0, none⟩ = some (.slice (some ad) l.length c)) ∧ (w'.cell? (ad.add (i.toNat * 3)) = some (.string r.key)) ∧ (w'.cell? ⟨(ad.add (i.toNat * 3)).block, (ad.add (i.toNat * 3)).off + 1, none⟩ = some (.string r.value)) ∧ (w'.cell? ⟨(ad.add (i.toNat * 3)).block, (ad.add (i.toNat * 3)).off + 2, none⟩ = some (.int .i64 r.version))) (ds := [10]) #[false, false, false, false, false, false, false, false, false, false, false] (by kernel_rfl) rfl rfl ⟨yb, y0, y1, y2⟩ (fun hHeld => ?_)
  refine pure_ (i := 1) (N := some 6) (v := ?_) (a' := ?_) #[false, true, false, false, false, false, false, false, false, false, false] rfl rfl (by kernel_rfl) (fun _ _ _ h => h) (Or.inl ⟨by rfl, ?_⟩) ?_ ?_
  rotate_left
  · intro w'
    go_simp
    with_reducible rfl
  rotate_left
  · simp only [Act.put, List.setIfInBounds_toArray, List.set_cons_zero, List.set_cons_succ, i64_w, i32_w]
    rfl
  refine pure_ (i := 6) (N := some 11) (v := ?_) (a' := ?_) #[false, true, false, false, false, false, true, false, false, false, false] rfl rfl (by kernel_rfl) (fun _ _ _ h => h) (Or.inl ⟨by rfl, ?_⟩) ?_ ?_
  rotate_left
  · intro w'
    go_simp
    with_reducible rfl
  rotate_left
  · simp only [Act.put, List.setIfInBounds_toArray, List.set_cons_zero, List.set_cons_succ, i64_w, i32_w]
    rfl
  refine take_ (i := 0) (N := some 5) (v := ?_) (a' := ?_) #[true, true, false, false, false, false, true, false, false, false, false] rfl rfl (by kernel_rfl) (fun _ _ _ h => h) (Or.inl ⟨by rfl, ?_⟩) hHeld ?_ ?_
  rotate_left
  · rintro w' ⟨s0, s1, s2, s3⟩
    go_simp
    with_reducible rfl
  rotate_left
  · simp only [Act.put, List.setIfInBounds_toArray, List.set_cons_zero, List.set_cons_succ, i64_w, i32_w]
    rfl
  refine pure_ (i := 2) (N := some 7) (v := ?_) (a' := ?_) #[true, true, true, false, false, false, true, false, false, false, false] rfl rfl (by kernel_rfl) (fun _ _ _ h => h) (Or.inl ⟨by rfl, ?_⟩) ?_ ?_
  rotate_left
  · intro w'
    go_simp
    with_reducible rfl
  rotate_left
  · simp only [Act.put, List.setIfInBounds_toArray, List.set_cons_zero, List.set_cons_succ, i64_w, i32_w]
    rfl
  refine pure_ (i := 3) (N := some 8) (v := ?_) (a' := ?_) #[true, true, true, true, false, false, true, false, false, false, false] rfl rfl (by kernel_rfl) (fun _ _ _ h => h) (Or.inl ⟨by rfl, ?_⟩) ?_ ?_
  rotate_left
  · intro w'
    go_simp
    with_reducible rfl
  rotate_left
  · simp only [Act.put, List.setIfInBounds_toArray, List.set_cons_zero, List.set_cons_succ, i64_w, i32_w]
    rfl
  refine take_ (i := 4) (N := some 9) (v := ?_) (a' := ?_) #[true, true, true, true, true, false, true, false, false, false, false] rfl rfl (by kernel_rfl) (fun _ _ _ h => h) (Or.inl ⟨by rfl, ?_⟩) hHeld ?_ ?_
  rotate_left
  · rintro w' ⟨s0, s1, s2, s3⟩
    go_simp
    with_reducible rfl
  rotate_left
  · simp only [Act.put, List.setIfInBounds_toArray, List.set_cons_zero, List.set_cons_succ, i64_w, i32_w]
    rfl
  refine pure_ (i := 9) (N := some 3) (v := ?_) (a' := ?_) #[true, true, true, true, true, false, true, false, false, true, false] rfl rfl (by kernel_rfl) (fun _ _ _ h => h) (Or.inl ⟨by rfl, ?_⟩) ?_ ?_
  rotate_left
  · intro w'
    go_simp
    with_reducible rfl
  rotate_left
  · simp only [Act.put, List.setIfInBounds_toArray, List.set_cons_zero, List.set_cons_succ, i64_w, i32_w]
    rfl
  refine take_ (i := 5) (N := some 10) (v := ?_) (a' := ?_) #[true, true, true, true, true, true, true, false, false, true, false] rfl rfl (by kernel_rfl) (fun _ _ _ h => h) (Or.inl ⟨by rfl, ?_⟩) hHeld ?_ ?_
  rotate_left
  · rintro w' ⟨s0, s1, s2, s3⟩
    go_simp
    with_reducible rfl
  rotate_left
  · simp only [Act.put, List.setIfInBounds_toArray, List.set_cons_zero, List.set_cons_succ, i64_w, i32_w]
    rfl
  refine pure_ (i := 7) (N := some 12) (v := ?_) (a' := ?_) #[true, true, true, true, true, true, true, true, false, true, false] rfl rfl (by kernel_rfl) (fun _ _ _ h => h) (Or.inl ⟨by rfl, ?_⟩) ?_ ?_
  rotate_left
  · intro w'
    go_simp
    with_reducible rfl
  rotate_left
  · simp only [Act.put, List.setIfInBounds_toArray, List.set_cons_zero, List.set_cons_succ, i64_w, i32_w]
    rfl
  refine take_ (i := 8) (N := some 13) (v := ?_) (a' := ?_) #[true, true, true, true, true, true, true, true, true, true, false] rfl rfl (by kernel_rfl) (fun _ _ _ h => h) (Or.inl ⟨by rfl, ?_⟩) hHeld ?_ ?_
  rotate_left
  · rintro w' ⟨s0, s1, s2, s3⟩
    go_simp
    with_reducible rfl
  rotate_left
  · simp only [Act.put, List.setIfInBounds_toArray, List.set_cons_zero, List.set_cons_succ, i64_w, i32_w]
    rfl
  refine last_ (i := 10) (N := none) #[true, true, true, true, true, true, true, true, true, true, true] rfl rfl (by kernel_rfl) (by decide) (fun K hK => ?_)
  have z8 := blkz Z0.out
  have c8 := blkc Z0.out
  refine skip_ (w1 := ?_) (by rfl) rfl ?_ ?_
  rotate_left
  · go_simp
    rfl
  refine hK.out _ _ ?_
  clear hK K
  refine done_ (by kernel_rfl) ?_
  have Z1 := blk_drew (set_row3 Z0.out rfl (.string r.key) (.string r.value) (.int .i64 r.version))
  have c1 := blkc Z1
  have BZ := (below_row3 (b := w.heap.size) B00.out (Nat.le_refl _) (.string r.key) (.string r.value) (.int .i64 r.version)).drew
  go_wp2_with fail
  exact bodyPost_ret (v := .tuple #[.string r.key, r.val]) (by simp [results, Try.results42, go_sem, hus, c1]) rfl ⟨rfl, BZ⟩
theorem seg_split {l : List Row} {f n k : Nat} {r : Row} (hk : k < n) (h : l[f + k]? = some r) : (l.drop f).take n = (l.drop f).take k ++ r :: (l.drop (f + k + 1)).take (n - k - 1) := by
  have h2 : (l.drop f)[k]? = some r := by rw [List.getElem?_drop]; exact h
  have hl := (List.getElem?_eq_some_iff.1 h2).1
  have h3 : (l.drop f).drop k = r :: (l.drop f).drop (k + 1) := by rw [List.drop_eq_getElem_cons hl]; rw [(List.getElem?_eq_some_iff.1 h2).2]
  have : (l.drop f).take n = (l.drop f).take k ++ ((l.drop f).drop k).take (n - k) := by
    rw [← List.take_add, show k + (n - k) = n by omega]
  rw [this, h3, show n - k = (n - k - 1) + 1 by omega, List.take_succ_cons, List.drop_drop]
  simp only [show f + (k + 1) = f + k + 1 by omega, Nat.add_sub_cancel]
set_option maxHeartbeats 3200000 in
set_option maxRecDepth 100000 in
theorem built_any {b c : Nat} {A : Option Addr} {l : List Row} (hlen : l.length ≤ 1099511627776) (hkeys : True) : ∀ (m : Nat) (n from_ : Int) (w : World), n ≤ m → 0 ≤ n → 0 ≤ from_ → from_ + n ≤ l.length → w.heap[b]? = some (bx (.slice A l.length c) tRows) → kR.C w A l.length l →
    Calls Try.prog 41 #[.int .i64 n, .func (.func 42) #[] #[.pointer (some ⟨b, 0, none⟩)], .int .i64 from_] w fun e w' => ∃ t p, e = .returned (.pointer p) ∧ TR w' t p ∧ t.WF ∧ t.list = (l.drop from_.toNat).take n.toNat ∧ Below w.heap.size w w' := by
  intro m
  induction m with
  | zero =>
    intro n from_ w hn hn0 hf0 hf hb hC
    obtain rfl : n = 0 := by omega
    clear hb hC
    go_enter Try.func41, Try.ntmps41
    go_wp2
    go_ret
    exact ⟨.nil, none, rfl, rfl, trivial, by simp [T.list], Below.refl _ _⟩
  | succ m ih =>
    intro n from_ w hn hn0 hf0 hf hb hC
    by_cases h0 : n = 0
    · subst h0
      clear hb hC ih
      go_enter Try.func41, Try.ntmps41
      go_wp2
      go_ret
      exact ⟨.nil, none, rfl, rfl, trivial, by simp [T.list], Below.refl _ _⟩
    · have IH := Lib.hid ih
      have hnz : (n == 0) = false := by simpa using h0
      have hi : (from_ + n / 2).toNat < l.length := by omega
      have hu := List.getElem?_eq_getElem hi
      generalize l[(from_ + n / 2).toNat] = r at *
      have HU := Lib.hid hu
      have HB := Lib.hid hb
      have HC := Lib.hid hC
      have HN := Lib.hid (And.intro hn (And.intro hf h0))
      have hn1 : 1 ≤ n := by omega
      have hnb : n ≤ 1099511627776 := by omega
      have hfb : from_ ≤ 1099511627776 := by omega
      have e0 : IntKind.i64.wrap (n.tdiv 2) = n / 2 := IntWalk.i64_quo _ _ (by omega)
      have e1 : IntKind.i64.wrap (n - n / 2) = n - n / 2 := IntWalk.i64_in _ (by omega)
      have e2 : IntKind.i64.wrap (n - n / 2 - 1) = n - n / 2 - 1 := IntWalk.i64_in _ (by omega)
      have e3 : IntKind.i64.wrap (from_ + n / 2) = from_ + n / 2 := IntWalk.i64_in _ (by omega)
      have e4 : IntKind.i64.wrap (from_ + n / 2 + 1) = from_ + n / 2 + 1 := IntWalk.i64_in _ (by omega)
      have f1 : wrap64 (n - n / 2) = n - n / 2 := by rw [← i64_w]; exact e1
      have f2 : wrap64 (n - n / 2 - 1) = n - n / 2 - 1 := by rw [← i64_w]; exact e2
      have f3 : wrap64 (from_ + n / 2) = from_ + n / 2 := by rw [← i64_w]; exact e3
      have f4 : wrap64 (from_ + n / 2 + 1) = from_ + n / 2 + 1 := by rw [← i64_w]; exact e4
      clear hu hb hC ih h0 hn hf hi
      go_enter Try.func41, Try.ntmps41
      go_wp2_with fail
      refine (from1_any HB.out HC.out (by omega) HU.out).mono ?_
      rintro e w1 ⟨rfl, hb1⟩
      have RB := Lib.hid (below_alloc (Below.refl w1.heap.size w1) (.cells #[Value.string r.key, .string r.value, .int .i64 r.version] tRow))
      have P2 := Lib.hid (blk_new w1 (.cells #[Value.string r.key, .string r.value, .int .i64 r.version] tRow))
      have B2 := Lib.hid (below_alloc hb1 (.cells #[Value.string r.key, .string r.value, .int .i64 r.version] tRow))
      clear hb1 RB
      go_wp2_with fail
      generalize (World.alloc w1 _) = W2 at *
      generalize w1.heap.size = q at *
      have P3 := Lib.hid (blk_drew P2.out)
      have B3 := Lib.hid B2.out.drew
      refine start_ (n := 21) (S := fun w' => (∀ o, w'.cell? ⟨q, o, none⟩ = #[Value.string r.key, .string r.value, .int .i64 r.version][o]?)) (ds := []) #[false, false, false, false, false, false, false, false, false, false, false, false, false, false, false, false, false, false, false, false, false] (by kernel_rfl) rfl rfl ((blkc P3.out)) (fun hHeld => ?_)
      refine pure_ (i := 0) (N := some 20) (v := ?_) (a' := ?_) #[true, false, false, false, false, false, false, false, false, false, false, false, false, false, false, false, false, false, false, false, false] rfl rfl (by kernel_rfl) (fun _ _ _ h => h) (Or.inl ⟨by rfl, ?_⟩) ?_ ?_
      rotate_left
      · intro w'
        go_simp
        with_reducible rfl
      rotate_left
      · simp only [Act.put, List.setIfInBounds_toArray, List.set_cons_zero, List.set_cons_succ, i64_w, i32_w]
        rfl
      refine pure_ (i := 2) (N := some 22) (v := ?_) (a' := ?_) #[true, false, true, false, false, false, false, false, false, false, false, false, false, false, false, false, false, false, false, false, false] rfl rfl (by kernel_rfl) (fun _ _ _ h => h) (Or.inl ⟨by rfl, ?_⟩) ?_ ?_
      rotate_left
      · intro w'
        go_simp
        with_reducible rfl
      rotate_left
      · simp only [Act.put, List.setIfInBounds_toArray, List.set_cons_zero, List.set_cons_succ, i64_w, i32_w]
        rfl
      refine pure_ (i := 3) (N := some 23) (v := ?_) (a' := ?_) #[true, false, true, true, false, false, false, false, false, false, false, false, false, false, false, false, false, false, false, false, false] rfl rfl (by kernel_rfl) (fun _ _ _ h => h) (Or.inl ⟨by rfl, ?_⟩) ?_ ?_
      rotate_left
      · intro w'
        go_simp
        with_reducible rfl
      rotate_left
      · simp only [Act.put, List.setIfInBounds_toArray, List.set_cons_zero, List.set_cons_succ, i64_w, i32_w]
        rfl
      refine pure_ (i := 4) (N := some 24) (v := ?_) (a' := ?_) #[true, false, true, true, true, false, false, false, false, false, false, false, false, false, false, false, false, false, false, false, false] rfl rfl (by kernel_rfl) (fun _ _ _ h => h) (Or.inl ⟨by rfl, ?_⟩) ?_ ?_
      rotate_left
      · intro w'
        go_simp
        with_reducible rfl
      rotate_left
      · simp only [Act.put, List.setIfInBounds_toArray, List.set_cons_zero, List.set_cons_succ, i64_w, i32_w]
        rfl
      refine pure_ (i := 5) (N := some 25) (v := ?_) (a' := ?_) #[true, false, true, true, true, true, false, false, false, false, false, false, false, false, false, false, false, false, false, false, false] rfl rfl (by kernel_rfl) (fun _ _ _ h => h) (Or.inl ⟨by rfl, ?_⟩) ?_ ?_
      rotate_left
      · intro w'
        go_simp
        with_reducible rfl
      rotate_left
      · simp only [Act.put, List.setIfInBounds_toArray, List.set_cons_zero, List.set_cons_succ, i64_w, i32_w]
        rfl
      refine pure_ (i := 7) (N := some 27) (v := ?_) (a' := ?_) #[true, false, true, true, true, true, false, true, false, false, false, false, false, false, false, false, false, false, false, false, false] rfl rfl (by kernel_rfl) (fun _ _ _ h => h) (Or.inl ⟨by rfl, ?_⟩) ?_ ?_
      rotate_left
      · intro w'
        go_simp
        with_reducible rfl
      rotate_left
      · simp only [Act.put, List.setIfInBounds_toArray, List.set_cons_zero, List.set_cons_succ, i64_w, i32_w]
        rfl
      refine pure_ (i := 8) (N := some 28) (v := ?_) (a' := ?_) #[true, false, true, true, true, true, false, true, true, false, false, false, false, false, false, false, false, false, false, false, false] rfl rfl (by kernel_rfl) (fun _ _ _ h => h) (Or.inl ⟨by rfl, ?_⟩) ?_ ?_
      rotate_left
      · intro w'
        go_simp
        with_reducible rfl
      rotate_left
      · simp only [Act.put, List.setIfInBounds_toArray, List.set_cons_zero, List.set_cons_succ, i64_w, i32_w]
        rfl
      refine pure_ (i := 9) (N := some 29) (v := ?_) (a' := ?_) #[true, false, true, true, true, true, false, true, true, true, false, false, false, false, false, false, false, false, false, false, false] rfl rfl (by kernel_rfl) (fun _ _ _ h => h) (Or.inl ⟨by rfl, ?_⟩) ?_ ?_
      rotate_left
      · intro w'
        go_simp
        with_reducible rfl
      rotate_left
      · simp only [Act.put, List.setIfInBounds_toArray, List.set_cons_zero, List.set_cons_succ, i64_w, i32_w]
        rfl
      refine pure_ (i := 10) (N := some 30) (v := ?_) (a' := ?_) #[true, false, true, true, true, true, false, true, true, true, true, false, false, false, false, false, false, false, false, false, false] rfl rfl (by kernel_rfl) (fun _ _ _ h => h) (Or.inl ⟨by rfl, ?_⟩) ?_ ?_
      rotate_left
      · intro w'
        go_simp
        with_reducible rfl
      rotate_left
      · simp only [Act.put, List.setIfInBounds_toArray, List.set_cons_zero, List.set_cons_succ, i64_w, i32_w]
        rfl
      refine pure_ (i := 11) (N := some 31) (v := ?_) (a' := ?_) #[true, false, true, true, true, true, false, true, true, true, true, true, false, false, false, false, false, false, false, false, false] rfl rfl (by kernel_rfl) (fun _ _ _ h => h) (Or.inl ⟨by rfl, ?_⟩) ?_ ?_
      rotate_left
      · intro w'
        go_simp
        with_reducible rfl
      rotate_left
      · simp only [Act.put, List.setIfInBounds_toArray, List.set_cons_zero, List.set_cons_succ, i64_w, i32_w]
        rfl
      refine pure_ (i := 12) (N := some 32) (v := ?_) (a' := ?_) #[true, false, true, true, true, true, false, true, true, true, true, true, true, false, false, false, false, false, false, false, false] rfl rfl (by kernel_rfl) (fun _ _ _ h => h) (Or.inl ⟨by rfl, ?_⟩) ?_ ?_
      rotate_left
      · intro w'
        go_simp
        with_reducible rfl
      rotate_left
      · simp only [Act.put, List.setIfInBounds_toArray, List.set_cons_zero, List.set_cons_succ, i64_w, i32_w]
        rfl
      refine pure_ (i := 13) (N := some 33) (v := ?_) (a' := ?_) #[true, false, true, true, true, true, false, true, true, true, true, true, true, true, false, false, false, false, false, false, false] rfl rfl (by kernel_rfl) (fun _ _ _ h => h) (Or.inl ⟨by rfl, ?_⟩) ?_ ?_
      rotate_left
      · intro w'
        go_simp
        with_reducible rfl
      rotate_left
      · simp only [Act.put, List.setIfInBounds_toArray, List.set_cons_zero, List.set_cons_succ, i64_w, i32_w]
        rfl
      refine pure_ (i := 14) (N := some 34) (v := ?_) (a' := ?_) #[true, false, true, true, true, true, false, true, true, true, true, true, true, true, true, false, false, false, false, false, false] rfl rfl (by kernel_rfl) (fun _ _ _ h => h) (Or.inl ⟨by rfl, ?_⟩) ?_ ?_
      rotate_left
      · intro w'
        go_simp
        with_reducible rfl
      rotate_left
      · simp only [Act.put, List.setIfInBounds_toArray, List.set_cons_zero, List.set_cons_succ, i64_w, i32_w]
        rfl
      refine pure_ (i := 15) (N := some 35) (v := ?_) (a' := ?_) #[true, false, true, true, true, true, false, true, true, true, true, true, true, true, true, true, false, false, false, false, false] rfl rfl (by kernel_rfl) (fun _ _ _ h => h) (Or.inl ⟨by rfl, ?_⟩) ?_ ?_
      rotate_left
      · intro w'
        go_simp
        with_reducible rfl
      rotate_left
      · simp only [Act.put, List.setIfInBounds_toArray, List.set_cons_zero, List.set_cons_succ, i64_w, i32_w]
        rfl
      refine pure_ (i := 16) (N := some 36) (v := ?_) (a' := ?_) #[true, false, true, true, true, true, false, true, true, true, true, true, true, true, true, true, true, false, false, false, false] rfl rfl (by kernel_rfl) (fun _ _ _ h => h) (Or.inl ⟨by rfl, ?_⟩) ?_ ?_
      rotate_left
      · intro w'
        go_simp
        with_reducible rfl
      rotate_left
      · simp only [Act.put, List.setIfInBounds_toArray, List.set_cons_zero, List.set_cons_succ, i64_w, i32_w]
        rfl
      refine pure_ (i := 17) (N := some 37) (v := ?_) (a' := ?_) #[true, false, true, true, true, true, false, true, true, true, true, true, true, true, true, true, true, true, false, false, false] rfl rfl (by kernel_rfl) (fun _ _ _ h => h) (Or.inl ⟨by rfl, ?_⟩) ?_ ?_
      rotate_left
      · intro w'
        go_simp
        with_reducible rfl
      rotate_left
      · simp only [Act.put, List.setIfInBounds_toArray, List.set_cons_zero, List.set_cons_succ, i64_w, i32_w]
        rfl
      refine take_ (i := 1) (N := some 21) (v := ?_) (a' := ?_) #[true, true, true, true, true, true, false, true, true, true, true, true, true, true, true, true, true, true, false, false, false] rfl rfl (by kernel_rfl) (fun _ _ _ h => h) (Or.inl ⟨by rfl, ?_⟩) hHeld ?_ ?_
      rotate_left
      · intro w' s0
        go_simp
        with_reducible rfl
      rotate_left
      · simp only [Act.put, List.setIfInBounds_toArray, List.set_cons_zero, List.set_cons_succ, i64_w, i32_w]
        rfl
      refine one_ (i := 6) (N := some 26) #[true, true, true, true, true, true, true, true, true, true, true, true, true, true, true, true, true, true, false, false, false] rfl rfl (by kernel_rfl) (by decide) (fun K hK => ?_)
      refine goes_ Try.func41 (by kernel_rfl) rfl #[.int .i64 (n / 2), .func (.func 42) #[] #[.pointer (some ⟨b, 0, none⟩)], .int .i64 from_] (by rfl) rfl rfl (by simp only [List.map_toArray, List.map_cons, List.map_nil]; rfl) ?_
      with_reducible refine (IH.out (n / 2) from_ _ (by have := HN.out; omega) (by omega) (by omega) (by have := HN.out; omega) (blk_below HB.out B3.out) (Kd.C_below HC.out B3.out)).mono ?_
      rintro e w4 ⟨tl, p1, rfl, hT1, hw1, hl1, hb4⟩
      refine ⟨_, rfl, ?_⟩
      have T1 := Lib.hid hT1
      have X1 := Lib.hid (And.intro hw1 hl1)
      have BB4 := Lib.hid hb4
      have B4 := Lib.hid (below_then B3.out B3.out.size hb4)
      clear hT1 hw1 hl1 hb4
      refine hK.out _ _ ((blkc (blk_below P3.out BB4.out))) (fun hHeld => ?_)
      clear hK K
      refine norm_ (a' := ?_) ?_ ?_
      rotate_left
      · show Act.put _ (some 26) _ = _
        simp only [Act.put, List.setIfInBounds_toArray, List.set_cons_zero, List.set_cons_succ, i64_w, i32_w]
        rfl
      refine one_ (i := 18) (N := some 38) #[true, true, true, true, true, true, true, true, true, true, true, true, true, true, true, true, true, true, true, false, false] rfl rfl (by kernel_rfl) (by decide) (fun K hK => ?_)
      refine goes_ Try.func41 (by kernel_rfl) rfl #[.int .i64 (n - n / 2 - 1), .func (.func 42) #[] #[.pointer (some ⟨b, 0, none⟩)], .int .i64 (from_ + n / 2 + 1)] (by rfl) rfl rfl (by simp only [List.map_toArray, List.map_cons, List.map_nil]; rfl) ?_
      with_reducible refine (IH.out (n - n / 2 - 1) (from_ + n / 2 + 1) _ (by have := HN.out; omega) (by omega) (by omega) (by have := HN.out; omega) (blk_below HB.out B4.out) (Kd.C_below HC.out B4.out)).mono ?_
      rintro e w5 ⟨tr, p2, rfl, hT2, hw2, hl2, hb5⟩
      refine ⟨_, rfl, ?_⟩
      have T2 := Lib.hid hT2
      have X2 := Lib.hid (And.intro hw2 hl2)
      have BB5 := Lib.hid hb5
      have B5 := Lib.hid (below_then B4.out B4.out.size hb5)
      have T1b := Lib.hid (T1.out.below hb5)
      clear hT2 hw2 hl2 hb5
      refine hK.out _ _ ((blkc (blk_below (blk_below P3.out BB4.out) BB5.out))) (fun hHeld => ?_)
      clear hK K
      refine norm_ (a' := ?_) ?_ ?_
      rotate_left
      · show Act.put _ (some 38) _ = _
        simp only [Act.put, List.setIfInBounds_toArray, List.set_cons_zero, List.set_cons_succ, i64_w, i32_w]
        rfl
      refine one_ (i := 19) (N := some 39) #[true, true, true, true, true, true, true, true, true, true, true, true, true, true, true, true, true, true, true, true, false] rfl rfl (by kernel_rfl) (by decide) (fun K hK => ?_)
      refine goes_ Try.func64 (by kernel_rfl) rfl #[.string r.key, r.val, .pointer p1, .pointer p2] (by rfl) rfl rfl (by simp only [List.map_toArray, List.map_cons, List.map_nil]; rfl) ?_
      with_reducible refine (made_any r.key r T1b.out T2.out X1.out.1 X2.out.1 (by rw [X1.out.2, X2.out.2, List.length_take, List.length_take]; omega)).mono ?_
      rintro e w6 ⟨p3, rfl, hT3, hb6⟩
      refine ⟨_, rfl, ?_⟩
      have T3 := Lib.hid hT3
      have BB6 := Lib.hid hb6
      have B6 := Lib.hid (below_then B5.out B5.out.size hb6)
      clear hT3 hb6
      refine hK.out _ _ ((blkc (blk_below (blk_below (blk_below P3.out BB4.out) BB5.out) BB6.out))) (fun hHeld => ?_)
      clear hK K
      refine norm_ (a' := ?_) ?_ ?_
      rotate_left
      · show Act.put _ (some 39) _ = _
        simp only [Act.put, List.setIfInBounds_toArray, List.set_cons_zero, List.set_cons_succ, i64_w, i32_w]
        rfl
      refine pure_ (i := 20) (N := some 6) (v := ?_) (a' := ?_) #[true, true, true, true, true, true, true, true, true, true, true, true, true, true, true, true, true, true, true, true, true] rfl rfl (by kernel_rfl) (fun _ _ _ h => h) (Or.inl ⟨by rfl, ?_⟩) ?_ ?_
      rotate_left
      · intro w'
        go_simp
        with_reducible rfl
      rotate_left
      · simp only [Act.put, List.setIfInBounds_toArray, List.set_cons_zero, List.set_cons_succ, i64_w, i32_w]
        rfl
      refine done_ (by kernel_rfl) ?_
      go_wp2
      go_ret
      refine ⟨_, p3, rfl, T3.out, WF.made X1.out.1 X2.out.1 rfl, ?_, B6.out⟩
      have hnf := HN.out
      have hspl := seg_split (l := l) (f := from_.toNat) (n := n.toNat) (k := (n / 2).toNat) (r := r) (by omega) (by rw [show from_.toNat + (n / 2).toNat = (from_ + n / 2).toNat by omega]; exact HU.out)
      show tl.list ++ r :: tr.list = _
      rw [X1.out.2, X2.out.2, hspl, show from_.toNat + (n / 2).toNat + 1 = (from_ + n / 2 + 1).toNat by omega, show n.toNat - (n / 2).toNat - 1 = (n - n / 2 - 1).toNat by omega]
end Go.Proofs.Ytjpalkggmefpfaa.Tab
