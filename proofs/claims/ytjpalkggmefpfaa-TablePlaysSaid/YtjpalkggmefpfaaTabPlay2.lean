/- Three tables and the document's lists: snapshots, any call. -/
import Derived.Test.YtjpalkggmefpfaaTabPlay
set_option linter.unusedVariables false
set_option linter.unusedSimpArgs false
namespace Go.Proofs.Ytjpalkggmefpfaa.Tab
open Go.RowKit Go.Proofs.Ytjpalkggmefpfaa.Mem Go.Proofs.YtjpalkggmefpfaaW.PrintWords Go.Proofs.YtjpalkggmefpfaaW.PrintLast Go.Deep Go.Proofs.Ytjpalkggmefpfaa.Opn
attribute [local go_sem ↓] execOp_call_tmp
attribute [local go_sem] callVal_func
theorem play_snap {n0 : Nat} {w : World} {b : Nat} {g : Nat → Nat} {l : Nat → List Row} {A : Nat → Option Addr} {c : Nat → Nat} {i k q : Nat} (h : PlayR n0 w b g l A c) (hi : i < 3) (hk : k < 3) (hT : TabR w q (l i)) (hq : n0 ≤ q) (hn : ∀ j, j < 3 → q ≠ g j) :
    PlayR n0 ((w.setCell ⟨b, k, none⟩ (.pointer (some ⟨q, 0, none⟩))).setCell ⟨b, 3 + k, none⟩ (.slice (A i) (l i).length (c i))) b (upd g k q) (upd l k (l i)) (upd A k (A i)) (upd c k (c i)) ∧ Kept w ((w.setCell ⟨b, k, none⟩ (.pointer (some ⟨q, 0, none⟩))).setCell ⟨b, 3 + k, none⟩ (.slice (A i) (l i).length (c i))) (SP n0 w) := by
  have hB : PB w b g l A c := h.blk
  obtain ⟨cs, hc, _⟩ := id hB
  have hc2 := blk_set hc k (.pointer (some ⟨q, 0, none⟩))
  have s1 := SP.set (n0 := n0) hc h.hb k (.pointer (some ⟨q, 0, none⟩))
  have s2 := SP.set (n0 := n0) hc2 h.hb (3 + k) (.slice (A i) (l i).length (c i))
  have hs := SP.then_ s1 s2
  refine ⟨⟨(hB.setT hk q).setX hk (l i) (A i) (c i), fun j hj => ?_, fun j hj => ?_, fun j hj => ?_, fun j hj => ?_, fun x y hx hy hxy => ?_, h.hb⟩, hs⟩
  · by_cases hjk : j = k
    · subst hjk
      rw [upd_same, upd_same]
      exact (hT.setP hc).setP hc2
    · rw [upd_other _ _ hjk, upd_other _ _ hjk]
      exact ((h.tab j hj).setP hc).setP hc2
  · by_cases hjk : j = k
    · subst hjk
      rw [upd_same]
      exact h.ok i hi
    · rw [upd_other _ _ hjk]
      exact h.ok j hj
  · by_cases hjk : j = k
    · subst hjk
      rw [upd_same, upd_same, upd_same]
      exact (h.xr i hi).kept hs
    · rw [upd_other _ _ hjk, upd_other _ _ hjk, upd_other _ _ hjk]
      exact (h.xr j hj).kept hs
  · by_cases hjk : j = k
    · subst hjk
      rw [upd_same]
      exact hq
    · rw [upd_other _ _ hjk]
      exact h.ge j hj
  · by_cases hxk : x = k
    · subst hxk
      rw [upd_same, upd_other _ _ (fun e => hxy e.symm)]
      exact hn y hy
    · by_cases hyk : y = k
      · subst hyk
        rw [upd_same, upd_other _ _ hxk]
        exact fun e => hn x hx e.symm
      · rw [upd_other _ _ hxk, upd_other _ _ hyk]
        exact h.ne x y hx hy hxy
theorem run_ne_tab (w : World) (a : Addr) : (binOp .neq 32 (.pointer (some a)) (.pointer none)).run Try.prog w = .ok (.bool true) w := by
  rw [run_neq_pointer_nil w _ _ (by have h := Try.underlying32; simp [Program.pointee, h])]
  rfl
set_option maxHeartbeats 12800000 in
set_option maxRecDepth 100000 in
theorem change_snap {w w0 : World} {b : Nat} {g : Nat → Nat} {l : Nat → List Row} {A : Nat → Option Addr} {c : Nat → Nat} (h : PlayR w0.heap.size w b g l A c) (HB : Below w0.heap.size w0 w) (s : TStep) (hs : s.call = 3) {Av : Option Addr} {cv : Nat} :
    Calls Try.prog 28 #[.pointer (some ⟨b, 0, none⟩), .agg #[Value.int .i64 s.call, .int .i64 s.table, .int .i64 s.to2, .string s.row.key, .string s.row.value, .int .i64 s.row.version, .string s.key, .string s.from_, .string s.upto, .slice Av s.rows.length cv, .int .i64 s.n]] w fun e w' => ChangePost w0 w w' b g s (upd l (idx s.to2) (l (idx s.table))) e := by
  have hi := idx_lt s.table
  have hk := idx_lt s.to2
  have ba := below_alloc (Below.refl w.heap.size w) (.cells #[Value.int .i64 s.call, .int .i64 s.table, .int .i64 s.to2, .string s.row.key, .string s.row.value, .int .i64 s.row.version, .string s.key, .string s.from_, .string s.upto, .slice Av s.rows.length cv, .int .i64 s.n] tOp)
  have Q0 := Lib.hid (blk_new w (.cells #[Value.int .i64 s.call, .int .i64 s.table, .int .i64 s.to2, .string s.row.key, .string s.row.value, .int .i64 s.row.version, .string s.key, .string s.from_, .string s.upto, .slice Av s.rows.length cv, .int .i64 s.n] tOp))
  have PL := Lib.hid (h.below ba)
  have B0 := Lib.hid (below_then HB HB.size ba)
  have K0 := Lib.hid (Kept.of_below ba (SP w0.heap.size w))
  clear h HB ba
  have d0 : (s.call == 0) = false := by simp [hs]
  have d1 : (s.call == 1) = false := by simp [hs]
  have d2 : (s.call == 2) = false := by simp [hs]
  have d3 : (s.call == 3) = true := by simpa using hs
  have HS3 := Lib.hid hs
  clear hs
  have cq := blkc Q0.out
  go_enter Try.func28, Try.ntmps28
  go_wp2_with fail
  generalize (World.alloc w _) = W0 at *
  generalize w.heap.size = q at *
  clear cq
  refine (index_any s.table W0).mono ?_
  rintro e w1 ⟨rfl, rfl⟩
  obtain ⟨i, hidx⟩ : ∃ i, idx s.table = i := ⟨_, rfl⟩
  rw [hidx] at hi ⊢
  have HIX := Lib.hid hidx
  clear hidx
  have cq := blkc Q0.out
  go_wp2_with fail
  refine (index_any s.to2 W0).mono ?_
  rintro e w1 ⟨rfl, rfl⟩
  obtain ⟨k, hkdx⟩ : ∃ k, idx s.to2 = k := ⟨_, rfl⟩
  rw [hkdx] at hk ⊢
  have HKX := Lib.hid hkdx
  clear hkdx
  go_wp2_with fail
  clear cq d0 d1 d2 d3
  have p0 := eq_true (show 0 ≤ (i : Int) by omega)
  have p3 := eq_true (show (i : Int) < 3 by omega)
  have p4 := eq_true (show i < 3 by omega)
  have r0 := eq_true (show 0 ≤ (k : Int) by omega)
  have r3 := eq_true (show (k : Int) < 3 by omega)
  have r4 := eq_true (show k < 3 by omega)
  have PD := Lib.hid (PL.out.below (below_drew (Below.refl _ _)))
  have QD := Lib.hid (blk_drew Q0.out)
  have BD := Lib.hid B0.out.drew
  have KD := Lib.hid K0.out.drew
  refine start_ (n := 13) (S := fun w' => w'.cell? ⟨b, i, none⟩ = some (.pointer (some ⟨g i, 0, none⟩)) ∧ (∀ o, w'.cell? ⟨q, o, none⟩ = #[Value.int .i64 s.call, .int .i64 s.table, .int .i64 s.to2, .string s.row.key, .string s.row.value, .int .i64 s.row.version, .string s.key, .string s.from_, .string s.upto, .slice Av s.rows.length cv, .int .i64 s.n][o]?)) (ds := [8, 12]) #[false, false, false, false, false, false, false, false, false, false, false, false, false] (by kernel_rfl) rfl rfl ⟨(PL.out.cellT hi), (blkc Q0.out)⟩ (fun hHeld => ?_)
  refine pure_ (i := 0) (N := some 152) (v := ?_) (a' := ?_) #[true, false, false, false, false, false, false, false, false, false, false, false, false] rfl rfl (by kernel_rfl) (fun _ _ _ h => h) (Or.inl ⟨by rfl, ?_⟩) ?_ ?_
  rotate_left
  · intro w'
    go_simp
    with_reducible rfl
  rotate_left
  · simp only [Act.put, List.setIfInBounds_toArray, List.set_cons_zero, List.set_cons_succ, i64_w, i32_w]
    rfl
  refine pure_ (i := 1) (N := some 153) (v := ?_) (a' := ?_) #[true, true, false, false, false, false, false, false, false, false, false, false, false] rfl rfl (by kernel_rfl) (fun _ _ _ h => h) (Or.inl ⟨by rfl, ?_⟩) ?_ ?_
  rotate_left
  · intro w'
    go_simp
    with_reducible rfl
  rotate_left
  · simp only [Act.put, List.setIfInBounds_toArray, List.set_cons_zero, List.set_cons_succ, i64_w, i32_w]
    rfl
  refine pure_ (i := 2) (N := some 154) (v := ?_) (a' := ?_) #[true, true, true, false, false, false, false, false, false, false, false, false, false] rfl rfl (by kernel_rfl) (fun _ _ _ h => h) (Or.inl ⟨by rfl, ?_⟩) ?_ ?_
  rotate_left
  · intro w'
    go_simp
    with_reducible rfl
  rotate_left
  · simp only [Act.put, List.setIfInBounds_toArray, List.set_cons_zero, List.set_cons_succ, i64_w, i32_w]
    rfl
  refine pure_ (i := 3) (N := some 155) (v := ?_) (a' := ?_) #[true, true, true, true, false, false, false, false, false, false, false, false, false] rfl rfl (by kernel_rfl) (fun _ _ _ h => h) (Or.inl ⟨by rfl, ?_⟩) ?_ ?_
  rotate_left
  · intro w'
    go_simp
    with_reducible rfl
  rotate_left
  · simp only [Act.put, List.setIfInBounds_toArray, List.set_cons_zero, List.set_cons_succ, i64_w, i32_w]
    rfl
  refine pure_ (i := 4) (N := some 156) (v := ?_) (a' := ?_) #[true, true, true, true, true, false, false, false, false, false, false, false, false] rfl rfl (by kernel_rfl) (fun _ _ _ h => h) (Or.inl ⟨by rfl, ?_⟩) ?_ ?_
  rotate_left
  · intro w'
    go_simp
    with_reducible rfl
  rotate_left
  · simp only [Act.put, List.setIfInBounds_toArray, List.set_cons_zero, List.set_cons_succ, i64_w, i32_w]
    rfl
  refine pure_ (i := 5) (N := some 157) (v := ?_) (a' := ?_) #[true, true, true, true, true, true, false, false, false, false, false, false, false] rfl rfl (by kernel_rfl) (fun _ _ _ h => h) (Or.inl ⟨by rfl, ?_⟩) ?_ ?_
  rotate_left
  · intro w'
    go_simp
    with_reducible rfl
  rotate_left
  · simp only [Act.put, List.setIfInBounds_toArray, List.set_cons_zero, List.set_cons_succ, i64_w, i32_w]
    rfl
  refine pure_ (i := 6) (N := some 158) (v := ?_) (a' := ?_) #[true, true, true, true, true, true, true, false, false, false, false, false, false] rfl rfl (by kernel_rfl) (fun _ _ _ h => h) (Or.inl ⟨by rfl, ?_⟩) ?_ ?_
  rotate_left
  · intro w'
    go_simp
    with_reducible rfl
  rotate_left
  · simp only [Act.put, List.setIfInBounds_toArray, List.set_cons_zero, List.set_cons_succ, i64_w, i32_w]
    rfl
  refine pure_ (i := 9) (N := some 161) (v := ?_) (a' := ?_) #[true, true, true, true, true, true, true, false, false, true, false, false, false] rfl rfl (by kernel_rfl) (fun _ _ _ h => h) (Or.inl ⟨by rfl, ?_⟩) ?_ ?_
  rotate_left
  · intro w'
    go_simp
    with_reducible rfl
  rotate_left
  · simp only [Act.put, List.setIfInBounds_toArray, List.set_cons_zero, List.set_cons_succ, i64_w, i32_w]
    rfl
  refine pure_ (i := 10) (N := some 162) (v := ?_) (a' := ?_) #[true, true, true, true, true, true, true, false, false, true, true, false, false] rfl rfl (by kernel_rfl) (fun _ _ _ h => h) (Or.inl ⟨by rfl, ?_⟩) ?_ ?_
  rotate_left
  · intro w'
    go_simp
    with_reducible rfl
  rotate_left
  · simp only [Act.put, List.setIfInBounds_toArray, List.set_cons_zero, List.set_cons_succ, i64_w, i32_w]
    rfl
  refine take_ (i := 7) (N := some 159) (v := ?_) (a' := ?_) #[true, true, true, true, true, true, true, true, false, true, true, false, false] rfl rfl (by kernel_rfl) (fun _ _ _ h => h) (Or.inl ⟨by rfl, ?_⟩) hHeld ?_ ?_
  rotate_left
  · rintro w' ⟨s0, s1⟩
    go_simp
    with_reducible rfl
  rotate_left
  · simp only [Act.put, List.setIfInBounds_toArray, List.set_cons_zero, List.set_cons_succ, i64_w, i32_w]
    rfl
  refine last_ (i := 8) (N := some 160) #[true, true, true, true, true, true, true, true, true, true, true, false, false] rfl rfl (by kernel_rfl) (by decide) (fun K hK => ?_)
  refine goes_ Try.func34 (by kernel_rfl) rfl #[.pointer (some ⟨g i, 0, none⟩)] (by rfl) rfl rfl (by simp only [List.map_toArray, List.map_cons, List.map_nil]; rfl) ?_
  with_reducible refine (snap_any (PD.out.tab i hi)).mono ?_
  rintro e w4 ⟨q2, rfl, hq2, hT4, hb4⟩
  refine ⟨_, rfl, ?_⟩
  have PL4 := Lib.hid (PD.out.below hb4)
  have T4 := Lib.hid hT4
  have B4 := Lib.hid (below_then BD.out BD.out.size hb4)
  have K4 := Lib.hid (KD.out.below hb4)
  have Q4 := Lib.hid (blk_below QD.out hb4)
  have HQ2 := Lib.hid (show ∀ j, j < 3 → q2 ≠ g j from fun j hj e => by have h1 := (PD.out.tab j hj).lt; omega)
  have HQN := Lib.hid (Nat.le_trans BD.out.size hq2)
  have cpk := PL4.out.cellT hk
  have zpk := PB.frozen PL4.out.blk
  clear hq2 hT4 hb4
  refine hK.out _ _ ?_
  clear hK K
  refine norm_ (a' := ?_) ?_ ?_
  rotate_left
  · show Act.put _ (some 160) _ = _
    simp only [Act.put, List.setIfInBounds_toArray, List.set_cons_zero, List.set_cons_succ, i64_w, i32_w]
    rfl
  refine pure_ (i := 11) (N := some 163) (v := ?_) (a' := ?_) #[true, true, true, true, true, true, true, true, true, true, true, true, false] rfl rfl (by kernel_rfl) (fun _ _ _ h => h) (Or.inl ⟨by rfl, ?_⟩) ?_ ?_
  rotate_left
  · intro w'
    go_simp
    with_reducible rfl
  rotate_left
  · simp only [Act.put, List.setIfInBounds_toArray, List.set_cons_zero, List.set_cons_succ, i64_w, i32_w]
    rfl
  refine last_ (i := 12) (N := none) #[true, true, true, true, true, true, true, true, true, true, true, true, true] rfl rfl (by kernel_rfl) (by decide) (fun K hK => ?_)
  refine skip_ (w1 := ?_) (by rfl) rfl ?_ ?_
  rotate_left
  · go_simp
    rfl
  refine hK.out _ _ ?_
  clear hK K
  refine done_ (by kernel_rfl) ?_
  have FIN := Lib.hid (play_snap PL4.out hi hk T4.out HQN.out HQ2.out)
  have PB5 := Lib.hid ((show PB w4 b g l A c from PL4.out.blk).setT hk q2)
  have HKB := Lib.hid (And.intro (SP.then_ K4.out FIN.out.2) (below_set (j := 3 + k) (v := .slice (A i) (l i).length (c i)) (below_set (j := k) (v := .pointer (some ⟨q2, 0, none⟩)) B4.out PD.out.hb) PD.out.hb))
  clear cpk zpk PL4 T4 B4 K4 HQN HQ2 Q4 PD QD BD KD Q0 PL B0 K0
  generalize hW5 : (World.setCell w4 _ _) = w5 at *
  have cxi := PB5.out.cellX hi
  have cxk := PB5.out.cellX hk
  have zxk := PB5.out.frozen
  go_wp2_with fail
  refine start_ (n := 12) (S := fun w' => w'.cell? ⟨b, 3 + i, none⟩ = some (.slice (A i) (l i).length (c i))) (ds := [11]) #[false, false, false, false, false, false, false, false, false, false, false, false] (by kernel_rfl) rfl rfl (cxi) (fun hHeld => ?_)
  refine pure_ (i := 0) (N := some 164) (v := ?_) (a' := ?_) #[true, false, false, false, false, false, false, false, false, false, false, false] rfl rfl (by kernel_rfl) (fun _ _ _ h => h) (Or.inl ⟨by rfl, ?_⟩) ?_ ?_
  rotate_left
  · intro w'
    go_simp
    with_reducible rfl
  rotate_left
  · simp only [Act.put, List.setIfInBounds_toArray, List.set_cons_zero, List.set_cons_succ, i64_w, i32_w]
    rfl
  refine pure_ (i := 1) (N := some 165) (v := ?_) (a' := ?_) #[true, true, false, false, false, false, false, false, false, false, false, false] rfl rfl (by kernel_rfl) (fun _ _ _ h => h) (Or.inl ⟨by rfl, ?_⟩) ?_ ?_
  rotate_left
  · intro w'
    go_simp
    with_reducible rfl
  rotate_left
  · simp only [Act.put, List.setIfInBounds_toArray, List.set_cons_zero, List.set_cons_succ, i64_w, i32_w]
    rfl
  refine pure_ (i := 2) (N := some 166) (v := ?_) (a' := ?_) #[true, true, true, false, false, false, false, false, false, false, false, false] rfl rfl (by kernel_rfl) (fun _ _ _ h => h) (Or.inl ⟨by rfl, ?_⟩) ?_ ?_
  rotate_left
  · intro w'
    go_simp
    with_reducible rfl
  rotate_left
  · simp only [Act.put, List.setIfInBounds_toArray, List.set_cons_zero, List.set_cons_succ, i64_w, i32_w]
    rfl
  refine pure_ (i := 3) (N := some 167) (v := ?_) (a' := ?_) #[true, true, true, true, false, false, false, false, false, false, false, false] rfl rfl (by kernel_rfl) (fun _ _ _ h => h) (Or.inl ⟨by rfl, ?_⟩) ?_ ?_
  rotate_left
  · intro w'
    go_simp
    with_reducible rfl
  rotate_left
  · simp only [Act.put, List.setIfInBounds_toArray, List.set_cons_zero, List.set_cons_succ, i64_w, i32_w]
    rfl
  refine pure_ (i := 4) (N := some 168) (v := ?_) (a' := ?_) #[true, true, true, true, true, false, false, false, false, false, false, false] rfl rfl (by kernel_rfl) (fun _ _ _ h => h) (Or.inl ⟨by rfl, ?_⟩) ?_ ?_
  rotate_left
  · intro w'
    go_simp
    with_reducible rfl
  rotate_left
  · simp only [Act.put, List.setIfInBounds_toArray, List.set_cons_zero, List.set_cons_succ, i64_w, i32_w]
    rfl
  refine pure_ (i := 5) (N := some 169) (v := ?_) (a' := ?_) #[true, true, true, true, true, true, false, false, false, false, false, false] rfl rfl (by kernel_rfl) (fun _ _ _ h => h) (Or.inl ⟨by rfl, ?_⟩) ?_ ?_
  rotate_left
  · intro w'
    go_simp
    with_reducible rfl
  rotate_left
  · simp only [Act.put, List.setIfInBounds_toArray, List.set_cons_zero, List.set_cons_succ, i64_w, i32_w]
    rfl
  refine pure_ (i := 6) (N := some 170) (v := ?_) (a' := ?_) #[true, true, true, true, true, true, true, false, false, false, false, false] rfl rfl (by kernel_rfl) (fun _ _ _ h => h) (Or.inl ⟨by rfl, ?_⟩) ?_ ?_
  rotate_left
  · intro w'
    go_simp
    with_reducible rfl
  rotate_left
  · simp only [Act.put, List.setIfInBounds_toArray, List.set_cons_zero, List.set_cons_succ, i64_w, i32_w]
    rfl
  refine pure_ (i := 8) (N := some 172) (v := ?_) (a' := ?_) #[true, true, true, true, true, true, true, false, true, false, false, false] rfl rfl (by kernel_rfl) (fun _ _ _ h => h) (Or.inl ⟨by rfl, ?_⟩) ?_ ?_
  rotate_left
  · intro w'
    go_simp
    with_reducible rfl
  rotate_left
  · simp only [Act.put, List.setIfInBounds_toArray, List.set_cons_zero, List.set_cons_succ, i64_w, i32_w]
    rfl
  refine pure_ (i := 9) (N := some 173) (v := ?_) (a' := ?_) #[true, true, true, true, true, true, true, false, true, true, false, false] rfl rfl (by kernel_rfl) (fun _ _ _ h => h) (Or.inl ⟨by rfl, ?_⟩) ?_ ?_
  rotate_left
  · intro w'
    go_simp
    with_reducible rfl
  rotate_left
  · simp only [Act.put, List.setIfInBounds_toArray, List.set_cons_zero, List.set_cons_succ, i64_w, i32_w]
    rfl
  refine take_ (i := 7) (N := some 171) (v := ?_) (a' := ?_) #[true, true, true, true, true, true, true, true, true, true, false, false] rfl rfl (by kernel_rfl) (fun _ _ _ h => h) (Or.inl ⟨by rfl, ?_⟩) hHeld ?_ ?_
  rotate_left
  · intro w' s0
    go_simp
    with_reducible rfl
  rotate_left
  · simp only [Act.put, List.setIfInBounds_toArray, List.set_cons_zero, List.set_cons_succ, i64_w, i32_w]
    rfl
  refine pure_ (i := 10) (N := some 174) (v := ?_) (a' := ?_) #[true, true, true, true, true, true, true, true, true, true, true, false] rfl rfl (by kernel_rfl) (fun _ _ _ h => h) (Or.inl ⟨by rfl, ?_⟩) ?_ ?_
  rotate_left
  · intro w'
    go_simp
    with_reducible rfl
  rotate_left
  · simp only [Act.put, List.setIfInBounds_toArray, List.set_cons_zero, List.set_cons_succ, i64_w, i32_w]
    rfl
  refine last_ (i := 11) (N := none) #[true, true, true, true, true, true, true, true, true, true, true, true] rfl rfl (by kernel_rfl) (by decide) (fun K hK => ?_)
  refine skip_ (w1 := ?_) (by rfl) rfl ?_ ?_
  rotate_left
  · go_simp
    rfl
  refine hK.out _ _ ?_
  clear hK K
  refine done_ (by kernel_rfl) ?_
  have FD := Lib.hid (FIN.out.1.below (below_drew (Below.refl _ _)))
  have KB := Lib.hid (And.intro HKB.out.1.drew HKB.out.2.drew)
  clear FIN HKB PB5 cxi cxk zxk
  generalize (World.drew _) = w6 at *
  have cT := FD.out.cellT hk
  rw [upd_same] at cT
  have hnn := fun W => run_ne_tab W ⟨q2, 0, none⟩
  go_wp2_with fail
  go_ret
  have GJ : Hid (∀ j, j < 3 → upd g k q2 j = g j ∨ (s.call = 3 ∧ idx s.to2 = j)) := Lib.hid (fun j _ => by
    by_cases hjk : j = k
    · exact .inr ⟨HS3.out, by rw [HKX.out, hjk]⟩
    · exact .inl (upd_other _ _ hjk))
  rw [HIX.out, HKX.out]
  exact ⟨rfl, ⟨_, _, _, FD.out, GJ.out⟩, KB.out.1, KB.out.2⟩
set_option maxHeartbeats 12800000 in
set_option maxRecDepth 100000 in
theorem change_none {w w0 : World} {b : Nat} {g : Nat → Nat} {l : Nat → List Row} {A : Nat → Option Addr} {c : Nat → Nat} (h : PlayR w0.heap.size w b g l A c) (HB : Below w0.heap.size w0 w) (s : TStep) (h0 : s.call ≠ 0) (h1 : s.call ≠ 1) (h2 : s.call ≠ 2) (h3 : s.call ≠ 3) {Av : Option Addr} {cv : Nat} :
    Calls Try.prog 28 #[.pointer (some ⟨b, 0, none⟩), .agg #[Value.int .i64 s.call, .int .i64 s.table, .int .i64 s.to2, .string s.row.key, .string s.row.value, .int .i64 s.row.version, .string s.key, .string s.from_, .string s.upto, .slice Av s.rows.length cv, .int .i64 s.n]] w fun e w' => ChangePost w0 w w' b g s l e := by
  have ba := below_alloc (Below.refl w.heap.size w) (.cells #[Value.int .i64 s.call, .int .i64 s.table, .int .i64 s.to2, .string s.row.key, .string s.row.value, .int .i64 s.row.version, .string s.key, .string s.from_, .string s.upto, .slice Av s.rows.length cv, .int .i64 s.n] tOp)
  have Q0 := Lib.hid (blk_new w (.cells #[Value.int .i64 s.call, .int .i64 s.table, .int .i64 s.to2, .string s.row.key, .string s.row.value, .int .i64 s.row.version, .string s.key, .string s.from_, .string s.upto, .slice Av s.rows.length cv, .int .i64 s.n] tOp))
  have PL := Lib.hid (h.below ba)
  have B0 := Lib.hid (below_then HB HB.size ba)
  have K0 := Lib.hid (Kept.of_below ba (SP w0.heap.size w))
  clear h HB ba
  have d0 : (s.call == 0) = false := by simpa using h0
  have d1 : (s.call == 1) = false := by simpa using h1
  have d2 : (s.call == 2) = false := by simpa using h2
  have d3 : (s.call == 3) = false := by simpa using h3
  clear h0 h1 h2 h3
  have cq := blkc Q0.out
  go_enter Try.func28, Try.ntmps28
  go_wp2_with fail
  generalize (World.alloc w _) = W0 at *
  generalize w.heap.size = q at *
  clear cq
  refine (index_any s.table W0).mono ?_
  rintro e w1 ⟨rfl, rfl⟩
  have cq := blkc Q0.out
  go_wp2
  go_ret
  exact ⟨rfl, ⟨_, _, _, PL.out, fun _ _ => .inl rfl⟩, K0.out, B0.out⟩
theorem change_any {w w0 : World} {b : Nat} {g : Nat → Nat} {l : Nat → List Row} {A : Nat → Option Addr} {c : Nat → Nat} (h : PlayR w0.heap.size w b g l A c) (HB : Below w0.heap.size w0 w) (s : TStep) {Av : Option Addr} {cv : Nat} (hbig : s.rows.length ≤ 3518437208780) (hC : ∀ W, Below w0.heap.size w0 W → kR.C W Av s.rows.length s.rows) :
    Calls Try.prog 28 #[.pointer (some ⟨b, 0, none⟩), .agg #[Value.int .i64 s.call, .int .i64 s.table, .int .i64 s.to2, .string s.row.key, .string s.row.value, .int .i64 s.row.version, .string s.key, .string s.from_, .string s.upto, .slice Av s.rows.length cv, .int .i64 s.n]] w fun e w' => ChangePost w0 w w' b g s (changeP l s) e := by
  unfold changeP
  by_cases h0 : s.call = 0
  · rw [if_pos h0]; exact change_put h HB s h0
  · rw [if_neg h0]
    by_cases h1 : s.call = 1
    · rw [if_pos h1]; exact change_del h HB s h1
    · rw [if_neg h1]
      by_cases h2 : s.call = 2
      · rw [if_pos h2]; exact change_rep h HB s h2 hbig hC
      · rw [if_neg h2]
        by_cases h3 : s.call = 3
        · rw [if_pos h3]; exact change_snap h HB s h3
        · rw [if_neg h3]; exact change_none h HB s h0 h1 h2 h3

end Go.Proofs.Ytjpalkggmefpfaa.Tab
