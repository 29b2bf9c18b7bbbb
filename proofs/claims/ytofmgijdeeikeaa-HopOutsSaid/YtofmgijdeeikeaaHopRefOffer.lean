/- The document's Offer, walked. -/
import Derived.Test.YtofmgijdeeikeaaHopRefAck
import Derived.Test.YtofmgijdeeikeaaHopRefTakeN
set_option linter.unusedVariables false
set_option linter.unusedSimpArgs false
namespace Go.Proofs.Ytofmgijdeeikeaa.Hop
open Go.RowKit Go.Proofs.Ytofmgijdeeikeaa.Mem Go.Proofs.YtofmgijdeeikeaaW.PrintWords Go.Proofs.YtofmgijdeeikeaaW.PrintLast Go.Deep
set_option maxHeartbeats 3200000 in
set_option maxRecDepth 100000 in
theorem refOffer_no {w w0 : World} {g : Nat} {v : Value} {x : RO} (u : U) (hok : x.Ok) (h : ROR w w0.heap.size g v x) (hg : w0.heap.size ≤ g) (HB : Below w0.heap.size w0 w) (hn : u.seq ≠ x.last + 1) :
    Calls Try.prog 27 #[.pointer (some ⟨g, 0, none⟩), u.val] w fun e w' => ∃ r, e = .returned (.tuple #[r, .int .i64 190]) ∧ ROPost w w0 g v x [] r w' := by
  have hok1 := hok.h0
  have hok2 := hok.h1
  have hok3 := hok.h2
  have hfa := hok.fa
  have has := hok.ast
  have hsl := hok.sl
  have hc0 := hok.c0
  have hc1 := hok.c1
  have hla : x.last = x.first + (x.all.length : Int) := rfl
  have hlab : x.last ≤ 1152921504606846976 + 1649267441664 := by omega
  have HLA := Lib.hid hla
  have OK := Lib.hid hok
  have hgw : g < w.heap.size := blk_lt h.1
  have hws : w0.heap.size ≤ w.heap.size := HB.size
  have HVL := Lib.hid (Kd.R_lt h.2)
  have X0 := Lib.hid h
  have B0 := Lib.hid HB
  have K0 := Lib.hid (Kept.refl w (fun k => k = g ∨ some k = v.ownBlock))
  have e1 : IntKind.i64.wrap (x.clock + 1) = x.clock + 1 := IntWalk.i64_in _ (by omega)
  have e2 : IntKind.i64.wrap (x.acked + 1) = x.acked + 1 := IntWalk.i64_in _ (by omega)
  have c7 := (show w.cell? ⟨g, 7, none⟩ = some (.int .i64 x.acked) from blkc h.1 7)
  have c8 := (show w.cell? ⟨g, 8, none⟩ = some (.int .i64 x.sent) from blkc h.1 8)
  clear c7 c8 h HB hok hla
  have t1 : (u.seq != x.last + 1) = true := by simpa using hn
  clear hn
  have P1 := Lib.hid (blk_new w (.cells #[.int .i64 u.seq, .int .i64 u.client, .int .i64 u.number, .int .i64 u.kind, .string u.key, .string u.value, .int .i64 u.version] tU))
  have X1 := Lib.hid (X0.out.below (below_alloc (Below.refl _ _) (.cells #[.int .i64 u.seq, .int .i64 u.client, .int .i64 u.number, .int .i64 u.kind, .string u.key, .string u.value, .int .i64 u.version] tU)))
  have B1 := Lib.hid (below_alloc B0.out (.cells #[.int .i64 u.seq, .int .i64 u.client, .int .i64 u.number, .int .i64 u.kind, .string u.key, .string u.value, .int .i64 u.version] tU))
  have K1 := Lib.hid (K0.out.alloc (.cells #[.int .i64 u.seq, .int .i64 u.client, .int .i64 u.number, .int .i64 u.kind, .string u.key, .string u.value, .int .i64 u.version] tU))
  clear X0 B0 K0
  have e3 : IntKind.i64.wrap (x.last + 1) = x.last + 1 := IntWalk.i64_in _ (by omega)
  have e4 : wrap64 (x.last + 1) = x.last + 1 := by rw [← i64_w]; exact e3
  go_enter Try.func27, Try.ntmps27
  go_wp2_with fail
  generalize hpp : w.heap.size = p at *
  have HPP := Lib.hid hpp
  clear hpp
  generalize (World.alloc w _) = W1 at *
  have Pd := Lib.hid (blk_drew P1.out)
  have Xd := Lib.hid (X1.out.below (below_drew (Below.refl _ _)))
  have Bd := Lib.hid B1.out.drew
  have Kd_ := Lib.hid K1.out.drew
  clear P1 X1 B1 K1
  refine start_ (n := 6) (S := fun w' => (∀ o, w'.cell? ⟨p, o, none⟩ = #[Value.int .i64 u.seq, .int .i64 u.client, .int .i64 u.number, .int .i64 u.kind, .string u.key, .string u.value, .int .i64 u.version][o]?)) (ds := []) #[false, false, false, false, false, false] (by kernel_rfl) rfl rfl ((blkc Pd.out)) (fun hHeld => ?_)
  refine pure_ (i := 0) (N := some 6) (v := ?_) (a' := ?_) #[true, false, false, false, false, false] rfl rfl (by kernel_rfl) (fun _ _ _ h => h) (Or.inl ⟨by rfl, ?_⟩) ?_ ?_
  rotate_left
  · intro w'
    go_simp
    with_reducible rfl
  rotate_left
  · simp only [Act.put, List.setIfInBounds_toArray, List.set_cons_zero, List.set_cons_succ, i64_w, i32_w]
    rfl
  refine pure_ (i := 2) (N := some 8) (v := ?_) (a' := ?_) #[true, false, true, false, false, false] rfl rfl (by kernel_rfl) (fun _ _ _ h => h) (Or.inl ⟨by rfl, ?_⟩) ?_ ?_
  rotate_left
  · intro w'
    go_simp
    with_reducible rfl
  rotate_left
  · simp only [Act.put, List.setIfInBounds_toArray, List.set_cons_zero, List.set_cons_succ, i64_w, i32_w]
    rfl
  refine take_ (i := 1) (N := some 7) (v := ?_) (a' := ?_) #[true, true, true, false, false, false] rfl rfl (by kernel_rfl) (fun _ _ _ h => h) (Or.inl ⟨by rfl, ?_⟩) hHeld ?_ ?_
  rotate_left
  · intro w' s0
    go_simp
    with_reducible rfl
  rotate_left
  · simp only [Act.put, List.setIfInBounds_toArray, List.set_cons_zero, List.set_cons_succ, i64_w, i32_w]
    rfl
  refine one_ (i := 3) (N := some 9) #[true, true, true, true, false, false] rfl rfl (by kernel_rfl) (by decide) (fun K hK => ?_)
  refine goes_ Try.func24 (by kernel_rfl) rfl #[.pointer (some ⟨g, 0, none⟩)] (by rfl) rfl rfl (by simp only [List.map_toArray, List.map_cons, List.map_nil]; rfl) ?_
  with_reducible refine (refLastY (x := x) Xd.out rfl hok1 (by omega) hok3).mono ?_
  rintro e w1 ⟨rfl, nL, rfl⟩
  refine ⟨_, rfl, ?_⟩
  have P2 := Lib.hid (show (World.drewN (World.drew W1) nL).heap[p]? = some (.cells #[.int .i64 u.seq, .int .i64 u.client, .int .i64 u.number, .int .i64 u.kind, .string u.key, .string u.value, .int .i64 u.version] tU (0, 0)) from Pd.out)
  have X2 := Lib.hid (Xd.out.drewN nL)
  have B2 := Lib.hid (pw_below_drewN Bd.out nL)
  have K2 := Lib.hid (Kd_.out.drewN nL)
  clear Pd Xd Bd Kd_
  generalize (World.drewN (World.drew W1) nL) = W2 at *
  refine hK.out _ _ ((blkc P2.out)) (fun hHeld => ?_)
  clear hK K
  refine norm_ (a' := ?_) ?_ ?_
  rotate_left
  · show Act.put _ (some 9) _ = _
    simp only [Act.put, List.setIfInBounds_toArray, List.set_cons_zero, List.set_cons_succ, i64_w, i32_w]
    rfl
  refine pure_ (i := 4) (N := some 10) (v := ?_) (a' := ?_) #[true, true, true, true, true, false] rfl rfl (by kernel_rfl) (fun _ _ _ h => h) (Or.inl ⟨by rfl, ?_⟩) ?_ ?_
  rotate_left
  · intro w'
    go_simp
    with_reducible rfl
  rotate_left
  · simp only [Act.put, List.setIfInBounds_toArray, List.set_cons_zero, List.set_cons_succ, i64_w, i32_w]
    rfl
  refine pure_ (i := 5) (N := some 11) (v := ?_) (a' := ?_) #[true, true, true, true, true, true] rfl rfl (by kernel_rfl) (fun _ _ _ h => h) (Or.inl ⟨by rfl, ?_⟩) ?_ ?_
  rotate_left
  · intro w'
    go_simp
    with_reducible rfl
  rotate_left
  · simp only [Act.put, List.setIfInBounds_toArray, List.set_cons_zero, List.set_cons_succ, i64_w, i32_w]
    rfl
  refine done_ (by kernel_rfl) ?_
  go_wp2
  go_ret2
  exact ⟨_, rfl, v, X2.out, .inl rfl, Kd.R_nil _ _ _ _ _, K2.out, B2.out⟩
set_option maxHeartbeats 3200000 in
set_option maxRecDepth 100000 in
theorem refOffer_ok {w w0 : World} {g : Nat} {v : Value} {x : RO} (u : U) (hok : x.Ok) (h : ROR w w0.heap.size g v x) (hg : w0.heap.size ≤ g) (HB : Below w0.heap.size w0 w) (hn : u.seq = x.last + 1) (hlen : x.all.length < 1649267441664) :
    Calls Try.prog 27 #[.pointer (some ⟨g, 0, none⟩), u.val] w fun e w' => ∃ r, e = .returned (.tuple #[r, .int .i64 0]) ∧ ROPost w w0 g v (x.setAll (x.all ++ [u])).on (x.setAll (x.all ++ [u])).onL r w' := by
  have hok1 := hok.h0
  have hok2 := hok.h1
  have hok3 := hok.h2
  have hfa := hok.fa
  have has := hok.ast
  have hsl := hok.sl
  have hc0 := hok.c0
  have hc1 := hok.c1
  have hla : x.last = x.first + (x.all.length : Int) := rfl
  have hlab : x.last ≤ 1152921504606846976 + 1649267441664 := by omega
  have HLA := Lib.hid hla
  have OK := Lib.hid hok
  have hgw : g < w.heap.size := blk_lt h.1
  have hws : w0.heap.size ≤ w.heap.size := HB.size
  have HVL := Lib.hid (Kd.R_lt h.2)
  have X0 := Lib.hid h
  have B0 := Lib.hid HB
  have K0 := Lib.hid (Kept.refl w (fun k => k = g ∨ some k = v.ownBlock))
  have e1 : IntKind.i64.wrap (x.clock + 1) = x.clock + 1 := IntWalk.i64_in _ (by omega)
  have e2 : IntKind.i64.wrap (x.acked + 1) = x.acked + 1 := IntWalk.i64_in _ (by omega)
  have c7 := (show w.cell? ⟨g, 7, none⟩ = some (.int .i64 x.acked) from blkc h.1 7)
  have c8 := (show w.cell? ⟨g, 8, none⟩ = some (.int .i64 x.sent) from blkc h.1 8)
  clear c7 c8 h HB hok hla
  have t1 : (u.seq != x.last + 1) = false := by simpa using hn
  have HUS := Lib.hid hn
  clear hn
  have P1 := Lib.hid (blk_new w (.cells #[.int .i64 u.seq, .int .i64 u.client, .int .i64 u.number, .int .i64 u.kind, .string u.key, .string u.value, .int .i64 u.version] tU))
  have X1 := Lib.hid (X0.out.below (below_alloc (Below.refl _ _) (.cells #[.int .i64 u.seq, .int .i64 u.client, .int .i64 u.number, .int .i64 u.kind, .string u.key, .string u.value, .int .i64 u.version] tU)))
  have B1 := Lib.hid (below_alloc B0.out (.cells #[.int .i64 u.seq, .int .i64 u.client, .int .i64 u.number, .int .i64 u.kind, .string u.key, .string u.value, .int .i64 u.version] tU))
  have K1 := Lib.hid (K0.out.alloc (.cells #[.int .i64 u.seq, .int .i64 u.client, .int .i64 u.number, .int .i64 u.kind, .string u.key, .string u.value, .int .i64 u.version] tU))
  clear X0 B0 K0
  have e3 : IntKind.i64.wrap (x.last + 1) = x.last + 1 := IntWalk.i64_in _ (by omega)
  have e4 : wrap64 (x.last + 1) = x.last + 1 := by rw [← i64_w]; exact e3
  go_enter Try.func27, Try.ntmps27
  go_wp2_with fail
  generalize hpp : w.heap.size = p at *
  have HPP := Lib.hid hpp
  clear hpp
  generalize (World.alloc w _) = W1 at *
  have Pd := Lib.hid (blk_drew P1.out)
  have Xd := Lib.hid (X1.out.below (below_drew (Below.refl _ _)))
  have Bd := Lib.hid B1.out.drew
  have Kd_ := Lib.hid K1.out.drew
  clear P1 X1 B1 K1
  refine start_ (n := 6) (S := fun w' => (∀ o, w'.cell? ⟨p, o, none⟩ = #[Value.int .i64 u.seq, .int .i64 u.client, .int .i64 u.number, .int .i64 u.kind, .string u.key, .string u.value, .int .i64 u.version][o]?)) (ds := []) #[false, false, false, false, false, false] (by kernel_rfl) rfl rfl ((blkc Pd.out)) (fun hHeld => ?_)
  refine pure_ (i := 0) (N := some 6) (v := ?_) (a' := ?_) #[true, false, false, false, false, false] rfl rfl (by kernel_rfl) (fun _ _ _ h => h) (Or.inl ⟨by rfl, ?_⟩) ?_ ?_
  rotate_left
  · intro w'
    go_simp
    with_reducible rfl
  rotate_left
  · simp only [Act.put, List.setIfInBounds_toArray, List.set_cons_zero, List.set_cons_succ, i64_w, i32_w]
    rfl
  refine pure_ (i := 2) (N := some 8) (v := ?_) (a' := ?_) #[true, false, true, false, false, false] rfl rfl (by kernel_rfl) (fun _ _ _ h => h) (Or.inl ⟨by rfl, ?_⟩) ?_ ?_
  rotate_left
  · intro w'
    go_simp
    with_reducible rfl
  rotate_left
  · simp only [Act.put, List.setIfInBounds_toArray, List.set_cons_zero, List.set_cons_succ, i64_w, i32_w]
    rfl
  refine take_ (i := 1) (N := some 7) (v := ?_) (a' := ?_) #[true, true, true, false, false, false] rfl rfl (by kernel_rfl) (fun _ _ _ h => h) (Or.inl ⟨by rfl, ?_⟩) hHeld ?_ ?_
  rotate_left
  · intro w' s0
    go_simp
    with_reducible rfl
  rotate_left
  · simp only [Act.put, List.setIfInBounds_toArray, List.set_cons_zero, List.set_cons_succ, i64_w, i32_w]
    rfl
  refine one_ (i := 3) (N := some 9) #[true, true, true, true, false, false] rfl rfl (by kernel_rfl) (by decide) (fun K hK => ?_)
  refine goes_ Try.func24 (by kernel_rfl) rfl #[.pointer (some ⟨g, 0, none⟩)] (by rfl) rfl rfl (by simp only [List.map_toArray, List.map_cons, List.map_nil]; rfl) ?_
  with_reducible refine (refLastY (x := x) Xd.out rfl hok1 (by omega) hok3).mono ?_
  rintro e w1 ⟨rfl, nL, rfl⟩
  refine ⟨_, rfl, ?_⟩
  have P2 := Lib.hid (show (World.drewN (World.drew W1) nL).heap[p]? = some (.cells #[.int .i64 u.seq, .int .i64 u.client, .int .i64 u.number, .int .i64 u.kind, .string u.key, .string u.value, .int .i64 u.version] tU (0, 0)) from Pd.out)
  have X2 := Lib.hid (Xd.out.drewN nL)
  have B2 := Lib.hid (pw_below_drewN Bd.out nL)
  have K2 := Lib.hid (Kd_.out.drewN nL)
  clear Pd Xd Bd Kd_
  generalize (World.drewN (World.drew W1) nL) = W2 at *
  refine hK.out _ _ ((blkc P2.out)) (fun hHeld => ?_)
  clear hK K
  refine norm_ (a' := ?_) ?_ ?_
  rotate_left
  · show Act.put _ (some 9) _ = _
    simp only [Act.put, List.setIfInBounds_toArray, List.set_cons_zero, List.set_cons_succ, i64_w, i32_w]
    rfl
  refine pure_ (i := 4) (N := some 10) (v := ?_) (a' := ?_) #[true, true, true, true, true, false] rfl rfl (by kernel_rfl) (fun _ _ _ h => h) (Or.inl ⟨by rfl, ?_⟩) ?_ ?_
  rotate_left
  · intro w'
    go_simp
    with_reducible rfl
  rotate_left
  · simp only [Act.put, List.setIfInBounds_toArray, List.set_cons_zero, List.set_cons_succ, i64_w, i32_w]
    rfl
  refine pure_ (i := 5) (N := some 11) (v := ?_) (a' := ?_) #[true, true, true, true, true, true] rfl rfl (by kernel_rfl) (fun _ _ _ h => h) (Or.inl ⟨by rfl, ?_⟩) ?_ ?_
  rotate_left
  · intro w'
    go_simp
    with_reducible rfl
  rotate_left
  · simp only [Act.put, List.setIfInBounds_toArray, List.set_cons_zero, List.set_cons_succ, i64_w, i32_w]
    rfl
  refine done_ (by kernel_rfl) ?_
  obtain ⟨A, c, rfl⟩ := Kd.R_slice X2.out.2
  have hpW : p < W2.heap.size := blk_lt P2.out
  have hgW : g < W2.heap.size := blk_lt X2.out.1
  have hwW : w.heap.size ≤ W2.heap.size := K2.out.1
  have hw0W : w0.heap.size ≤ W2.heap.size := B2.out.size
  obtain ⟨m, hm⟩ : ∃ m, m = W2.heap.size := ⟨_, rfl⟩
  have hmp : p < m := by omega
  have hmg : g < m := by omega
  have hmw : w.heap.size ≤ m := by omega
  have hm0 : w0.heap.size ≤ m := by omega
  have HM := Lib.hid hm
  clear hm hpW hgW hwW hw0W
  go_wp2_with fail
  refine start_ (n := 13) (S := fun w' => (w'.cell? ⟨g, 6, none⟩ = some (.slice A x.all.length c)) ∧ (∀ o, w'.cell? ⟨p, o, none⟩ = #[Value.int .i64 u.seq, .int .i64 u.client, .int .i64 u.number, .int .i64 u.kind, .string u.key, .string u.value, .int .i64 u.version][o]?)) (ds := [12]) #[false, false, false, false, false, false, false, false, false, false, false, false, false] (by kernel_rfl) rfl rfl ⟨(blkc X2.out.1 6), (blkc P2.out)⟩ (fun hHeld => ?_)
  refine pure_ (i := 0) (N := some 12) (v := ?_) (a' := ?_) #[true, false, false, false, false, false, false, false, false, false, false, false, false] rfl rfl (by kernel_rfl) (fun _ _ _ h => h) (Or.inl ⟨by rfl, ?_⟩) ?_ ?_
  rotate_left
  · intro w'
    go_simp
    with_reducible rfl
  rotate_left
  · simp only [Act.put, List.setIfInBounds_toArray, List.set_cons_zero, List.set_cons_succ, i64_w, i32_w]
    rfl
  refine pure_ (i := 2) (N := some 14) (v := ?_) (a' := ?_) #[true, false, true, false, false, false, false, false, false, false, false, false, false] rfl rfl (by kernel_rfl) (fun _ _ _ h => h) (Or.inl ⟨by rfl, ?_⟩) ?_ ?_
  rotate_left
  · intro w'
    go_simp
    with_reducible rfl
  rotate_left
  · simp only [Act.put, List.setIfInBounds_toArray, List.set_cons_zero, List.set_cons_succ, i64_w, i32_w]
    rfl
  refine pure_ (i := 3) (N := some 15) (v := ?_) (a' := ?_) #[true, false, true, true, false, false, false, false, false, false, false, false, false] rfl rfl (by kernel_rfl) (fun _ _ _ h => h) (Or.inl ⟨by rfl, ?_⟩) ?_ ?_
  rotate_left
  · intro w'
    go_simp
    with_reducible rfl
  rotate_left
  · simp only [Act.put, List.setIfInBounds_toArray, List.set_cons_zero, List.set_cons_succ, i64_w, i32_w]
    rfl
  refine pure_ (i := 4) (N := some 16) (v := ?_) (a' := ?_) #[true, false, true, true, true, false, false, false, false, false, false, false, false] rfl rfl (by kernel_rfl) (fun _ _ _ h => h) (Or.inl ⟨by rfl, ?_⟩) ?_ ?_
  rotate_left
  · intro w'
    go_simp
    with_reducible rfl
  rotate_left
  · simp only [Act.put, List.setIfInBounds_toArray, List.set_cons_zero, List.set_cons_succ, i64_w, i32_w]
    rfl
  refine take_ (i := 5) (N := some 17) (v := ?_) (a' := ?_) #[true, false, true, true, true, true, false, false, false, false, false, false, false] rfl rfl (by kernel_rfl) (fun _ _ _ h => h) (Or.inl ⟨by rfl, ?_⟩) hHeld ?_ ?_
  rotate_left
  · rintro w' ⟨s0, s1⟩
    go_simp
    with_reducible rfl
  rotate_left
  · simp only [Act.put, List.setIfInBounds_toArray, List.set_cons_zero, List.set_cons_succ, i64_w, i32_w]
    rfl
  refine take_ (i := 7) (N := some 19) (v := ?_) (a' := ?_) #[true, false, true, true, true, true, false, true, false, false, false, false, false] rfl rfl (by kernel_rfl) (fun _ _ _ h => h) (Or.inl ⟨by rfl, ?_⟩) hHeld ?_ ?_
  rotate_left
  · rintro w' ⟨s0, s1⟩
    go_simp
    with_reducible rfl
  rotate_left
  · simp only [Act.put, List.setIfInBounds_toArray, List.set_cons_zero, List.set_cons_succ, i64_w, i32_w]
    rfl
  refine join_ (σ := Value × Nat × Nat) 4 #[true, true, true, true, true, true, true, true, true, false, false, false, false] (fun s => [(13, .slice (some ⟨s.2.1, 0, none⟩) 0 0), (18, s.1), (20, .slice (some ⟨s.2.2, 0, none⟩) 1 1)]) (fun s w' => kU.R tU w' w0.heap.size (fun _ => True) s.1 x.all ∧ (∀ k, s.1.ownBlock = some k → m ≤ k ∧ k ≠ s.2.2) ∧ w'.heap[s.2.2]? = some (.cells #[.int .i64 u.seq, .int .i64 u.client, .int .i64 u.number, .int .i64 u.kind, .string u.key, .string u.value, .int .i64 u.version] tU (0, 0)) ∧ m ≤ s.2.2 ∧ ROR w' w0.heap.size g (.slice A x.all.length c) x ∧ w'.heap[p]? = some (.cells #[.int .i64 u.seq, .int .i64 u.client, .int .i64 u.number, .int .i64 u.kind, .string u.key, .string u.value, .int .i64 u.version] tU (0, 0)) ∧ Below w0.heap.size w0 w' ∧ Kept w w' (fun k => k = g ∨ some k = (Value.slice A x.all.length c).ownBlock)) ?_ ?_
  rotate_left
  · intro hCont
    refine two_ (i := 1) (j := 8) (Ni := some 13) (Nj := some 20) #[true, true, true, true, true, true, false, true, false, false, false, false, false] #[true, false, true, true, true, true, false, true, true, false, false, false, false] rfl rfl rfl rfl (by kernel_rfl) (by decide) (by decide) (fun K hK => ?_) (fun K hK => ?_)
    · skip
      refine value_ (w1 := ?_) (v := ?_) (by rfl) rfl ?_ ?_
      rotate_left 2
      · go_simp
        constructor
        · rfl
        · rfl
      have X7 := Lib.hid ((X2.out.below (below_alloc (Below.refl _ _) (.cells #[] tU))).below (below_drew (Below.refl _ _)))
      have P7 := Lib.hid (blk_drew (blk_below P2.out (below_alloc (Below.refl _ _) (.cells #[] tU))))
      have B7 := Lib.hid (below_alloc B2.out (.cells #[] tU)).drew
      have K7 := Lib.hid (K2.out.alloc (.cells #[] tU)).drew
      have HZ7 := Lib.hid (blk_drew (blk_new W2 (.cells #[] tU)))
      have hzm : m ≤ W2.heap.size := Nat.le_of_eq HM.out
      generalize (World.drew (World.alloc W2 _)) = W7 at *
      generalize W2.heap.size = z at *
      have RZ7 := Lib.hid (R_of_blk (base := w0.heap.size) (ok := fun _ => True) (xs := []) (cap := 0) trivial (show w0.heap.size ≤ z by omega) HZ7.out (Nat.le_refl _) (Nat.zero_le _) rfl ⟨Nat.zero_le _, fun i u hu => by simp at hu⟩)
      have CT7 := Lib.hid ((Kd.R_reads' X7.out.2).2.2)
      have hgz : g ≠ z := by omega
      refine hK.out _ _ ⟨(blkc X7.out.1 6), (blkc P7.out)⟩ (fun hHeld => ?_)
      clear hK K
      refine norm_ (a' := ?_) ?_ ?_
      rotate_left
      · show Act.put _ (some 13) _ = _
        simp only [Act.put, List.setIfInBounds_toArray, List.set_cons_zero, List.set_cons_succ, i64_w, i32_w]
        rfl
      refine two_ (i := 6) (j := 8) (Ni := some 18) (Nj := some 20) #[true, true, true, true, true, true, true, true, false, false, false, false, false] #[true, true, true, true, true, true, false, true, true, false, false, false, false] rfl rfl rfl rfl (by kernel_rfl) (by decide) (by decide) (fun K hK => ?_) (fun K hK => ?_)
      · skip
        refine Kd.R_append_rows_step kU (Rr := fun u cs => cs = u.cells) (w0 := w0) w0.heap.size (by rfl) (.tmp 13) (.tmp 17) 24 tU (.agg #[.int .i64 0, .int .i64 0, .int .i64 0, .int .i64 0, .string ⟨#[]⟩, .string ⟨#[]⟩, .int .i64 0]) 72 rfl Try.underlying24 info_U rfl (by decide) (by decide) (.slice (some ⟨z, 0, none⟩) 0 0) [] x.all A x.all.length c (fun _ => True) (fun _ => False) rfl rfl RZ7.out CT7.out (fun _ _ h => h) (fun _ h => h.elim) (fun _ _ => trivial) B7.out B7.out.size (by simp only [List.length_nil]; omega) ?_
        intro v8 w8 hr8 hb8 hg8 hat8
        rw [List.nil_append] at hr8
        obtain ⟨A8, c8, rfl⟩ := Kd.R_slice hr8
        have X8 := Lib.hid (show ROR w8 w0.heap.size g (.slice A x.all.length c) x from ⟨blk_grown X7.out.1 hg8 (fun e => hgz (Option.some.inj e)), R_mine X7.out.2 (fun k hk => hg8.block k (Kd.R_lt X7.out.2 k hk) (fun e => by have h1 := HVL.out k hk; have h2 : k = z := Option.some.inj e; omega))⟩)
        have P8 := Lib.hid (blk_grown P7.out hg8 (fun e => by have h2 : p = z := Option.some.inj e; omega))
        have B8 := Lib.hid hb8
        have K8 := Lib.hid (Kept.of_grown hg8 K7.out (fun i e => .inr (by have e2 : z = i := Option.some.inj e; omega)))
        have R8 := Lib.hid (Kd.R_mono hr8 (fun _ _ => trivial) : kU.R tU w8 w0.heap.size (fun _ => True) (.slice A8 x.all.length c8) x.all)
        have hwz := blk_lt (HZ7.out)
        have HO8 := Lib.hid (own_ge (q := m) hat8 (fun i hi => by have e2 : z = i := Option.some.inj hi; omega) (by omega))
        have hs8 : m ≤ w8.heap.size := by have := hg8.size; omega
        clear hr8 hb8 hg8 hat8
        refine hK.out _ _ ⟨(blkc X8.out.1 6), (blkc P8.out)⟩ (fun hHeld => ?_)
        clear hK K
        refine norm_ (a' := ?_) ?_ ?_
        rotate_left
        · show Act.put _ (some 18) _ = _
          simp only [Act.put, List.setIfInBounds_toArray, List.set_cons_zero, List.set_cons_succ, i64_w, i32_w]
          rfl
        refine one_ (i := 8) (N := some 20) #[true, true, true, true, true, true, true, true, true, false, false, false, false] rfl rfl (by kernel_rfl) (by decide) (fun K hK => ?_)
        refine value_ (w1 := ?_) (v := ?_) (by rfl) rfl ?_ ?_
        rotate_left 2
        · go_simp
          constructor
          · rfl
          · rfl
        have X9 := Lib.hid (X8.out.below (below_alloc (Below.refl _ _) (.cells #[.int .i64 u.seq, .int .i64 u.client, .int .i64 u.number, .int .i64 u.kind, .string u.key, .string u.value, .int .i64 u.version] tU)))
        have P9 := Lib.hid (blk_below P8.out (below_alloc (Below.refl _ _) (.cells #[.int .i64 u.seq, .int .i64 u.client, .int .i64 u.number, .int .i64 u.kind, .string u.key, .string u.value, .int .i64 u.version] tU)))
        have B9 := Lib.hid (below_alloc B8.out (.cells #[.int .i64 u.seq, .int .i64 u.client, .int .i64 u.number, .int .i64 u.kind, .string u.key, .string u.value, .int .i64 u.version] tU))
        have K9 := Lib.hid (K8.out.alloc (.cells #[.int .i64 u.seq, .int .i64 u.client, .int .i64 u.number, .int .i64 u.kind, .string u.key, .string u.value, .int .i64 u.version] tU))
        have R9 := Lib.hid (Kd.R_alloc R8.out (.cells #[.int .i64 u.seq, .int .i64 u.client, .int .i64 u.number, .int .i64 u.kind, .string u.key, .string u.value, .int .i64 u.version] tU))
        have UQ9 := Lib.hid (blk_new w8 (.cells #[.int .i64 u.seq, .int .i64 u.client, .int .i64 u.number, .int .i64 u.kind, .string u.key, .string u.value, .int .i64 u.version] tU))
        refine hK.out _ _ ⟨(blkc X9.out.1 6), (blkc P9.out)⟩ (fun hHeld => ?_)
        clear hK K
        refine norm_ (a' := ?_) ?_ ?_
        rotate_left
        · show Act.put _ (some 20) _ = _
          simp only [Act.put, List.setIfInBounds_toArray, List.set_cons_zero, List.set_cons_succ, i64_w, i32_w]
          rfl
        exact norm_ (by simp only [putAll, Act.put, List.setIfInBounds_toArray, List.set_cons_zero, List.set_cons_succ]) (hCont (.slice A8 x.all.length c8, z, w8.heap.size) _ ⟨R9.out, (fun k hk => ⟨HO8.out k hk, Nat.ne_of_lt (Kd.R_lt R8.out k hk)⟩), UQ9.out, hs8, X9.out, P9.out, B9.out, K9.out⟩)
      · skip
        refine value_ (w1 := ?_) (v := ?_) (by rfl) rfl ?_ ?_
        rotate_left 2
        · go_simp
          constructor
          · rfl
          · rfl
        have hzq : z < W7.heap.size := blk_lt HZ7.out
        have X7 := Lib.hid (X7.out.below (below_alloc (Below.refl _ _) (.cells #[.int .i64 u.seq, .int .i64 u.client, .int .i64 u.number, .int .i64 u.kind, .string u.key, .string u.value, .int .i64 u.version] tU)))
        have P7 := Lib.hid (blk_below P7.out (below_alloc (Below.refl _ _) (.cells #[.int .i64 u.seq, .int .i64 u.client, .int .i64 u.number, .int .i64 u.kind, .string u.key, .string u.value, .int .i64 u.version] tU)))
        have B7 := Lib.hid (below_alloc B7.out (.cells #[.int .i64 u.seq, .int .i64 u.client, .int .i64 u.number, .int .i64 u.kind, .string u.key, .string u.value, .int .i64 u.version] tU))
        have K7 := Lib.hid (K7.out.alloc (.cells #[.int .i64 u.seq, .int .i64 u.client, .int .i64 u.number, .int .i64 u.kind, .string u.key, .string u.value, .int .i64 u.version] tU))
        have HZ7 := Lib.hid (blk_below HZ7.out (below_alloc (Below.refl _ _) (.cells #[.int .i64 u.seq, .int .i64 u.client, .int .i64 u.number, .int .i64 u.kind, .string u.key, .string u.value, .int .i64 u.version] tU)))
        have UQ7 := Lib.hid (blk_new W7 (.cells #[.int .i64 u.seq, .int .i64 u.client, .int .i64 u.number, .int .i64 u.kind, .string u.key, .string u.value, .int .i64 u.version] tU))
        generalize (World.alloc W7 _) = Wu at *
        generalize W7.heap.size = q at *
        have RZ7 := Lib.hid (R_of_blk (base := w0.heap.size) (ok := fun _ => True) (xs := []) (cap := 0) trivial (show w0.heap.size ≤ z by omega) HZ7.out (Nat.le_refl _) (Nat.zero_le _) rfl ⟨Nat.zero_le _, fun i u hu => by simp at hu⟩)
        have CT7 := Lib.hid ((Kd.R_reads' X7.out.2).2.2)
        have hqz : q ≠ z := by omega
        refine hK.out _ _ ⟨(blkc X7.out.1 6), (blkc P7.out)⟩ (fun hHeld => ?_)
        clear hK K
        refine norm_ (a' := ?_) ?_ ?_
        rotate_left
        · show Act.put _ (some 20) _ = _
          simp only [Act.put, List.setIfInBounds_toArray, List.set_cons_zero, List.set_cons_succ, i64_w, i32_w]
          rfl
        refine one_ (i := 6) (N := some 18) #[true, true, true, true, true, true, true, true, true, false, false, false, false] rfl rfl (by kernel_rfl) (by decide) (fun K hK => ?_)
        refine Kd.R_append_rows_step kU (Rr := fun u cs => cs = u.cells) (w0 := w0) w0.heap.size (by rfl) (.tmp 13) (.tmp 17) 24 tU (.agg #[.int .i64 0, .int .i64 0, .int .i64 0, .int .i64 0, .string ⟨#[]⟩, .string ⟨#[]⟩, .int .i64 0]) 72 rfl Try.underlying24 info_U rfl (by decide) (by decide) (.slice (some ⟨z, 0, none⟩) 0 0) [] x.all A x.all.length c (fun _ => True) (fun _ => False) rfl rfl RZ7.out CT7.out (fun _ _ h => h) (fun _ h => h.elim) (fun _ _ => trivial) B7.out B7.out.size (by simp only [List.length_nil]; omega) ?_
        intro v8 w8 hr8 hb8 hg8 hat8
        rw [List.nil_append] at hr8
        obtain ⟨A8, c8, rfl⟩ := Kd.R_slice hr8
        have X8 := Lib.hid (show ROR w8 w0.heap.size g (.slice A x.all.length c) x from ⟨blk_grown X7.out.1 hg8 (fun e => hgz (Option.some.inj e)), R_mine X7.out.2 (fun k hk => hg8.block k (Kd.R_lt X7.out.2 k hk) (fun e => by have h1 := HVL.out k hk; have h2 : k = z := Option.some.inj e; omega))⟩)
        have P8 := Lib.hid (blk_grown P7.out hg8 (fun e => by have h2 : p = z := Option.some.inj e; omega))
        have B8 := Lib.hid hb8
        have K8 := Lib.hid (Kept.of_grown hg8 K7.out (fun i e => .inr (by have e2 : z = i := Option.some.inj e; omega)))
        have R8 := Lib.hid (Kd.R_mono hr8 (fun _ _ => trivial) : kU.R tU w8 w0.heap.size (fun _ => True) (.slice A8 x.all.length c8) x.all)
        have hwz := blk_lt (HZ7.out)
        have HO8 := Lib.hid (own_ge (q := m) hat8 (fun i hi => by have e2 : z = i := Option.some.inj hi; omega) (by omega))
        have UQ8 := Lib.hid (blk_grown UQ7.out hg8 (fun e => hqz (Option.some.inj e)))
        have HQ8 := Lib.hid (fun (k : Nat) (hk : (Value.slice A8 x.all.length c8).ownBlock = some k) => (show k ≠ q from hat8.elim (fun h e => by have e3 : z = k := Option.some.inj (h.symm.trans hk); omega) (fun ⟨b, hb, hle⟩ e => by have e3 : b = k := Option.some.inj (hb.symm.trans hk); have := blk_lt UQ7.out; omega)))
        have hs8 : m ≤ w8.heap.size := by have := hg8.size; omega
        clear hr8 hb8 hg8 hat8
        refine hK.out _ _ ⟨(blkc X8.out.1 6), (blkc P8.out)⟩ (fun hHeld => ?_)
        clear hK K
        refine norm_ (a' := ?_) ?_ ?_
        rotate_left
        · show Act.put _ (some 18) _ = _
          simp only [Act.put, List.setIfInBounds_toArray, List.set_cons_zero, List.set_cons_succ, i64_w, i32_w]
          rfl
        exact norm_ (by simp only [putAll, Act.put, List.setIfInBounds_toArray, List.set_cons_zero, List.set_cons_succ]) (hCont (.slice A8 x.all.length c8, z, q) _ ⟨R8.out, (fun k hk => ⟨HO8.out k hk, HQ8.out k hk⟩), UQ8.out, (by show m ≤ q; omega), X8.out, P8.out, B8.out, K8.out⟩)
    · skip
      refine value_ (w1 := ?_) (v := ?_) (by rfl) rfl ?_ ?_
      rotate_left 2
      · go_simp
        constructor
        · rfl
        · rfl
      have X7 := Lib.hid ((X2.out.below (below_alloc (Below.refl _ _) (.cells #[.int .i64 u.seq, .int .i64 u.client, .int .i64 u.number, .int .i64 u.kind, .string u.key, .string u.value, .int .i64 u.version] tU))).below (below_drew (Below.refl _ _)))
      have P7 := Lib.hid (blk_drew (blk_below P2.out (below_alloc (Below.refl _ _) (.cells #[.int .i64 u.seq, .int .i64 u.client, .int .i64 u.number, .int .i64 u.kind, .string u.key, .string u.value, .int .i64 u.version] tU))))
      have B7 := Lib.hid (below_alloc B2.out (.cells #[.int .i64 u.seq, .int .i64 u.client, .int .i64 u.number, .int .i64 u.kind, .string u.key, .string u.value, .int .i64 u.version] tU)).drew
      have K7 := Lib.hid (K2.out.alloc (.cells #[.int .i64 u.seq, .int .i64 u.client, .int .i64 u.number, .int .i64 u.kind, .string u.key, .string u.value, .int .i64 u.version] tU)).drew
      have UQ7 := Lib.hid (blk_drew (blk_new W2 (.cells #[.int .i64 u.seq, .int .i64 u.client, .int .i64 u.number, .int .i64 u.kind, .string u.key, .string u.value, .int .i64 u.version] tU)))
      have hqm : m ≤ W2.heap.size := Nat.le_of_eq HM.out
      generalize (World.drew (World.alloc W2 _)) = W7 at *
      generalize W2.heap.size = q at *
      refine hK.out _ _ ⟨(blkc X7.out.1 6), (blkc P7.out)⟩ (fun hHeld => ?_)
      clear hK K
      refine norm_ (a' := ?_) ?_ ?_
      rotate_left
      · show Act.put _ (some 20) _ = _
        simp only [Act.put, List.setIfInBounds_toArray, List.set_cons_zero, List.set_cons_succ, i64_w, i32_w]
        rfl
      refine one_ (i := 1) (N := some 13) #[true, true, true, true, true, true, false, true, true, false, false, false, false] rfl rfl (by kernel_rfl) (by decide) (fun K hK => ?_)
      refine value_ (w1 := ?_) (v := ?_) (by rfl) rfl ?_ ?_
      rotate_left 2
      · go_simp
        constructor
        · rfl
        · rfl
      have hzq : q < W7.heap.size := blk_lt UQ7.out
      have X7 := Lib.hid (X7.out.below (below_alloc (Below.refl _ _) (.cells #[] tU)))
      have P7 := Lib.hid (blk_below P7.out (below_alloc (Below.refl _ _) (.cells #[] tU)))
      have B7 := Lib.hid (below_alloc B7.out (.cells #[] tU))
      have K7 := Lib.hid (K7.out.alloc (.cells #[] tU))
      have HZ7 := Lib.hid (blk_new W7 (.cells #[] tU))
      have UQ7 := Lib.hid (blk_below UQ7.out (below_alloc (Below.refl _ _) (.cells #[] tU)))
      generalize (World.alloc W7 _) = Wu at *
      generalize W7.heap.size = z at *
      have RZ7 := Lib.hid (R_of_blk (base := w0.heap.size) (ok := fun _ => True) (xs := []) (cap := 0) trivial (show w0.heap.size ≤ z by omega) HZ7.out (Nat.le_refl _) (Nat.zero_le _) rfl ⟨Nat.zero_le _, fun i u hu => by simp at hu⟩)
      have CT7 := Lib.hid ((Kd.R_reads' X7.out.2).2.2)
      have hqz : q ≠ z := by omega
      have hgz : g ≠ z := by omega
      refine hK.out _ _ ⟨(blkc X7.out.1 6), (blkc P7.out)⟩ (fun hHeld => ?_)
      clear hK K
      refine norm_ (a' := ?_) ?_ ?_
      rotate_left
      · show Act.put _ (some 13) _ = _
        simp only [Act.put, List.setIfInBounds_toArray, List.set_cons_zero, List.set_cons_succ, i64_w, i32_w]
        rfl
      refine one_ (i := 6) (N := some 18) #[true, true, true, true, true, true, true, true, true, false, false, false, false] rfl rfl (by kernel_rfl) (by decide) (fun K hK => ?_)
      refine Kd.R_append_rows_step kU (Rr := fun u cs => cs = u.cells) (w0 := w0) w0.heap.size (by rfl) (.tmp 13) (.tmp 17) 24 tU (.agg #[.int .i64 0, .int .i64 0, .int .i64 0, .int .i64 0, .string ⟨#[]⟩, .string ⟨#[]⟩, .int .i64 0]) 72 rfl Try.underlying24 info_U rfl (by decide) (by decide) (.slice (some ⟨z, 0, none⟩) 0 0) [] x.all A x.all.length c (fun _ => True) (fun _ => False) rfl rfl RZ7.out CT7.out (fun _ _ h => h) (fun _ h => h.elim) (fun _ _ => trivial) B7.out B7.out.size (by simp only [List.length_nil]; omega) ?_
      intro v8 w8 hr8 hb8 hg8 hat8
      rw [List.nil_append] at hr8
      obtain ⟨A8, c8, rfl⟩ := Kd.R_slice hr8
      have X8 := Lib.hid (show ROR w8 w0.heap.size g (.slice A x.all.length c) x from ⟨blk_grown X7.out.1 hg8 (fun e => hgz (Option.some.inj e)), R_mine X7.out.2 (fun k hk => hg8.block k (Kd.R_lt X7.out.2 k hk) (fun e => by have h1 := HVL.out k hk; have h2 : k = z := Option.some.inj e; omega))⟩)
      have P8 := Lib.hid (blk_grown P7.out hg8 (fun e => by have h2 : p = z := Option.some.inj e; omega))
      have B8 := Lib.hid hb8
      have K8 := Lib.hid (Kept.of_grown hg8 K7.out (fun i e => .inr (by have e2 : z = i := Option.some.inj e; omega)))
      have R8 := Lib.hid (Kd.R_mono hr8 (fun _ _ => trivial) : kU.R tU w8 w0.heap.size (fun _ => True) (.slice A8 x.all.length c8) x.all)
      have hwz := blk_lt (HZ7.out)
      have HO8 := Lib.hid (own_ge (q := m) hat8 (fun i hi => by have e2 : z = i := Option.some.inj hi; omega) (by omega))
      have UQ8 := Lib.hid (blk_grown UQ7.out hg8 (fun e => hqz (Option.some.inj e)))
      have HQ8 := Lib.hid (fun (k : Nat) (hk : (Value.slice A8 x.all.length c8).ownBlock = some k) => (show k ≠ q from hat8.elim (fun h e => by have e3 : z = k := Option.some.inj (h.symm.trans hk); omega) (fun ⟨b, hb, hle⟩ e => by have e3 : b = k := Option.some.inj (hb.symm.trans hk); have := blk_lt UQ7.out; omega)))
      have hs8 : m ≤ w8.heap.size := by have := hg8.size; omega
      clear hr8 hb8 hg8 hat8
      refine hK.out _ _ ⟨(blkc X8.out.1 6), (blkc P8.out)⟩ (fun hHeld => ?_)
      clear hK K
      refine norm_ (a' := ?_) ?_ ?_
      rotate_left
      · show Act.put _ (some 18) _ = _
        simp only [Act.put, List.setIfInBounds_toArray, List.set_cons_zero, List.set_cons_succ, i64_w, i32_w]
        rfl
      exact norm_ (by simp only [putAll, Act.put, List.setIfInBounds_toArray, List.set_cons_zero, List.set_cons_succ]) (hCont (.slice A8 x.all.length c8, z, q) _ ⟨R8.out, (fun k hk => ⟨HO8.out k hk, HQ8.out k hk⟩), UQ8.out, (by show m ≤ q; omega), X8.out, P8.out, B8.out, K8.out⟩)
  rintro ⟨v9, z, q⟩ W9 ⟨hr9, hv9, hq9, hmq, hx9, hp9, hb9, hk9⟩
  replace hr9 : kU.R tU W9 w0.heap.size (fun _ => True) v9 x.all := hr9
  replace hmq : m ≤ q := hmq
  obtain ⟨A8, c8, rfl⟩ := Kd.R_slice hr9
  have R9 := Lib.hid hr9
  have X9 := Lib.hid hx9
  have P9 := Lib.hid hp9
  have B9 := Lib.hid hb9
  have K9 := Lib.hid hk9
  have UQ9 := Lib.hid (show W9.heap[q]? = some (.cells #[.int .i64 u.seq, .int .i64 u.client, .int .i64 u.number, .int .i64 u.kind, .string u.key, .string u.value, .int .i64 u.version] tU (0, 0)) from hq9)
  have HO9 := Lib.hid (fun (k : Nat) (hk : (Value.slice A8 x.all.length c8).ownBlock = some k) => (hv9 k hk).1)
  have C9 := Lib.hid (C_of_blk (ls := [u]) UQ9.out ⟨by simp, fun j y hj => by obtain rfl : j = 0 := (by have := (List.getElem?_eq_some_iff.1 hj).1; simp only [List.length_singleton] at this; omega); obtain rfl : u = y := Option.some.inj hj; exact ⟨rfl, rfl, rfl, rfl, rfl, rfl, rfl⟩⟩ (by simp))
  clear hr9 hv9 hq9 hx9 hp9 hb9 hk9
  have hHeld := And.intro (blkc X9.out.1 6) (blkc P9.out)
  refine norm_ (a' := ?_) ?_ ?_
  rotate_left
  · simp only [putAll, Act.put, List.setIfInBounds_toArray, List.set_cons_zero, List.set_cons_succ]
    rfl
  refine one_ (i := 9) (N := some 21) #[true, true, true, true, true, true, true, true, true, true, false, false, false] rfl rfl (by kernel_rfl) (by decide) (fun K hK => ?_)
  refine Kd.R_append_rows_step kU (Rr := fun u cs => cs = u.cells) (w0 := w0) w0.heap.size (by rfl) (.tmp 18) (.tmp 20) 24 tU (.agg #[.int .i64 0, .int .i64 0, .int .i64 0, .int .i64 0, .string ⟨#[]⟩, .string ⟨#[]⟩, .int .i64 0]) 72 rfl Try.underlying24 info_U rfl (by decide) (by decide) (.slice A8 x.all.length c8) x.all [u] (some ⟨q, 0, none⟩) 1 1 (fun _ => True) (fun _ => False) rfl rfl R9.out C9.out (fun _ _ h => h) (fun _ h => h.elim) (fun _ _ => trivial) B9.out B9.out.size (by omega) ?_
  intro v10 w10 hr10 hb10 hg10 hat10
  obtain ⟨A10, c10, rfl⟩ := Kd.R_slice hr10
  rw [List.length_append, List.length_singleton] at hr10 hat10 ⊢
  have X10 := Lib.hid (show ROR w10 w0.heap.size g (.slice A x.all.length c) x from ⟨blk_grown X9.out.1 hg10 (fun e => by have := HO9.out g e.symm; omega), R_mine X9.out.2 (fun k hk => hg10.block k (Kd.R_lt X9.out.2 k hk) (fun e => by have h1 := HVL.out k hk; have h2 := HO9.out k e.symm; omega))⟩)
  have P10 := Lib.hid (blk_grown P9.out hg10 (fun e => by have := HO9.out p e.symm; omega))
  have B10 := Lib.hid hb10
  have K10 := Lib.hid (Kept.of_grown hg10 K9.out (fun i e => .inr (by have := HO9.out i e; omega)))
  have hsz9 := K9.out.1
  have HO10 := Lib.hid (own_ge (q := w.heap.size) hat10 (fun i hi => by have := HO9.out i hi; omega) hsz9)
  have R10 := Lib.hid (Kd.R_mono hr10 (fun _ _ => trivial) : kU.R tU w10 w0.heap.size (fun _ => True) (.slice A10 (x.all.length + 1) c10) (x.all ++ [u]))
  clear hr10 hb10 hg10 hat10
  refine hK.out _ _ ⟨(blkc X10.out.1 6), (blkc P10.out)⟩ (fun hHeld => ?_)
  clear hK K
  refine norm_ (a' := ?_) ?_ ?_
  rotate_left
  · show Act.put _ (some 21) _ = _
    simp only [Act.put, List.setIfInBounds_toArray, List.set_cons_zero, List.set_cons_succ, i64_w, i32_w]
    rfl
  refine pure_ (i := 10) (N := some 22) (v := ?_) (a' := ?_) #[true, true, true, true, true, true, true, true, true, true, true, false, false] rfl rfl (by kernel_rfl) (fun _ _ _ h => h) (Or.inl ⟨by rfl, ?_⟩) ?_ ?_
  rotate_left
  · intro w'
    go_simp
    with_reducible rfl
  rotate_left
  · simp only [Act.put, List.setIfInBounds_toArray, List.set_cons_zero, List.set_cons_succ, i64_w, i32_w]
    rfl
  refine pure_ (i := 11) (N := some 23) (v := ?_) (a' := ?_) #[true, true, true, true, true, true, true, true, true, true, true, true, false] rfl rfl (by kernel_rfl) (fun _ _ _ h => h) (Or.inl ⟨by rfl, ?_⟩) ?_ ?_
  rotate_left
  · intro w'
    go_simp
    with_reducible rfl
  rotate_left
  · simp only [Act.put, List.setIfInBounds_toArray, List.set_cons_zero, List.set_cons_succ, i64_w, i32_w]
    rfl
  refine last_ (i := 12) (N := none) #[true, true, true, true, true, true, true, true, true, true, true, true, true] rfl rfl (by kernel_rfl) (by decide) (fun K hK => ?_)
  have z6 := blkz X10.out.1 6
  have c6 := blkc X10.out.1 6
  refine skip_ (w1 := ?_) (by rfl) rfl ?_ ?_
  rotate_left
  · go_simp
    rfl
  refine hK.out _ _ ?_
  clear hK K
  refine done_ (by kernel_rfl) ?_
  have X11 := Lib.hid (show ROR (w10.setCell ⟨g, 6, none⟩ (.slice A10 (x.all.length + 1) c10)) w0.heap.size g (.slice A10 (x.all.length + 1) c10) (x.setAll (x.all ++ [u])) from ⟨RO.set6 X10.out.1 _, Kd.R_mono (Kd.R_set R10.out X10.out.1 hUW 6 _) (fun _ _ => trivial)⟩)
  have B11 := Lib.hid (below_set (g := g) (j := 6) (v := (.slice A10 (x.all.length + 1) c10)) B10.out hg)
  have K11 := Lib.hid (K10.out.setCell (p := ⟨g, 6, none⟩) (.inl (.inl rfl)) (.slice A10 (x.all.length + 1) c10))
  have HB11 : Hid (∃ b, (Value.slice A10 (x.all.length + 1) c10).ownBlock = some b ∧ w.heap.size ≤ b) := by
    obtain ⟨gg, cap, cur, e, _⟩ := R_blk R10.out (by simp)
    have e2 : (Value.slice A10 (x.all.length + 1) c10).ownBlock = some gg := by rw [e]; rfl
    exact Lib.hid ⟨gg, e2, HO10.out gg e2⟩
  clear X10 B10 K10 R10
  generalize (World.setCell _ _ _) = W11 at *
  go_wp2_with fail
  have hll : ((x.all ++ [u]).length : Int) = x.all.length + 1 := by simp
  refine (refOn_any X11.out hg B11.out hok1 hok2 (by show (x.all ++ [u]).length ≤ _; rw [List.length_append, List.length_singleton]; omega) (by show x.first ≤ x.sent; omega) (by show x.sent ≤ x.first + ((x.all ++ [u]).length : Int); have := HLA.out; omega) (by show 0 ≤ x.acked; omega) (by show x.acked ≤ x.first + ((x.all ++ [u]).length : Int); have := HLA.out; omega) OK.out.w1 OK.out.w2).mono ?_
  rintro e w12 ⟨r12, rfl, hx12, hr12, hk12, hb12⟩
  have X12 := Lib.hid hx12
  have R12 := Lib.hid (Kd.R_lower hr12 K11.out.1)
  have K12 := Lib.hid (K11.out.then_ hk12 (fun _ h => .inl (.inl h)))
  have B12 := Lib.hid hb12
  clear hx12 hr12 hk12 hb12
  go_wp2
  go_ret2
  exact ⟨_, rfl, _, X12.out, .inr HB11.out, R12.out, K12.out, B12.out⟩
end Go.Proofs.Ytofmgijdeeikeaa.Hop
