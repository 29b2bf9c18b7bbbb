/- Take, where the update is the next one: all that stands behind it is told. -/
import Derived.Test.YtofmgijdeeikeaaHopTake
set_option linter.unusedVariables false
set_option linter.unusedSimpArgs false
namespace Go.Proofs.Ytofmgijdeeikeaa.Hop
open Go.RowKit Go.Proofs.Ytofmgijdeeikeaa.Mem Go.Proofs.YtofmgijdeeikeaaW.PrintWords Go.Proofs.YtofmgijdeeikeaaW.PrintLast Go.Deep
theorem R_one (W : World) (base : Nat) (u : U) (hb : base ≤ W.heap.size) : kU.R tU (W.alloc (.cells #[.int .i64 u.seq, .int .i64 u.client, .int .i64 u.number, .int .i64 u.kind, .string u.key, .string u.value, .int .i64 u.version] tU)) base (fun _ => True) (.slice (some ⟨W.heap.size, 0, none⟩) 1 1) [u] := by
  show kU.R tU (W.alloc (.cells u.cells.toArray tU)) base (fun _ => True) (.slice (some ⟨W.heap.size, 0, none⟩) 1 1) [u]
  refine ⟨fun k hk => trivial, u.cells, ?_, ?_⟩
  · have h2 := World.ownsRow_lit (base := base) (e := tU) (size := kU.sz) W u.cells.toArray 1 hb (by simp [maxLen]) (by simp [kU, U.cells])
    simpa using h2
  · refine ⟨by simp [kU, U.cells], fun j p hj => ?_⟩
    have : j = 0 := by have := (List.getElem?_eq_some_iff.1 hj).1; simp at this; omega
    subst this
    simp at hj
    subst hj
    simp [kU, U.cells]
set_option maxHeartbeats 1600000 in
set_option maxRecDepth 100000 in
theorem take_next {w w0 : World} {g : Nat} {s : InSt} (u : U) (hok : s.Ok) (h : InR w g s) (hg : w0.heap.size ≤ g) (HB : Below w0.heap.size w0 w) (hu : u.seq = s.line.from_ + 1) (hbd : s.line.from_ + 65 < 2305843009213693952) :
    Calls Try.prog 14 #[.pointer (some ⟨g, 0, none⟩), u.val] w fun e w' => ∃ r, e = .returned r ∧ InPost w w0 g (s.next.drain 64).1 (u :: (s.next.drain 64).2) r w' := by
  obtain ⟨cs, G, C⟩ := h
  have hf0 := hok.mid.f0
  have hf2 := hok.mid.f2
  have hw1 := hok.mid.w1
  have hw2 := hok.mid.w2
  have hgw : g < w.heap.size := blk_lt G
  have hws : w0.heap.size ≤ w.heap.size := HB.size
  have hpg : w.heap.size ≠ g := by omega
  have P0 := Lib.hid (blk_new w (.cells #[.int .i64 u.seq, .int .i64 u.client, .int .i64 u.number, .int .i64 u.kind, .string u.key, .string u.value, .int .i64 u.version] tU))
  have G0 := Lib.hid (blk_below G (below_alloc (Below.refl _ _) (.cells #[.int .i64 u.seq, .int .i64 u.client, .int .i64 u.number, .int .i64 u.kind, .string u.key, .string u.value, .int .i64 u.version] tU)))
  have B0 := Lib.hid (below_alloc HB (.cells #[.int .i64 u.seq, .int .i64 u.client, .int .i64 u.number, .int .i64 u.kind, .string u.key, .string u.value, .int .i64 u.version] tU))
  have K0 := Lib.hid ((Kept.refl w (fun k => k = g)).alloc (.cells #[.int .i64 u.seq, .int .i64 u.client, .int .i64 u.number, .int .i64 u.kind, .string u.key, .string u.value, .int .i64 u.version] tU))
  have CC := Lib.hid C
  have OK := Lib.hid hok
  have HU := Lib.hid hu
  have MID := Lib.hid (hok.next (by omega))
  have t1 : decide (s.line.from_ + 1 < u.seq) = false := by simp; omega
  have t3 : (u.seq != s.line.from_ + 1) = false := by simpa using hu
  clear G C HB hok hu
  go_enter Try.func14, Try.ntmps14
  have c514 := (blkc G0.out 514).trans CC.out.line.made
  rw [OK.out.mid.made] at c514
  have c0 := (blkc G0.out 0).trans CC.out.line.from_
  have c1 := (blkc G0.out 1).trans CC.out.line.window
  have cp := blkc P0.out
  have e1 : IntKind.i64.wrap (s.line.from_ + 1) = s.line.from_ + 1 := IntWalk.i64_in _ (by omega)
  have e2 : IntKind.i64.wrap (s.line.from_ + 1 + s.line.window) = s.line.from_ + 1 + s.line.window := IntWalk.i64_in _ (by omega)
  go_wp2_with fail
  go_quiet (fail)
  have G0 := Lib.hid (show ((w.alloc (.cells #[.int .i64 u.seq, .int .i64 u.client, .int .i64 u.number, .int .i64 u.kind, .string u.key, .string u.value, .int .i64 u.version] tU)).drewN nq).heap[g]? = some (.cells cs tIn (0, 0)) from G0.out)
  have P0 := Lib.hid (show ((w.alloc (.cells #[.int .i64 u.seq, .int .i64 u.client, .int .i64 u.number, .int .i64 u.kind, .string u.key, .string u.value, .int .i64 u.version] tU)).drewN nq).heap[w.heap.size]? = some (.cells #[.int .i64 u.seq, .int .i64 u.client, .int .i64 u.number, .int .i64 u.kind, .string u.key, .string u.value, .int .i64 u.version] tU) from P0.out)
  have B0 := Lib.hid (pw_below_drewN B0.out nq)
  have K0 := Lib.hid (K0.out.drewN nq)
  clear c514 c0 c1 cp
  generalize ((w.alloc _).drewN nq) = W at *
  generalize hpq : w.heap.size = p at *
  have cp := blkc P0.out
  have G1 := Lib.hid (blk_below G0.out (below_alloc (Below.refl _ _) (.cells #[.int .i64 u.seq, .int .i64 u.client, .int .i64 u.number, .int .i64 u.kind, .string u.key, .string u.value, .int .i64 u.version] tU)))
  have c0 := (blkc G1.out 0).trans CC.out.line.from_
  have z0 := blkz G1.out 0
  have B1 := Lib.hid (below_alloc B0.out (.cells #[.int .i64 u.seq, .int .i64 u.client, .int .i64 u.number, .int .i64 u.kind, .string u.key, .string u.value, .int .i64 u.version] tU))
  have K1 := Lib.hid (K0.out.alloc (.cells #[.int .i64 u.seq, .int .i64 u.client, .int .i64 u.number, .int .i64 u.kind, .string u.key, .string u.value, .int .i64 u.version] tU))
  have hwW : w.heap.size ≤ W.heap.size := K0.out.1
  have R1 := Lib.hid (R_one W w.heap.size u hwW)
  have G2 := Lib.hid (blk_set G1.out 0 (.int .i64 (s.line.from_ + 1)))
  have B2 := Lib.hid (below_set (g := g) (j := 0) (v := .int .i64 (s.line.from_ + 1)) B1.out hg)
  have K2 := Lib.hid (K1.out.setCell (p := ⟨g, 0, none⟩) (.inl rfl) (.int .i64 (s.line.from_ + 1)))
  have R2 := Lib.hid (Kd.R_set R1.out G1.out hUI 0 (.int .i64 (s.line.from_ + 1)))
  have C2 := Lib.hid (show InC _ s.next from CC.out.set_from (s.line.from_ + 1))
  go_wp2_with fail
  clear cp c0 z0 G1 B1 K1 R1 t1 t3
  generalize (World.setCell _ _ _) = W2 at *
  go_loopg [8] 64 (fun kq v8 w' => ∃ (st : InSt) (acc : List U) (cs1 : Array Value), Hid st.Mid ∧ Hid (st.line.cnt ≤ kq) ∧ Hid (s.next.drain 64 = ((st.drain kq).1, acc ++ (st.drain kq).2)) ∧ Hid (st.line.from_ + kq ≤ s.line.from_ + 65) ∧ Hid (acc.length + kq ≤ 64) ∧ Hid (w'.heap[g]? = some (.cells cs1 tIn (0, 0))) ∧ Hid (InC cs1 st) ∧ Hid (kU.R tU w' w.heap.size (fun _ => True) v8 (u :: acc)) ∧ Hid (Below w0.heap.size w0 w') ∧ Hid (Kept w w' (fun k => k = g)))
  case atStart => exact ⟨s.next, [], _, MID.out, cnt_le _, Lib.hid (by simp), Lib.hid (by show s.line.from_ + 1 + 64 ≤ _; omega), Lib.hid (by simp), G2.out, C2.out, R2.out, B2.out, K2.out⟩
  case round =>
    clear G2 C2 R2 B2 K2
    obtain ⟨st, acc, cs1, HM, HC, HD, HF, HL, G2, C2, R2, B2, K2⟩ := hrel
    have vf0 := HM.out.f0
    have vf2 := HM.out.f2
    have vw1 := HM.out.w1
    have vw2 := HM.out.w2
    have hf := HF.out
    have e3 : IntKind.i64.wrap (st.line.from_ + 1) = st.line.from_ + 1 := IntWalk.i64_in _ (by omega)
    have hgr : g < wr.heap.size := blk_lt G2.out
    have hrw0 : w0.heap.size ≤ wr.heap.size := B2.out.size
    clear hf
    cases hh : st.line.has (st.line.from_ + 1) with
    | false =>
      have HH := Lib.hid hh
      have FD := Lib.hid (show s.next.drain 64 = (st, acc) by rw [HD.out, InSt.drain_no hh]; simp)
      clear hh
      go_wp2_with fail
      have BW1 := Lib.hid (below_drew (Below.refl wr.heap.size wr))
      refine start_ (n := 16) (S := fun w' => (w'.cell? ⟨g, 0, none⟩ = some (.int .i64 st.line.from_))) (ds := []) #[false, false, false, false, false, false, false, false, false, false, false, false, false, false, false, false] (by kernel_rfl) rfl rfl (((blkc (blk_below G2.out BW1.out) 0).trans C2.out.line.from_)) (fun hHeld => ?_)
      refine pure_ (i := 0) (N := some 82) (v := ?_) (a' := ?_) #[true, false, false, false, false, false, false, false, false, false, false, false, false, false, false, false] rfl rfl (by kernel_rfl) (fun _ _ _ h => h) (Or.inl ⟨by rfl, ?_⟩) ?_ ?_
      rotate_left
      · intro w'
        go_simp
        with_reducible rfl
      rotate_left
      · simp only [Act.put, List.setIfInBounds_toArray, List.set_cons_zero, List.set_cons_succ, i64_w, i32_w]
        rfl
      refine pure_ (i := 1) (N := some 83) (v := ?_) (a' := ?_) #[true, true, false, false, false, false, false, false, false, false, false, false, false, false, false, false] rfl rfl (by kernel_rfl) (fun _ _ _ h => h) (Or.inl ⟨by rfl, ?_⟩) ?_ ?_
      rotate_left
      · intro w'
        go_simp
        with_reducible rfl
      rotate_left
      · simp only [Act.put, List.setIfInBounds_toArray, List.set_cons_zero, List.set_cons_succ, i64_w, i32_w]
        rfl
      refine pure_ (i := 2) (N := some 84) (v := ?_) (a' := ?_) #[true, true, true, false, false, false, false, false, false, false, false, false, false, false, false, false] rfl rfl (by kernel_rfl) (fun _ _ _ h => h) (Or.inl ⟨by rfl, ?_⟩) ?_ ?_
      rotate_left
      · intro w'
        go_simp
        with_reducible rfl
      rotate_left
      · simp only [Act.put, List.setIfInBounds_toArray, List.set_cons_zero, List.set_cons_succ, i64_w, i32_w]
        rfl
      refine pure_ (i := 3) (N := some 85) (v := ?_) (a' := ?_) #[true, true, true, true, false, false, false, false, false, false, false, false, false, false, false, false] rfl rfl (by kernel_rfl) (fun _ _ _ h => h) (Or.inl ⟨by rfl, ?_⟩) ?_ ?_
      rotate_left
      · intro w'
        go_simp
        with_reducible rfl
      rotate_left
      · simp only [Act.put, List.setIfInBounds_toArray, List.set_cons_zero, List.set_cons_succ, i64_w, i32_w]
        rfl
      refine pure_ (i := 4) (N := some 86) (v := ?_) (a' := ?_) #[true, true, true, true, true, false, false, false, false, false, false, false, false, false, false, false] rfl rfl (by kernel_rfl) (fun _ _ _ h => h) (Or.inl ⟨by rfl, ?_⟩) ?_ ?_
      rotate_left
      · intro w'
        go_simp
        with_reducible rfl
      rotate_left
      · simp only [Act.put, List.setIfInBounds_toArray, List.set_cons_zero, List.set_cons_succ, i64_w, i32_w]
        rfl
      refine pure_ (i := 5) (N := some 87) (v := ?_) (a' := ?_) #[true, true, true, true, true, true, false, false, false, false, false, false, false, false, false, false] rfl rfl (by kernel_rfl) (fun _ _ _ h => h) (Or.inl ⟨by rfl, ?_⟩) ?_ ?_
      rotate_left
      · intro w'
        go_simp
        with_reducible rfl
      rotate_left
      · simp only [Act.put, List.setIfInBounds_toArray, List.set_cons_zero, List.set_cons_succ, i64_w, i32_w]
        rfl
      refine pure_ (i := 6) (N := some 88) (v := ?_) (a' := ?_) #[true, true, true, true, true, true, true, false, false, false, false, false, false, false, false, false] rfl rfl (by kernel_rfl) (fun _ _ _ h => h) (Or.inl ⟨by rfl, ?_⟩) ?_ ?_
      rotate_left
      · intro w'
        go_simp
        with_reducible rfl
      rotate_left
      · simp only [Act.put, List.setIfInBounds_toArray, List.set_cons_zero, List.set_cons_succ, i64_w, i32_w]
        rfl
      refine take_ (i := 7) (N := some 89) (v := ?_) (a' := ?_) #[true, true, true, true, true, true, true, true, false, false, false, false, false, false, false, false] rfl rfl (by kernel_rfl) (fun _ _ _ h => h) (Or.inl ⟨by rfl, ?_⟩) hHeld ?_ ?_
      rotate_left
      · intro w' s0
        go_simp
        with_reducible rfl
      rotate_left
      · simp only [Act.put, List.setIfInBounds_toArray, List.set_cons_zero, List.set_cons_succ, i64_w, i32_w]
        rfl
      refine pure_ (i := 8) (N := some 90) (v := ?_) (a' := ?_) #[true, true, true, true, true, true, true, true, true, false, false, false, false, false, false, false] rfl rfl (by kernel_rfl) (fun _ _ _ h => h) (Or.inl ⟨by rfl, ?_⟩) ?_ ?_
      rotate_left
      · intro w'
        go_simp
        with_reducible rfl
      rotate_left
      · simp only [Act.put, List.setIfInBounds_toArray, List.set_cons_zero, List.set_cons_succ, i64_w, i32_w]
        rfl
      refine join_ (σ := Nat) 2 #[true, true, true, true, true, true, true, true, true, true, true, true, true, true, false, false] (fun q => [(91, Value.tuple #[((st.line).held (st.line.key (st.line.from_ + 1))).val, .bool false]), (81, Value.tuple #[((st.line).held (st.line.key (st.line.from_ + 1))).val, .bool false]), (92, ((st.line).held (st.line.key (st.line.from_ + 1))).val), (93, Value.bool false), (9, .pointer (some ⟨q, 0, none⟩))]) (fun q w' => Below wr.heap.size wr w' ∧ w'.heap[q]? = some (.cells #[Value.int .i64 0, .int .i64 0, .int .i64 0, .int .i64 0, .string ⟨#[]⟩, .string ⟨#[]⟩, .int .i64 0] tU) ∧ wr.heap.size ≤ q) ?_ ?_
      rotate_left
      · intro hCont
        refine two_ (i := 9) (j := 13) (Ni := some 91) (Nj := some 9) #[true, true, true, true, true, true, true, true, true, true, false, false, false, false, false, false] #[true, true, true, true, true, true, true, true, true, false, false, false, false, true, false, false] rfl rfl rfl rfl (by kernel_rfl) (by decide) (by decide) (fun K hK => ?_) (fun K hK => ?_)
        · skip
          refine goes_ Try.func37 (by kernel_rfl) rfl #[.pointer (some ⟨g, 0, none⟩), .int .i64 (st.line.from_ + 1)] (by rfl) rfl rfl (by simp only [List.map_toArray, List.map_cons, List.map_nil]; rfl) ?_
          with_reducible refine (at_has (st.line.from_ + 1) false HH.out (blk_below G2.out BW1.out) C2.out.line vw1 vw2 (by omega)).mono ?_
          rintro e w2 ⟨rfl, hb2⟩
          refine ⟨_, rfl, ?_⟩
          have BW2 := Lib.hid (below_then BW1.out (Nat.le_refl _) hb2)
          refine hK.out _ _ (((blkc (blk_below G2.out BW2.out) 0).trans C2.out.line.from_)) (fun hHeld => ?_)
          clear hK K
          refine norm_ (a' := ?_) ?_ ?_
          rotate_left
          · show Act.put _ (some 91) _ = _
            simp only [Act.put, List.setIfInBounds_toArray, List.set_cons_zero, List.set_cons_succ, i64_w, i32_w]
            rfl
          refine pure_ (i := 10) (N := some 81) (v := ?_) (a' := ?_) #[true, true, true, true, true, true, true, true, true, true, true, false, false, false, false, false] rfl rfl (by kernel_rfl) (fun _ _ _ h => h) (Or.inl ⟨by rfl, ?_⟩) ?_ ?_
          rotate_left
          · intro w'
            go_simp
            with_reducible rfl
          rotate_left
          · simp only [Act.put, List.setIfInBounds_toArray, List.set_cons_zero, List.set_cons_succ, i64_w, i32_w]
            rfl
          refine pure_ (i := 11) (N := some 92) (v := ?_) (a' := ?_) #[true, true, true, true, true, true, true, true, true, true, true, true, false, false, false, false] rfl rfl (by kernel_rfl) (fun _ _ _ h => h) (Or.inl ⟨by rfl, ?_⟩) ?_ ?_
          rotate_left
          · intro w'
            go_simp
            with_reducible rfl
          rotate_left
          · simp only [Act.put, List.setIfInBounds_toArray, List.set_cons_zero, List.set_cons_succ, i64_w, i32_w]
            rfl
          refine pure_ (i := 12) (N := some 93) (v := ?_) (a' := ?_) #[true, true, true, true, true, true, true, true, true, true, true, true, true, false, false, false] rfl rfl (by kernel_rfl) (fun _ _ _ h => h) (Or.inl ⟨by rfl, ?_⟩) ?_ ?_
          rotate_left
          · intro w'
            go_simp
            with_reducible rfl
          rotate_left
          · simp only [Act.put, List.setIfInBounds_toArray, List.set_cons_zero, List.set_cons_succ, i64_w, i32_w]
            rfl
          refine one_ (i := 13) (N := some 9) #[true, true, true, true, true, true, true, true, true, true, true, true, true, true, false, false] rfl rfl (by kernel_rfl) (by decide) (fun K hK => ?_)
          refine value_ (w1 := ?_) (v := ?_) (by rfl) rfl ?_ ?_
          rotate_left 2
          · go_simp
            constructor
            · rfl
            · rfl
          have BW3 := Lib.hid (below_alloc BW2.out (.cells #[Value.int .i64 0, .int .i64 0, .int .i64 0, .int .i64 0, .string ⟨#[]⟩, .string ⟨#[]⟩, .int .i64 0] tU))
          refine hK.out _ _ (((blkc (blk_below G2.out BW3.out) 0).trans C2.out.line.from_)) (fun hHeld => ?_)
          clear hK K
          refine norm_ (a' := ?_) ?_ ?_
          rotate_left
          · show Act.put _ (some 9) _ = _
            simp only [Act.put, List.setIfInBounds_toArray, List.set_cons_zero, List.set_cons_succ, i64_w, i32_w]
            rfl
          exact norm_ (by simp only [putAll, Act.put, List.setIfInBounds_toArray, List.set_cons_zero, List.set_cons_succ]) (hCont _ _ ⟨BW3.out, blk_new w2 (.cells #[Value.int .i64 0, .int .i64 0, .int .i64 0, .int .i64 0, .string ⟨#[]⟩, .string ⟨#[]⟩, .int .i64 0] tU), BW2.out.size⟩)
        · skip
          refine value_ (w1 := ?_) (v := ?_) (by rfl) rfl ?_ ?_
          rotate_left 2
          · go_simp
            constructor
            · rfl
            · rfl
          have BW4 := Lib.hid (below_alloc (Below.refl wr.heap.size wr) (.cells #[Value.int .i64 0, .int .i64 0, .int .i64 0, .int .i64 0, .string ⟨#[]⟩, .string ⟨#[]⟩, .int .i64 0] tU)).drew
          refine hK.out _ _ (((blkc (blk_below G2.out BW4.out) 0).trans C2.out.line.from_)) (fun hHeld => ?_)
          clear hK K
          refine norm_ (a' := ?_) ?_ ?_
          rotate_left
          · show Act.put _ (some 9) _ = _
            simp only [Act.put, List.setIfInBounds_toArray, List.set_cons_zero, List.set_cons_succ, i64_w, i32_w]
            rfl
          refine one_ (i := 9) (N := some 91) #[true, true, true, true, true, true, true, true, true, true, false, false, false, true, false, false] rfl rfl (by kernel_rfl) (by decide) (fun K hK => ?_)
          refine goes_ Try.func37 (by kernel_rfl) rfl #[.pointer (some ⟨g, 0, none⟩), .int .i64 (st.line.from_ + 1)] (by rfl) rfl rfl (by simp only [List.map_toArray, List.map_cons, List.map_nil]; rfl) ?_
          with_reducible refine (at_has (st.line.from_ + 1) false HH.out (blk_below G2.out BW4.out) C2.out.line vw1 vw2 (by omega)).mono ?_
          rintro e w5 ⟨rfl, hb5⟩
          refine ⟨_, rfl, ?_⟩
          have BW5 := Lib.hid (below_then BW4.out BW4.out.size hb5)
          have Z5 := Lib.hid (blk_below (blk_drew (blk_new wr (.cells #[Value.int .i64 0, .int .i64 0, .int .i64 0, .int .i64 0, .string ⟨#[]⟩, .string ⟨#[]⟩, .int .i64 0] tU))) hb5)
          refine hK.out _ _ (((blkc (blk_below G2.out BW5.out) 0).trans C2.out.line.from_)) (fun hHeld => ?_)
          clear hK K
          refine norm_ (a' := ?_) ?_ ?_
          rotate_left
          · show Act.put _ (some 91) _ = _
            simp only [Act.put, List.setIfInBounds_toArray, List.set_cons_zero, List.set_cons_succ, i64_w, i32_w]
            rfl
          refine pure_ (i := 10) (N := some 81) (v := ?_) (a' := ?_) #[true, true, true, true, true, true, true, true, true, true, true, false, false, true, false, false] rfl rfl (by kernel_rfl) (fun _ _ _ h => h) (Or.inl ⟨by rfl, ?_⟩) ?_ ?_
          rotate_left
          · intro w'
            go_simp
            with_reducible rfl
          rotate_left
          · simp only [Act.put, List.setIfInBounds_toArray, List.set_cons_zero, List.set_cons_succ, i64_w, i32_w]
            rfl
          refine pure_ (i := 11) (N := some 92) (v := ?_) (a' := ?_) #[true, true, true, true, true, true, true, true, true, true, true, true, false, true, false, false] rfl rfl (by kernel_rfl) (fun _ _ _ h => h) (Or.inl ⟨by rfl, ?_⟩) ?_ ?_
          rotate_left
          · intro w'
            go_simp
            with_reducible rfl
          rotate_left
          · simp only [Act.put, List.setIfInBounds_toArray, List.set_cons_zero, List.set_cons_succ, i64_w, i32_w]
            rfl
          refine pure_ (i := 12) (N := some 93) (v := ?_) (a' := ?_) #[true, true, true, true, true, true, true, true, true, true, true, true, true, true, false, false] rfl rfl (by kernel_rfl) (fun _ _ _ h => h) (Or.inl ⟨by rfl, ?_⟩) ?_ ?_
          rotate_left
          · intro w'
            go_simp
            with_reducible rfl
          rotate_left
          · simp only [Act.put, List.setIfInBounds_toArray, List.set_cons_zero, List.set_cons_succ, i64_w, i32_w]
            rfl
          exact norm_ (by simp only [putAll, Act.put, List.setIfInBounds_toArray, List.set_cons_zero, List.set_cons_succ]) (hCont _ _ ⟨BW5.out, Z5.out, Nat.le_refl _⟩)
      rintro q w6 ⟨BW6_, Z6_, hq6⟩
      have BW6 := Lib.hid BW6_
      have Z6 := Lib.hid Z6_
      clear BW6_ Z6_
      have hHeld := ((blkc (blk_below G2.out BW6.out) 0).trans C2.out.line.from_)
      refine norm_ (a' := ?_) ?_ ?_
      rotate_left
      · simp only [putAll, Act.put, List.setIfInBounds_toArray, List.set_cons_zero, List.set_cons_succ]
        rfl
      refine one_ (i := 14) (N := none) #[true, true, true, true, true, true, true, true, true, true, true, true, true, true, true, false] rfl rfl (by kernel_rfl) (by decide) (fun K hK => ?_)
      refine store_stepU (by rfl) (by rfl) tU (.tmp 9) (.tmp 92) rfl q 0 ((st.line).held (st.line.key (st.line.from_ + 1))) rfl rfl (there_U Z6.out (by simp)) (by kernel_rfl) ?_
      have Z7 := Lib.hid (blk_lay ((st.line).held (st.line.key (st.line.from_ + 1))) 0 Z6.out)
      have BW7 := Lib.hid (below_setCells hq6 ((st.line).held (st.line.key (st.line.from_ + 1))).cells 0 BW6.out)
      generalize (World.setCells _ _ _ _) = W7 at *
      refine hK.out _ _ (((blkc (blk_below G2.out BW7.out) 0).trans C2.out.line.from_)) (fun hHeld => ?_)
      clear hK K
      refine pure_ (i := 15) (N := some 10) (v := ?_) (a' := ?_) #[true, true, true, true, true, true, true, true, true, true, true, true, true, true, true, true] rfl rfl (by kernel_rfl) (fun _ _ _ h => h) (Or.inl ⟨by rfl, ?_⟩) ?_ ?_
      rotate_left
      · intro w'
        go_simp
        with_reducible rfl
      rotate_left
      · simp only [Act.put, List.setIfInBounds_toArray, List.set_cons_zero, List.set_cons_succ, i64_w, i32_w]
        rfl
      refine done_ (by kernel_rfl) ?_
      go_wp2
      go_ret
      rw [FD.out]
      exact ⟨_, rfl, ⟨cs1, blk_below G2.out BW7.out, C2.out⟩, Kd.R_below R2.out BW7.out, K2.out.below BW7.out, below_then B2.out B2.out.size BW7.out⟩
    | true =>
      have HH := Lib.hid hh
      obtain ⟨k1, rfl⟩ : ∃ k1, gk = k1 + 1 := by
        obtain ⟨x1, _⟩ := (has_iff _ _).1 hh
        obtain ⟨_, x2, _, _⟩ := key_spec HM.out.w1 HM.out.w2 (show 0 ≤ st.line.from_ + 1 by omega)
        have : 1 ≤ st.line.cnt := cntTo_pos 64 x2 x1
        exact ⟨gk - 1, by have := HC.out; omega⟩
      obtain ⟨x1, x2, _, _⟩ := key_spec HM.out.w1 HM.out.w2 (show 0 ≤ st.line.from_ + 1 by omega)
      have HX := Lib.hid x1
      have hl64 := HL.out
      have hho := HM.out.cnt
      have hcl := cnt_le st.line
      have hh0 : 0 ≤ st.holds := by omega
      have hh1 : st.holds ≤ 64 := by omega
      have ST := Lib.hid (HM.out.step hh (by have := HF.out; omega))
      have HY := Lib.hid (InSt.drain_yes hh k1)
      clear hh x1 hho hcl
      go_wp2_with fail
      have BW1 := Lib.hid (below_drew (Below.refl wr.heap.size wr))
      refine start_ (n := 16) (S := fun w' => (w'.cell? ⟨g, 0, none⟩ = some (.int .i64 st.line.from_))) (ds := []) #[false, false, false, false, false, false, false, false, false, false, false, false, false, false, false, false] (by kernel_rfl) rfl rfl (((blkc (blk_below G2.out BW1.out) 0).trans C2.out.line.from_)) (fun hHeld => ?_)
      refine pure_ (i := 0) (N := some 82) (v := ?_) (a' := ?_) #[true, false, false, false, false, false, false, false, false, false, false, false, false, false, false, false] rfl rfl (by kernel_rfl) (fun _ _ _ h => h) (Or.inl ⟨by rfl, ?_⟩) ?_ ?_
      rotate_left
      · intro w'
        go_simp
        with_reducible rfl
      rotate_left
      · simp only [Act.put, List.setIfInBounds_toArray, List.set_cons_zero, List.set_cons_succ, i64_w, i32_w]
        rfl
      refine pure_ (i := 1) (N := some 83) (v := ?_) (a' := ?_) #[true, true, false, false, false, false, false, false, false, false, false, false, false, false, false, false] rfl rfl (by kernel_rfl) (fun _ _ _ h => h) (Or.inl ⟨by rfl, ?_⟩) ?_ ?_
      rotate_left
      · intro w'
        go_simp
        with_reducible rfl
      rotate_left
      · simp only [Act.put, List.setIfInBounds_toArray, List.set_cons_zero, List.set_cons_succ, i64_w, i32_w]
        rfl
      refine pure_ (i := 2) (N := some 84) (v := ?_) (a' := ?_) #[true, true, true, false, false, false, false, false, false, false, false, false, false, false, false, false] rfl rfl (by kernel_rfl) (fun _ _ _ h => h) (Or.inl ⟨by rfl, ?_⟩) ?_ ?_
      rotate_left
      · intro w'
        go_simp
        with_reducible rfl
      rotate_left
      · simp only [Act.put, List.setIfInBounds_toArray, List.set_cons_zero, List.set_cons_succ, i64_w, i32_w]
        rfl
      refine pure_ (i := 3) (N := some 85) (v := ?_) (a' := ?_) #[true, true, true, true, false, false, false, false, false, false, false, false, false, false, false, false] rfl rfl (by kernel_rfl) (fun _ _ _ h => h) (Or.inl ⟨by rfl, ?_⟩) ?_ ?_
      rotate_left
      · intro w'
        go_simp
        with_reducible rfl
      rotate_left
      · simp only [Act.put, List.setIfInBounds_toArray, List.set_cons_zero, List.set_cons_succ, i64_w, i32_w]
        rfl
      refine pure_ (i := 4) (N := some 86) (v := ?_) (a' := ?_) #[true, true, true, true, true, false, false, false, false, false, false, false, false, false, false, false] rfl rfl (by kernel_rfl) (fun _ _ _ h => h) (Or.inl ⟨by rfl, ?_⟩) ?_ ?_
      rotate_left
      · intro w'
        go_simp
        with_reducible rfl
      rotate_left
      · simp only [Act.put, List.setIfInBounds_toArray, List.set_cons_zero, List.set_cons_succ, i64_w, i32_w]
        rfl
      refine pure_ (i := 5) (N := some 87) (v := ?_) (a' := ?_) #[true, true, true, true, true, true, false, false, false, false, false, false, false, false, false, false] rfl rfl (by kernel_rfl) (fun _ _ _ h => h) (Or.inl ⟨by rfl, ?_⟩) ?_ ?_
      rotate_left
      · intro w'
        go_simp
        with_reducible rfl
      rotate_left
      · simp only [Act.put, List.setIfInBounds_toArray, List.set_cons_zero, List.set_cons_succ, i64_w, i32_w]
        rfl
      refine pure_ (i := 6) (N := some 88) (v := ?_) (a' := ?_) #[true, true, true, true, true, true, true, false, false, false, false, false, false, false, false, false] rfl rfl (by kernel_rfl) (fun _ _ _ h => h) (Or.inl ⟨by rfl, ?_⟩) ?_ ?_
      rotate_left
      · intro w'
        go_simp
        with_reducible rfl
      rotate_left
      · simp only [Act.put, List.setIfInBounds_toArray, List.set_cons_zero, List.set_cons_succ, i64_w, i32_w]
        rfl
      refine take_ (i := 7) (N := some 89) (v := ?_) (a' := ?_) #[true, true, true, true, true, true, true, true, false, false, false, false, false, false, false, false] rfl rfl (by kernel_rfl) (fun _ _ _ h => h) (Or.inl ⟨by rfl, ?_⟩) hHeld ?_ ?_
      rotate_left
      · intro w' s0
        go_simp
        with_reducible rfl
      rotate_left
      · simp only [Act.put, List.setIfInBounds_toArray, List.set_cons_zero, List.set_cons_succ, i64_w, i32_w]
        rfl
      refine pure_ (i := 8) (N := some 90) (v := ?_) (a' := ?_) #[true, true, true, true, true, true, true, true, true, false, false, false, false, false, false, false] rfl rfl (by kernel_rfl) (fun _ _ _ h => h) (Or.inl ⟨by rfl, ?_⟩) ?_ ?_
      rotate_left
      · intro w'
        go_simp
        with_reducible rfl
      rotate_left
      · simp only [Act.put, List.setIfInBounds_toArray, List.set_cons_zero, List.set_cons_succ, i64_w, i32_w]
        rfl
      refine join_ (σ := Nat) 2 #[true, true, true, true, true, true, true, true, true, true, true, true, true, true, false, false] (fun q => [(91, Value.tuple #[((st.line).held (st.line.key (st.line.from_ + 1))).val, .bool true]), (81, Value.tuple #[((st.line).held (st.line.key (st.line.from_ + 1))).val, .bool true]), (92, ((st.line).held (st.line.key (st.line.from_ + 1))).val), (93, Value.bool true), (9, .pointer (some ⟨q, 0, none⟩))]) (fun q w' => Below wr.heap.size wr w' ∧ w'.heap[q]? = some (.cells #[Value.int .i64 0, .int .i64 0, .int .i64 0, .int .i64 0, .string ⟨#[]⟩, .string ⟨#[]⟩, .int .i64 0] tU) ∧ wr.heap.size ≤ q) ?_ ?_
      rotate_left
      · intro hCont
        refine two_ (i := 9) (j := 13) (Ni := some 91) (Nj := some 9) #[true, true, true, true, true, true, true, true, true, true, false, false, false, false, false, false] #[true, true, true, true, true, true, true, true, true, false, false, false, false, true, false, false] rfl rfl rfl rfl (by kernel_rfl) (by decide) (by decide) (fun K hK => ?_) (fun K hK => ?_)
        · skip
          refine goes_ Try.func37 (by kernel_rfl) rfl #[.pointer (some ⟨g, 0, none⟩), .int .i64 (st.line.from_ + 1)] (by rfl) rfl rfl (by simp only [List.map_toArray, List.map_cons, List.map_nil]; rfl) ?_
          with_reducible refine (at_has (st.line.from_ + 1) true HH.out (blk_below G2.out BW1.out) C2.out.line vw1 vw2 (by omega)).mono ?_
          rintro e w2 ⟨rfl, hb2⟩
          refine ⟨_, rfl, ?_⟩
          have BW2 := Lib.hid (below_then BW1.out (Nat.le_refl _) hb2)
          refine hK.out _ _ (((blkc (blk_below G2.out BW2.out) 0).trans C2.out.line.from_)) (fun hHeld => ?_)
          clear hK K
          refine norm_ (a' := ?_) ?_ ?_
          rotate_left
          · show Act.put _ (some 91) _ = _
            simp only [Act.put, List.setIfInBounds_toArray, List.set_cons_zero, List.set_cons_succ, i64_w, i32_w]
            rfl
          refine pure_ (i := 10) (N := some 81) (v := ?_) (a' := ?_) #[true, true, true, true, true, true, true, true, true, true, true, false, false, false, false, false] rfl rfl (by kernel_rfl) (fun _ _ _ h => h) (Or.inl ⟨by rfl, ?_⟩) ?_ ?_
          rotate_left
          · intro w'
            go_simp
            with_reducible rfl
          rotate_left
          · simp only [Act.put, List.setIfInBounds_toArray, List.set_cons_zero, List.set_cons_succ, i64_w, i32_w]
            rfl
          refine pure_ (i := 11) (N := some 92) (v := ?_) (a' := ?_) #[true, true, true, true, true, true, true, true, true, true, true, true, false, false, false, false] rfl rfl (by kernel_rfl) (fun _ _ _ h => h) (Or.inl ⟨by rfl, ?_⟩) ?_ ?_
          rotate_left
          · intro w'
            go_simp
            with_reducible rfl
          rotate_left
          · simp only [Act.put, List.setIfInBounds_toArray, List.set_cons_zero, List.set_cons_succ, i64_w, i32_w]
            rfl
          refine pure_ (i := 12) (N := some 93) (v := ?_) (a' := ?_) #[true, true, true, true, true, true, true, true, true, true, true, true, true, false, false, false] rfl rfl (by kernel_rfl) (fun _ _ _ h => h) (Or.inl ⟨by rfl, ?_⟩) ?_ ?_
          rotate_left
          · intro w'
            go_simp
            with_reducible rfl
          rotate_left
          · simp only [Act.put, List.setIfInBounds_toArray, List.set_cons_zero, List.set_cons_succ, i64_w, i32_w]
            rfl
          refine one_ (i := 13) (N := some 9) #[true, true, true, true, true, true, true, true, true, true, true, true, true, true, false, false] rfl rfl (by kernel_rfl) (by decide) (fun K hK => ?_)
          refine value_ (w1 := ?_) (v := ?_) (by rfl) rfl ?_ ?_
          rotate_left 2
          · go_simp
            constructor
            · rfl
            · rfl
          have BW3 := Lib.hid (below_alloc BW2.out (.cells #[Value.int .i64 0, .int .i64 0, .int .i64 0, .int .i64 0, .string ⟨#[]⟩, .string ⟨#[]⟩, .int .i64 0] tU))
          refine hK.out _ _ (((blkc (blk_below G2.out BW3.out) 0).trans C2.out.line.from_)) (fun hHeld => ?_)
          clear hK K
          refine norm_ (a' := ?_) ?_ ?_
          rotate_left
          · show Act.put _ (some 9) _ = _
            simp only [Act.put, List.setIfInBounds_toArray, List.set_cons_zero, List.set_cons_succ, i64_w, i32_w]
            rfl
          exact norm_ (by simp only [putAll, Act.put, List.setIfInBounds_toArray, List.set_cons_zero, List.set_cons_succ]) (hCont _ _ ⟨BW3.out, blk_new w2 (.cells #[Value.int .i64 0, .int .i64 0, .int .i64 0, .int .i64 0, .string ⟨#[]⟩, .string ⟨#[]⟩, .int .i64 0] tU), BW2.out.size⟩)
        · skip
          refine value_ (w1 := ?_) (v := ?_) (by rfl) rfl ?_ ?_
          rotate_left 2
          · go_simp
            constructor
            · rfl
            · rfl
          have BW4 := Lib.hid (below_alloc (Below.refl wr.heap.size wr) (.cells #[Value.int .i64 0, .int .i64 0, .int .i64 0, .int .i64 0, .string ⟨#[]⟩, .string ⟨#[]⟩, .int .i64 0] tU)).drew
          refine hK.out _ _ (((blkc (blk_below G2.out BW4.out) 0).trans C2.out.line.from_)) (fun hHeld => ?_)
          clear hK K
          refine norm_ (a' := ?_) ?_ ?_
          rotate_left
          · show Act.put _ (some 9) _ = _
            simp only [Act.put, List.setIfInBounds_toArray, List.set_cons_zero, List.set_cons_succ, i64_w, i32_w]
            rfl
          refine one_ (i := 9) (N := some 91) #[true, true, true, true, true, true, true, true, true, true, false, false, false, true, false, false] rfl rfl (by kernel_rfl) (by decide) (fun K hK => ?_)
          refine goes_ Try.func37 (by kernel_rfl) rfl #[.pointer (some ⟨g, 0, none⟩), .int .i64 (st.line.from_ + 1)] (by rfl) rfl rfl (by simp only [List.map_toArray, List.map_cons, List.map_nil]; rfl) ?_
          with_reducible refine (at_has (st.line.from_ + 1) true HH.out (blk_below G2.out BW4.out) C2.out.line vw1 vw2 (by omega)).mono ?_
          rintro e w5 ⟨rfl, hb5⟩
          refine ⟨_, rfl, ?_⟩
          have BW5 := Lib.hid (below_then BW4.out BW4.out.size hb5)
          have Z5 := Lib.hid (blk_below (blk_drew (blk_new wr (.cells #[Value.int .i64 0, .int .i64 0, .int .i64 0, .int .i64 0, .string ⟨#[]⟩, .string ⟨#[]⟩, .int .i64 0] tU))) hb5)
          refine hK.out _ _ (((blkc (blk_below G2.out BW5.out) 0).trans C2.out.line.from_)) (fun hHeld => ?_)
          clear hK K
          refine norm_ (a' := ?_) ?_ ?_
          rotate_left
          · show Act.put _ (some 91) _ = _
            simp only [Act.put, List.setIfInBounds_toArray, List.set_cons_zero, List.set_cons_succ, i64_w, i32_w]
            rfl
          refine pure_ (i := 10) (N := some 81) (v := ?_) (a' := ?_) #[true, true, true, true, true, true, true, true, true, true, true, false, false, true, false, false] rfl rfl (by kernel_rfl) (fun _ _ _ h => h) (Or.inl ⟨by rfl, ?_⟩) ?_ ?_
          rotate_left
          · intro w'
            go_simp
            with_reducible rfl
          rotate_left
          · simp only [Act.put, List.setIfInBounds_toArray, List.set_cons_zero, List.set_cons_succ, i64_w, i32_w]
            rfl
          refine pure_ (i := 11) (N := some 92) (v := ?_) (a' := ?_) #[true, true, true, true, true, true, true, true, true, true, true, true, false, true, false, false] rfl rfl (by kernel_rfl) (fun _ _ _ h => h) (Or.inl ⟨by rfl, ?_⟩) ?_ ?_
          rotate_left
          · intro w'
            go_simp
            with_reducible rfl
          rotate_left
          · simp only [Act.put, List.setIfInBounds_toArray, List.set_cons_zero, List.set_cons_succ, i64_w, i32_w]
            rfl
          refine pure_ (i := 12) (N := some 93) (v := ?_) (a' := ?_) #[true, true, true, true, true, true, true, true, true, true, true, true, true, true, false, false] rfl rfl (by kernel_rfl) (fun _ _ _ h => h) (Or.inl ⟨by rfl, ?_⟩) ?_ ?_
          rotate_left
          · intro w'
            go_simp
            with_reducible rfl
          rotate_left
          · simp only [Act.put, List.setIfInBounds_toArray, List.set_cons_zero, List.set_cons_succ, i64_w, i32_w]
            rfl
          exact norm_ (by simp only [putAll, Act.put, List.setIfInBounds_toArray, List.set_cons_zero, List.set_cons_succ]) (hCont _ _ ⟨BW5.out, Z5.out, Nat.le_refl _⟩)
      rintro q w6 ⟨BW6_, Z6_, hq6⟩
      have BW6 := Lib.hid BW6_
      have Z6 := Lib.hid Z6_
      clear BW6_ Z6_
      have hHeld := ((blkc (blk_below G2.out BW6.out) 0).trans C2.out.line.from_)
      refine norm_ (a' := ?_) ?_ ?_
      rotate_left
      · simp only [putAll, Act.put, List.setIfInBounds_toArray, List.set_cons_zero, List.set_cons_succ]
        rfl
      refine one_ (i := 14) (N := none) #[true, true, true, true, true, true, true, true, true, true, true, true, true, true, true, false] rfl rfl (by kernel_rfl) (by decide) (fun K hK => ?_)
      refine store_stepU (by rfl) (by rfl) tU (.tmp 9) (.tmp 92) rfl q 0 ((st.line).held (st.line.key (st.line.from_ + 1))) rfl rfl (there_U Z6.out (by simp)) (by kernel_rfl) ?_
      have Z7 := Lib.hid (blk_lay ((st.line).held (st.line.key (st.line.from_ + 1))) 0 Z6.out)
      have BW7 := Lib.hid (below_setCells hq6 ((st.line).held (st.line.key (st.line.from_ + 1))).cells 0 BW6.out)
      generalize (World.setCells _ _ _ _) = W7 at *
      refine hK.out _ _ (((blkc (blk_below G2.out BW7.out) 0).trans C2.out.line.from_)) (fun hHeld => ?_)
      clear hK K
      refine pure_ (i := 15) (N := some 10) (v := ?_) (a' := ?_) #[true, true, true, true, true, true, true, true, true, true, true, true, true, true, true, true] rfl rfl (by kernel_rfl) (fun _ _ _ h => h) (Or.inl ⟨by rfl, ?_⟩) ?_ ?_
      rotate_left
      · intro w'
        go_simp
        with_reducible rfl
      rotate_left
      · simp only [Act.put, List.setIfInBounds_toArray, List.set_cons_zero, List.set_cons_succ, i64_w, i32_w]
        rfl
      refine done_ (by kernel_rfl) ?_
      generalize hyy : st.line.held (st.line.key (st.line.from_ + 1)) = y at *
      clear hyy
      have G7 := Lib.hid (blk_below G2.out BW7.out)
      have B7 := Lib.hid (below_then B2.out B2.out.size BW7.out)
      have K7 := Lib.hid (K2.out.below BW7.out)
      have R7 := Lib.hid (Kd.R_below R2.out BW7.out)
      have Z7 := Lib.hid (show W7.heap[q]? = some (.cells #[.int .i64 y.seq, .int .i64 y.client, .int .i64 y.number, .int .i64 y.kind, .string y.key, .string y.value, .int .i64 y.version] tU (0, 0)) from by have := Z7.out; simpa [lay] using this)
      have hqg : q ≠ g := by omega
      clear G2 B2 K2 R2 BW7 BW6 Z6
      have c0 := (blkc G7.out 0).trans C2.out.line.from_
      have z0 := blkz G7.out 0
      have G8 := Lib.hid (blk_set G7.out 0 (.int .i64 (st.line.from_ + 1)))
      have B8 := Lib.hid (below_set (g := g) (j := 0) (v := .int .i64 (st.line.from_ + 1)) B7.out hg)
      have K8 := Lib.hid (K7.out.setCell (p := ⟨g, 0, none⟩) (.inl rfl) (.int .i64 (st.line.from_ + 1)))
      have R8 := Lib.hid (Kd.R_set R7.out G7.out hUI 0 (.int .i64 (st.line.from_ + 1)))
      have Z8 := Lib.hid (blk_far (p := ⟨g, 0, none⟩) Z7.out hqg (.int .i64 (st.line.from_ + 1)))
      have C8 := Lib.hid (C2.out.set_from (st.line.from_ + 1))
      go_wp2_with fail
      clear c0 z0 G7 B7 K7 R7 Z7
      generalize (World.setCell _ _ _) = W8 at *
      have G9 := Lib.hid (blk_drew G8.out)
      have B9 := Lib.hid B8.out.drew
      have K9 := Lib.hid K8.out.drew
      have R9 := Lib.hid (Kd.R_types (Kd.R_drew R8.out) G9.out hUI)
      have Z9 := Lib.hid (blk_drew Z8.out)
      have LL := Lib.hid (show LineR _ (st.line.setFrom (st.line.from_ + 1)) from C8.out.line)
      have HXX := Lib.hid (show (st.line.from_ + 1).tmod (st.line.setFrom (st.line.from_ + 1)).window = (st.line.key (st.line.from_ + 1) : Int) from HX.out)
      have vw1' : 1 ≤ (st.line.setFrom (st.line.from_ + 1)).window := vw1
      have hcs := Lib.hid (show 515 ≤ (cs1.setIfInBounds 0 (.int .i64 (st.line.from_ + 1))).size by rw [C8.out.size]; omega)
      have C10 := Lib.hid (C8.out.put x2 U.zero false)
      clear G8 B8 K8 R8 Z8
      refine start_ (n := 9) (S := fun w' => (w'.cell? ⟨g, 0, none⟩ = some (.int .i64 (st.line.from_ + 1)))) (ds := []) #[false, false, false, false, false, false, false, false, false] (by kernel_rfl) rfl rfl (((blkc G9.out 0).trans LL.out.from_)) (fun hHeld => ?_)
      refine pure_ (i := 0) (N := some 106) (v := ?_) (a' := ?_) #[true, false, false, false, false, false, false, false, false] rfl rfl (by kernel_rfl) (fun _ _ _ h => h) (Or.inl ⟨by rfl, ?_⟩) ?_ ?_
      rotate_left
      · intro w'
        go_simp
        with_reducible rfl
      rotate_left
      · simp only [Act.put, List.setIfInBounds_toArray, List.set_cons_zero, List.set_cons_succ, i64_w, i32_w]
        rfl
      refine pure_ (i := 1) (N := some 107) (v := ?_) (a' := ?_) #[true, true, false, false, false, false, false, false, false] rfl rfl (by kernel_rfl) (fun _ _ _ h => h) (Or.inl ⟨by rfl, ?_⟩) ?_ ?_
      rotate_left
      · intro w'
        go_simp
        with_reducible rfl
      rotate_left
      · simp only [Act.put, List.setIfInBounds_toArray, List.set_cons_zero, List.set_cons_succ, i64_w, i32_w]
        rfl
      refine pure_ (i := 2) (N := some 108) (v := ?_) (a' := ?_) #[true, true, true, false, false, false, false, false, false] rfl rfl (by kernel_rfl) (fun _ _ _ h => h) (Or.inl ⟨by rfl, ?_⟩) ?_ ?_
      rotate_left
      · intro w'
        go_simp
        with_reducible rfl
      rotate_left
      · simp only [Act.put, List.setIfInBounds_toArray, List.set_cons_zero, List.set_cons_succ, i64_w, i32_w]
        rfl
      refine pure_ (i := 3) (N := some 109) (v := ?_) (a' := ?_) #[true, true, true, true, false, false, false, false, false] rfl rfl (by kernel_rfl) (fun _ _ _ h => h) (Or.inl ⟨by rfl, ?_⟩) ?_ ?_
      rotate_left
      · intro w'
        go_simp
        with_reducible rfl
      rotate_left
      · simp only [Act.put, List.setIfInBounds_toArray, List.set_cons_zero, List.set_cons_succ, i64_w, i32_w]
        rfl
      refine pure_ (i := 4) (N := some 110) (v := ?_) (a' := ?_) #[true, true, true, true, true, false, false, false, false] rfl rfl (by kernel_rfl) (fun _ _ _ h => h) (Or.inl ⟨by rfl, ?_⟩) ?_ ?_
      rotate_left
      · intro w'
        go_simp
        with_reducible rfl
      rotate_left
      · simp only [Act.put, List.setIfInBounds_toArray, List.set_cons_zero, List.set_cons_succ, i64_w, i32_w]
        rfl
      refine pure_ (i := 5) (N := some 111) (v := ?_) (a' := ?_) #[true, true, true, true, true, true, false, false, false] rfl rfl (by kernel_rfl) (fun _ _ _ h => h) (Or.inl ⟨by rfl, ?_⟩) ?_ ?_
      rotate_left
      · intro w'
        go_simp
        with_reducible rfl
      rotate_left
      · simp only [Act.put, List.setIfInBounds_toArray, List.set_cons_zero, List.set_cons_succ, i64_w, i32_w]
        rfl
      refine pure_ (i := 6) (N := some 112) (v := ?_) (a' := ?_) #[true, true, true, true, true, true, true, false, false] rfl rfl (by kernel_rfl) (fun _ _ _ h => h) (Or.inl ⟨by rfl, ?_⟩) ?_ ?_
      rotate_left
      · intro w'
        go_simp
        with_reducible rfl
      rotate_left
      · simp only [Act.put, List.setIfInBounds_toArray, List.set_cons_zero, List.set_cons_succ, i64_w, i32_w]
        rfl
      refine take_ (i := 7) (N := some 113) (v := ?_) (a' := ?_) #[true, true, true, true, true, true, true, true, false] rfl rfl (by kernel_rfl) (fun _ _ _ h => h) (Or.inl ⟨by rfl, ?_⟩) hHeld ?_ ?_
      rotate_left
      · intro w' s0
        go_simp
        with_reducible rfl
      rotate_left
      · simp only [Act.put, List.setIfInBounds_toArray, List.set_cons_zero, List.set_cons_succ, i64_w, i32_w]
        rfl
      refine one_ (i := 8) (N := some 114) #[true, true, true, true, true, true, true, true, true] rfl rfl (by kernel_rfl) (by decide) (fun K hK => ?_)
      refine goes_ Try.func39 (by kernel_rfl) rfl #[.pointer (some ⟨g, 0, none⟩), .int .i64 (st.line.from_ + 1)] (by rfl) rfl rfl (by simp only [List.map_toArray, List.map_cons, List.map_nil]; rfl) ?_
      with_reducible refine (drop_any (w0 := w0) (l := st.line.setFrom (st.line.from_ + 1)) (st.line.from_ + 1) (st.line.key (st.line.from_ + 1)) G9.out LL.out hcs.out x2 HXX.out vw1' hg B9.out).mono ?_
      rintro e w10 ⟨rfl, hg10, hk10, hb10⟩
      refine ⟨_, rfl, ?_⟩
      have G10 := Lib.hid hg10
      have B10 := Lib.hid hb10
      have K10 := Lib.hid (K9.out.then_ hk10 (fun _ h => .inl h))
      have R10 := Lib.hid (Kd.R_kept R9.out hk10 (fun _ h => h.2))
      have Z10 := Lib.hid (Kept.blk_ne Z9.out hk10 hqg)
      clear hg10 hk10 hb10
      refine hK.out _ _ (((blkc G10.out 0).trans C10.out.line.from_)) (fun hHeld => ?_)
      clear hK K
      refine norm_ (a' := ?_) ?_ ?_
      rotate_left
      · show Act.put _ (some 114) _ = _
        simp only [Act.put, List.setIfInBounds_toArray, List.set_cons_zero, List.set_cons_succ, i64_w, i32_w]
        rfl
      refine done_ (by kernel_rfl) ?_
      clear G9 B9 K9 R9 Z9
      have c515 : w10.cell? ⟨g, 515, none⟩ = some (.int .i64 st.holds) := (blkc G10.out 515).trans C10.out.holds
      have z515 := blkz G10.out 515
      have e4 : IntKind.i64.wrap (st.holds - 1) = st.holds - 1 := IntWalk.i64_in _ (by omega)
      have G11 := Lib.hid (blk_set G10.out 515 (.int .i64 (st.holds - 1)))
      have B11 := Lib.hid (below_set (g := g) (j := 515) (v := .int .i64 (st.holds - 1)) B10.out hg)
      have K11 := Lib.hid (K10.out.setCell (p := ⟨g, 515, none⟩) (.inl rfl) (.int .i64 (st.holds - 1)))
      have R11 := Lib.hid (Kd.R_set (Kd.R_mono R10.out (fun _ h => h.1)) G10.out hUI 515 (.int .i64 (st.holds - 1)))
      have Z11 := Lib.hid (blk_far (p := ⟨g, 515, none⟩) Z10.out hqg (.int .i64 (st.holds - 1)))
      have C11 := Lib.hid (show InC _ st.step from C10.out.set_holds (st.holds - 1))
      have cq := blkc Z11.out
      clear G10 B10 K10 R10 Z10
      go_wp2_with ((at_builtin; refine Kd.R_append kU (w0 := _) w.heap.size rfl (.tmp 122) (.tmp 124) 24 tU (.agg #[.int .i64 0, .int .i64 0, .int .i64 0, .int .i64 0, .string ⟨#[]⟩, .string ⟨#[]⟩, .int .i64 0]) 72 rfl Try.underlying24 info_U rfl (by decide) (by decide) u8 (u :: acc) y [.int .i64 y.seq, .int .i64 y.client, .int .i64 y.number, .int .i64 y.kind, .string y.key, .string y.value, .int .i64 y.version] (fun _ => True) (fun _ => False) rfl (by rw [show (World.setCell w10 ⟨g, 515, none⟩ (.int .i64 (st.holds - 1))).heap.size = w10.heap.size from by simp [World.setCell]]; rfl) rfl (fun _ h => h.elim) (fun _ _ => trivial) R11.out (Below.refl _ _) K11.out.1 (by rw [List.length_cons]; omega) ?_); intro v12 w12 hr12 hb12 hg12 hat12)
      have hbase : ∀ k, u8.ownBlock = some k → w.heap.size ≤ k := Kd.R_base R11.out
      have G12 := Lib.hid (blk_grown G11.out hg12 (fun e => by have := hbase g e.symm; omega))
      have B12 := Lib.hid (pw_below_grown B11.out _ B11.out.size hg12 (fun k e => by have := hbase k e; omega))
      have K12 := Lib.hid (Kept.of_grown hg12 K11.out (fun k e => .inr (hbase k e)))
      have R12 := Lib.hid hr12
      clear hr12 hb12 hg12 hat12 hbase
      go_roundg k1
      case measure => exact Nat.lt_succ_self _
      case rel =>
        refine ⟨st.step, acc ++ [y], _, ST.out.1, Lib.hid (by have := HC.out; have := ST.out.2; omega), ?_, ?_, ?_, G12.out, C11.out, R12.out, B12.out, K12.out⟩
        · refine Lib.hid ?_
          rw [HD.out, HY.out]
          simp
        · refine Lib.hid ?_
          have := HF.out
          show st.line.from_ + 1 + (k1 : Int) ≤ _
          omega
        · refine Lib.hid ?_
          rw [List.length_append, List.length_singleton]
          omega
/-- Take, of any update. -/
theorem take_any {w w0 : World} {g : Nat} {s : InSt} (u : U) (hok : s.Ok) (h : InR w g s) (hg : w0.heap.size ≤ g) (HB : Below w0.heap.size w0 w) (hbd : s.line.from_ + 65 < 2305843009213693952) :
    Calls Try.prog 14 #[.pointer (some ⟨g, 0, none⟩), u.val] w fun e w' => ∃ r, e = .returned r ∧ InPost w w0 g (s.take u).1 (s.take u).2 r w' := by
  unfold InSt.take
  by_cases hw : s.line.from_ + 1 < u.seq ∧ u.seq < s.line.from_ + 1 + s.line.window
  · rw [if_pos hw]
    cases hh : s.line.has u.seq with
    | true => exact take_has u hok h hg HB hw.1 hw.2 hh
    | false => exact take_keep u hok h hg HB hw.1 hw.2 hh
  · rw [if_neg hw]
    by_cases hn : u.seq ≠ s.line.from_ + 1
    · rw [if_pos hn]
      exact take_old u hok h hg HB hn hw
    · rw [if_neg hn]
      exact take_next u hok h hg HB (by omega) hbd
end Go.Proofs.Ytofmgijdeeikeaa.Hop
