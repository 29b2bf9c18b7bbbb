/- HopMade: ends that no call made. -/
import Derived.Test.YtofmgijdeeikeaaHopKinds
set_option linter.unusedVariables false
set_option linter.unusedSimpArgs false
namespace Go.Proofs.Ytofmgijdeeikeaa.Hop
open Go.RowKit Go.Proofs.Ytofmgijdeeikeaa.Mem Go.Proofs.YtofmgijdeeikeaaW.PrintWords Go.Proofs.YtofmgijdeeikeaaW.PrintLast Go.Deep
/-- An end that no call made: nil, or a zero one. -/
def NotMade (w : World) (v : Value) : Prop := v = .pointer none ∨ ∃ g, v = .pointer (some ⟨g, 0, none⟩) ∧ w.cell? ⟨g, 514, none⟩ = some (.bool false)
theorem NotMade.below {w w1 : World} {v : Value} (h : NotMade w v) (hb : Below w.heap.size w w1) : NotMade w1 v := by
  rcases h with h | ⟨g, rfl, hc⟩
  · exact .inl h
  · exact .inr ⟨g, rfl, pw_cell_below hb hc⟩
theorem is_not {w : World} {v : Value} (h : NotMade w v) : Calls Try.prog 40 #[v] w fun e w' => e = .returned (.bool false) ∧ w = w' := by
  rcases h with rfl | ⟨g, rfl, hc⟩
  · exact is_nil w
  · exact is_any hc
theorem is_not' {w : World} {v : Value} (h : NotMade w v) : Calls Try.prog 40 #[v] w fun e w' => e = .returned (.bool false) ∧ w' = w := (is_not h).mono fun _ _ h => ⟨h.1, h.2.symm⟩
theorem acked_no {w : World} {v : Value} (h : NotMade w v) : Calls Try.prog 19 #[v] w fun e w' => e = .returned (.int .i64 0) ∧ w = w' := by
  rcases h with rfl | ⟨g, rfl, hc⟩
  · exact acked_nil w
  · exact acked_not hc
theorem last_no {w : World} {v : Value} (h : NotMade w v) : Calls Try.prog 20 #[v] w fun e w' => e = .returned (.int .i64 0) ∧ w = w' := by
  rcases h with rfl | ⟨g, rfl, hc⟩
  · exact last_nil w
  · exact last_not hc
theorem under_no {w : World} {v : Value} (h : NotMade w v) : Calls Try.prog 21 #[v] w fun e w' => e = .returned (.int .i64 0) ∧ w = w' := by
  rcases h with rfl | ⟨g, rfl, hc⟩
  · exact under_nil w
  · exact under_not hc
set_option maxRecDepth 100000 in
theorem offer_un {w : World} {v : Value} (u : U) (h : NotMade w v) : Calls Try.prog 26 #[v, u.val] w fun e w' => e = .returned (.tuple #[.slice none 0 0, .int .i64 2]) ∧ Below w.heap.size w w' := by
  have H := Lib.hid (h.below (below_alloc (Below.refl _ _) (.cells #[.int .i64 u.seq, .int .i64 u.client, .int .i64 u.number, .int .i64 u.kind, .string u.key, .string u.value, .int .i64 u.version] tU)))
  clear h
  go_enter Try.func26, Try.ntmps26
  go_wp2_with fail
  refine (is_not H.out).mono ?_
  rintro e w' ⟨rfl, rfl⟩
  go_wp2
  go_ret2
  exact ⟨rfl, (Below.refl _ _).alloc (Nat.le_refl _) _⟩
set_option maxRecDepth 100000 in
theorem ack_un {w : World} {v : Value} (n : Int) (h : NotMade w v) : Calls Try.prog 30 #[v, .int .i64 n] w fun e w' => e = .returned (.slice none 0 0) ∧ w = w' := by
  have H := Lib.hid h
  clear h
  go_enter Try.func30, Try.ntmps30
  go_wp2_with fail
  refine (is_not H.out).mono ?_
  rintro e w' ⟨rfl, rfl⟩
  go_wp2
  go_ret
  exact ⟨rfl, rfl⟩
set_option maxRecDepth 100000 in
theorem tick_un {w : World} {v : Value} (h : NotMade w v) : Calls Try.prog 32 #[v] w fun e w' => e = .returned (.slice none 0 0) ∧ ∃ n, w' = w.drewN n := by
  have H := Lib.hid h
  clear h
  go_enter Try.func32, Try.ntmps32
  go_wp2_with fail
  go_quiet ((go_at_call 40; exact Calls.quiet_of_same (is_not' (NotMade.below H.out (pw_below_drewN (Below.refl _ _) _)))))
  go_wp2
  go_ret
  exact ⟨rfl, _, rfl⟩
set_option maxRecDepth 100000 in
theorem take_un {w : World} {v : Value} (u : U) (h : NotMade w v) : Calls Try.prog 14 #[v, u.val] w fun e w' => e = .returned (.slice none 0 0) ∧ Below w.heap.size w w' := by
  have H := Lib.hid (h.below (below_alloc (Below.refl _ _) (.cells #[.int .i64 u.seq, .int .i64 u.client, .int .i64 u.number, .int .i64 u.kind, .string u.key, .string u.value, .int .i64 u.version] tU)))
  clear h
  rcases H.out with rfl | ⟨g, rfl, hc⟩
  · clear H
    go_enter Try.func14, Try.ntmps14
    go_wp2
    go_ret
    exact ⟨rfl, (Below.refl _ _).alloc (Nat.le_refl _) _⟩
  · clear H
    go_enter Try.func14, Try.ntmps14
    go_wp2
    go_ret
    exact ⟨rfl, (Below.refl _ _).alloc (Nat.le_refl _) _⟩
theorem next_no {w : World} {v : Value} (h : NotMade w v) : Calls Try.prog 15 #[v] w fun e w' => e = .returned (.int .i64 0) ∧ w = w' := by
  rcases h with rfl | ⟨g, rfl, hc⟩
  · exact next_nil w
  · exact next_not hc
theorem zero_in (u : World) : (zeroValue 77).run Try.prog u = .ok (.agg zic) u := by
  obtain ⟨i, hi, hz⟩ := Option.map_eq_some_iff.1 info_in
  simp only [Prod.mk.injEq] at hz
  simp [zeroValue, typeInfo, hi, hz.1]
theorem zero_out (u : World) : (zeroValue 75).run Try.prog u = .ok (.agg zoc) u := by
  obtain ⟨i, hi, hz⟩ := Option.map_eq_some_iff.1 info_out
  simp only [Prod.mk.injEq] at hz
  simp [zeroValue, typeInfo, hi, hz.1]
set_option maxHeartbeats 1600000 in
set_option maxRecDepth 100000 in
theorem made_any (u : U) (n : Int) (w : World) : Calls Try.prog 8 #[u.val, .int .i64 n] w fun e w' => e = .returned (.bool true) ∧ Below w.heap.size w w' := by
  have hzo := zero_out
  have hzi := zero_in
  have Z1 := Lib.hid OutC.zero
  have Z2 := Lib.hid InC.zero
  have hzs := zoc_size
  have hzs2 := zic_size
  generalize zoc = zo at *
  generalize zic = zi at *
  go_enter Try.func8, Try.ntmps8
  have hy : w.heap.size + 1 = (w.alloc (.cells #[.int .i64 u.seq, .int .i64 u.client, .int .i64 u.number, .int .i64 u.kind, .string u.key, .string u.value, .int .i64 u.version] tU)).heap.size := by simp
  have hz : w.heap.size + 1 + 1 = ((w.alloc (.cells #[.int .i64 u.seq, .int .i64 u.client, .int .i64 u.number, .int .i64 u.kind, .string u.key, .string u.value, .int .i64 u.version] tU)).alloc (.cells zo tOut)).heap.size := by simp
  have hl : w.heap.size + 1 + 1 + 1 = (((w.alloc (.cells #[.int .i64 u.seq, .int .i64 u.client, .int .i64 u.number, .int .i64 u.kind, .string u.key, .string u.value, .int .i64 u.version] tU)).alloc (.cells zo tOut)).alloc (.cells zi tIn)).heap.size := by simp
  have P0 := Lib.hid (blk_below (blk_below (blk_below (blk_new w (.cells #[.int .i64 u.seq, .int .i64 u.client, .int .i64 u.number, .int .i64 u.kind, .string u.key, .string u.value, .int .i64 u.version] tU)) (below_alloc (Below.refl _ _) (.cells zo tOut))) (below_alloc (Below.refl _ _) (.cells zi tIn))) (below_alloc (Below.refl _ _) (.cells #[.pointer none, .pointer (some ⟨w.heap.size + 1, 0, none⟩)] 43)))
  have Y0 := Lib.hid (blk_below (blk_below (blk_new (w.alloc (.cells #[.int .i64 u.seq, .int .i64 u.client, .int .i64 u.number, .int .i64 u.kind, .string u.key, .string u.value, .int .i64 u.version] tU)) (.cells zo tOut)) (below_alloc (Below.refl _ _) (.cells zi tIn))) (below_alloc (Below.refl _ _) (.cells #[.pointer none, .pointer (some ⟨w.heap.size + 1, 0, none⟩)] 43)))
  have I0 := Lib.hid (blk_below (blk_new ((w.alloc (.cells #[.int .i64 u.seq, .int .i64 u.client, .int .i64 u.number, .int .i64 u.kind, .string u.key, .string u.value, .int .i64 u.version] tU)).alloc (.cells zo tOut)) (.cells zi tIn)) (below_alloc (Below.refl _ _) (.cells #[.pointer none, .pointer (some ⟨w.heap.size + 1, 0, none⟩)] 43)))
  have L0 := Lib.hid (blk_new (((w.alloc (.cells #[.int .i64 u.seq, .int .i64 u.client, .int .i64 u.number, .int .i64 u.kind, .string u.key, .string u.value, .int .i64 u.version] tU)).alloc (.cells zo tOut)).alloc (.cells zi tIn)) (.cells #[.pointer none, .pointer (some ⟨w.heap.size + 1, 0, none⟩)] 43))
  have B0 := Lib.hid (below_alloc (below_alloc (below_alloc (below_alloc (Below.refl w.heap.size w) (.cells #[.int .i64 u.seq, .int .i64 u.client, .int .i64 u.number, .int .i64 u.kind, .string u.key, .string u.value, .int .i64 u.version] tU)) (.cells zo tOut)) (.cells zi tIn)) (.cells #[.pointer none, .pointer (some ⟨w.heap.size + 1, 0, none⟩)] 43))
  rw [← hy] at Y0
  rw [← hz] at I0
  rw [← hl] at L0
  clear hy hz hl
  go_wp2_with fail
  generalize (World.alloc (World.alloc (World.alloc (World.alloc w _) _) _) _) = W0 at *
  have NY := Lib.hid (show NotMade W0 (.pointer (some ⟨w.heap.size + 1, 0, none⟩)) from .inr ⟨_, rfl, (blkc Y0.out 514).trans Z1.out.line.made⟩)
  have NI := Lib.hid (show NotMade W0 (.pointer (some ⟨w.heap.size + 1 + 1, 0, none⟩)) from .inr ⟨_, rfl, (blkc I0.out 514).trans Z2.out.line.made⟩)
  have HI := Lib.hid ((blkc I0.out 515).trans Z2.out.holds)
  generalize w.heap.size + 1 + 1 + 1 = lq at *
  generalize w.heap.size + 1 + 1 = iq at *
  generalize w.heap.size + 1 = yq at *
  go_loopg [18] 2 (fun kq v18 w' => ∃ k : Nat, v18 = .int .i64 (k : Int) ∧ Hid (k + kq = 2) ∧ Hid (Below W0.heap.size W0 w'))
  case atStart => exact ⟨0, rfl, (show _ + _ = _ by omega), Below.refl _ _⟩
  case round =>
    obtain ⟨k, rfl, HK, HB⟩ := hrel
    cases gk with
    | zero =>
      have hk : k = 2 := HK.out
      subst hk
      have B1 := Lib.hid (below_then B0.out B0.out.size HB.out)
      have P1 := Lib.hid (blk_below P0.out HB.out)
      have N1 := Lib.hid (NI.out.below HB.out)
      have H1 := Lib.hid (pw_cell_below HB.out HI.out)
      have hl := Lib.hid (blk_new wr (.cells #[.pointer none, .pointer (some ⟨iq, 0, none⟩)] 29))
      have B2 := Lib.hid (below_alloc B1.out (.cells #[.pointer none, .pointer (some ⟨iq, 0, none⟩)] 29))
      have P2 := Lib.hid (blk_below P1.out (below_alloc (Below.refl _ _) (.cells #[.pointer none, .pointer (some ⟨iq, 0, none⟩)] 29)))
      have N2 := Lib.hid (N1.out.below (below_alloc (Below.refl _ _) (.cells #[.pointer none, .pointer (some ⟨iq, 0, none⟩)] 29)))
      have H2 := Lib.hid (pw_cell_below (below_alloc (Below.refl _ _) (.cells #[.pointer none, .pointer (some ⟨iq, 0, none⟩)] 29)) H1.out)
      clear B1 P1 N1 H1
      go_wp2_with fail
      generalize hlq : wr.heap.size = l2 at *
      generalize (World.alloc wr _) = W2 at *
      clear hlq
      go_loopg [67] 2 (fun kq v67 w' => ∃ k : Nat, v67 = .int .i64 (k : Int) ∧ Hid (k + kq = 2) ∧ Hid (Below W2.heap.size W2 w'))
      case atStart => exact ⟨0, rfl, (show _ + _ = _ by omega), Below.refl _ _⟩
      case round =>
        obtain ⟨k, rfl, HK, HB2⟩ := hrel
        have P3 := Lib.hid (blk_below P2.out HB2.out)
        have L3 := Lib.hid (blk_below hl.out HB2.out)
        have N3 := Lib.hid (N2.out.below HB2.out)
        have H3 := Lib.hid (pw_cell_below HB2.out H2.out)
        have cp := blkc P3.out
        cases gk with
        | zero =>
          have hk : k = 2 := HK.out
          subst hk
          go_wp2_with fail
          refine (lives_any _).mono ?_
          rintro e w5 ⟨rfl, hb5⟩
          go_wp2
          go_ret
          exact ⟨rfl, below_then (below_then B2.out B2.out.size HB2.out) (Nat.le_trans B2.out.size HB2.out.size) hb5⟩
        | succ k1 =>
          have hk : k = 0 ∨ k = 1 := by have := HK.out; omega
          rcases hk with rfl | rfl
          · have cl := (blkc L3.out 0)
            simp only [List.getElem?_toArray, List.getElem?_cons_zero] at cl
            go_wp2_with fail
            refine (take_un u (.inl rfl)).mono ?_
            rintro e w5 ⟨rfl, hb5⟩
            go_wp2_with fail
            refine (next_no (.inl rfl)).mono ?_
            rintro e w' ⟨rfl, rfl⟩
            go_wp2_with fail
            refine (held_nil _).mono ?_
            rintro e w' ⟨rfl, rfl⟩
            have HB5 := Lib.hid (below_then HB2.out HB2.out.size hb5)
            clear hb5
            go_wp2_with fail
            go_roundg k1
            case measure => exact Nat.lt_succ_self _
            case rel => exact ⟨1, rfl, Lib.hid (by have := HK.out; omega), HB5.out⟩
          · have cl := (blkc L3.out 1)
            simp only [List.getElem?_toArray, List.getElem?_cons_zero, List.getElem?_cons_succ] at cl
            go_wp2_with fail
            refine (take_un u N3.out).mono ?_
            rintro e w5 ⟨rfl, hb5⟩
            have N5 := Lib.hid (N3.out.below hb5)
            have H5 := Lib.hid (pw_cell_below hb5 H3.out)
            go_wp2_with fail
            refine (next_no N5.out).mono ?_
            rintro e w' ⟨rfl, rfl⟩
            go_wp2_with fail
            refine (held_any H5.out).mono ?_
            rintro e w' ⟨rfl, rfl⟩
            have HB5 := Lib.hid (below_then HB2.out HB2.out.size hb5)
            clear hb5
            go_wp2_with fail
            go_roundg k1
            case measure => exact Nat.lt_succ_self _
            case rel => exact ⟨2, rfl, Lib.hid (by have := HK.out; omega), HB5.out⟩
    | succ k1 =>
      have P1 := Lib.hid (blk_below P0.out HB.out)
      have L1 := Lib.hid (blk_below L0.out HB.out)
      have N1 := Lib.hid (NY.out.below HB.out)
      have cp := blkc P1.out
      have hk : k = 0 ∨ k = 1 := by have := HK.out; omega
      rcases hk with rfl | rfl
      · have cl := (blkc L1.out 0)
        simp only [List.getElem?_toArray, List.getElem?_cons_zero, List.getElem?_cons_succ] at cl
        go_wp2_with fail
        refine (offer_un u (.inl rfl)).mono ?_
        rintro e w5 ⟨rfl, hb5⟩
        have N5 := Lib.hid (NotMade.below (show NotMade wr (.pointer none) from (.inl rfl)) hb5)
        have HB5 := Lib.hid (below_then HB.out HB.out.size hb5)
        clear hb5
        go_wp2_with fail
        refine (ack_un n N5.out).mono ?_
        rintro e w' ⟨rfl, rfl⟩
        go_wp2_with fail
        refine (tick_un N5.out).mono ?_
        rintro e w' ⟨rfl, nq, rfl⟩
        have N6 := Lib.hid (NotMade.below N5.out (pw_below_drewN (Below.refl _ _) nq))
        have HB6 := Lib.hid (pw_below_drewN HB5.out nq)
        clear N5 HB5
        generalize w5.drewN nq = w6 at *
        go_wp2_with fail
        refine (acked_no N6.out).mono ?_
        rintro e w' ⟨rfl, rfl⟩
        go_wp2_with fail
        refine (last_no N6.out).mono ?_
        rintro e w' ⟨rfl, rfl⟩
        go_wp2_with fail
        refine (under_no N6.out).mono ?_
        rintro e w' ⟨rfl, rfl⟩
        go_wp2_with fail
        go_roundg k1
        case measure => exact Nat.lt_succ_self _
        case rel => exact ⟨1, rfl, Lib.hid (by have := HK.out; omega), HB6.out⟩
      · have cl := (blkc L1.out 1)
        simp only [List.getElem?_toArray, List.getElem?_cons_zero, List.getElem?_cons_succ] at cl
        go_wp2_with fail
        refine (offer_un u N1.out).mono ?_
        rintro e w5 ⟨rfl, hb5⟩
        have N5 := Lib.hid (NotMade.below (show NotMade wr (.pointer (some ⟨yq, 0, none⟩)) from N1.out) hb5)
        have HB5 := Lib.hid (below_then HB.out HB.out.size hb5)
        clear hb5
        go_wp2_with fail
        refine (ack_un n N5.out).mono ?_
        rintro e w' ⟨rfl, rfl⟩
        go_wp2_with fail
        refine (tick_un N5.out).mono ?_
        rintro e w' ⟨rfl, nq, rfl⟩
        have N6 := Lib.hid (NotMade.below N5.out (pw_below_drewN (Below.refl _ _) nq))
        have HB6 := Lib.hid (pw_below_drewN HB5.out nq)
        clear N5 HB5
        generalize w5.drewN nq = w6 at *
        go_wp2_with fail
        refine (acked_no N6.out).mono ?_
        rintro e w' ⟨rfl, rfl⟩
        go_wp2_with fail
        refine (last_no N6.out).mono ?_
        rintro e w' ⟨rfl, rfl⟩
        go_wp2_with fail
        refine (under_no N6.out).mono ?_
        rintro e w' ⟨rfl, rfl⟩
        go_wp2_with fail
        go_roundg k1
        case measure => exact Nat.lt_succ_self _
        case rel => exact ⟨2, rfl, Lib.hid (by have := HK.out; omega), HB6.out⟩
end Go.Proofs.Ytofmgijdeeikeaa.Hop
namespace Go.Proofs.Ytofmgijdeeikeaa.Walk
open Go.RowKit Go.Proofs.Ytofmgijdeeikeaa.Opn
theorem HopMade (x : UpdT) (cs : List Value) (n : Int) (W : World) (hc : kUpd.K W x cs) (hp : pUpd x) (hn : (Lit.int .i64 n).wf = true) : Calls Try.prog 8 #[.agg cs.toArray, .int .i64 n] W fun e W' => e = .returned (.bool true) ∧ Below W.heap.size W W' := by
  obtain ⟨_, _, rfl, rfl, _, _, rfl, rfl, _, _, rfl, rfl, _, _, rfl, rfl, _, _, rfl, rfl, _, _, rfl, rfl, rfl⟩ := hc
  exact Hop.made_any (ofT x) n W
end Go.Proofs.Ytofmgijdeeikeaa.Walk
