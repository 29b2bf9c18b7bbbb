/- The document's Tick, walked. -/
import Derived.Test.YtofmgijdeeikeaaHopRefOn
set_option linter.unusedVariables false
set_option linter.unusedSimpArgs false
namespace Go.Proofs.Ytofmgijdeeikeaa.Hop
open Go.RowKit Go.Proofs.Ytofmgijdeeikeaa.Mem Go.Proofs.YtofmgijdeeikeaaW.PrintWords Go.Proofs.YtofmgijdeeikeaaW.PrintLast Go.Deep
/-- What a call on the document's nearer end leaves. -/
def ROPost (w w0 : World) (g : Nat) (v : Value) (x' : RO) (out : List U) (r : Value) (w' : World) : Prop :=
  ∃ v', ROR w' w0.heap.size g v' x' ∧ (v'.ownBlock = v.ownBlock ∨ ∃ b, v'.ownBlock = some b ∧ w.heap.size ≤ b) ∧ kU.R tU w' w.heap.size (fun k => some k ≠ v'.ownBlock) r out ∧ Kept w w' (fun k => k = g ∨ some k = v.ownBlock) ∧ Below w0.heap.size w0 w'
/-- The document's nearer end as it may be. -/
structure RO.Ok (x : RO) : Prop where
  h0 : 0 ≤ x.first
  h1 : x.first ≤ 1152921504606846976
  h2 : x.all.length ≤ 1649267441664
  fa : x.first ≤ x.acked
  ast : x.acked ≤ x.sent
  sl : x.sent ≤ x.last
  w1 : 1 ≤ x.wi
  w2 : x.wi ≤ 64
  c0 : 0 ≤ x.clock
  c1 : x.clock ≤ 100
def RO.under (x : RO) : List U := (x.all.drop (x.acked - x.first).toNat).take (x.sent - x.acked).toNat
/-- What the document's end does with the clock. -/
def RO.tick (x : RO) : RO × List U := if x.sent ≤ x.acked then (x, []) else if x.clock + 1 < x.p then (x.setClock (x.clock + 1), []) else (x.setClock 0, x.under)
set_option maxHeartbeats 1600000 in
set_option maxRecDepth 100000 in
theorem refTick_no {w w0 : World} {g : Nat} {v : Value} {x : RO} (hok : x.Ok) (h : ROR w w0.heap.size g v x) (hg : w0.heap.size ≤ g) (HB : Below w0.heap.size w0 w) (hn : x.sent ≤ x.acked) :
    Calls Try.prog 33 #[.pointer (some ⟨g, 0, none⟩)] w fun e w' => ∃ r, e = .returned r ∧ ROPost w w0 g v x [] r w' := by
  have hok1 := hok.h0
  have hok2 := hok.h1
  have hok3 := hok.h2
  have hfa := hok.fa
  have has := hok.ast
  have hsl := hok.sl
  have hc0 := hok.c0
  have hc1 := hok.c1
  have hla : x.last = x.first + (x.all.length : Int) := rfl
  have hlab : x.last ≤ 1152921504606846976 + 1649267441664 := by omega
  have HLA := Lib.hid hla
  have OK := Lib.hid hok
  have hgw : g < w.heap.size := blk_lt h.1
  have hws : w0.heap.size ≤ w.heap.size := HB.size
  have HVL := Lib.hid (Kd.R_lt h.2)
  have X0 := Lib.hid h
  have B0 := Lib.hid HB
  have K0 := Lib.hid (Kept.refl w (fun k => k = g ∨ some k = v.ownBlock))
  have e1 : IntKind.i64.wrap (x.clock + 1) = x.clock + 1 := IntWalk.i64_in _ (by omega)
  have e2 : IntKind.i64.wrap (x.acked + 1) = x.acked + 1 := IntWalk.i64_in _ (by omega)
  have c7 := (show w.cell? ⟨g, 7, none⟩ = some (.int .i64 x.acked) from blkc h.1 7)
  have c8 := (show w.cell? ⟨g, 8, none⟩ = some (.int .i64 x.sent) from blkc h.1 8)
  clear h HB hok hla
  have t1 : decide (x.sent ≤ x.acked) = true := by simpa using hn
  clear hn
  go_enter Try.func33, Try.ntmps33
  go_wp2_with fail
  go_quiet (fail)
  go_wp2
  go_ret
  exact ⟨_, rfl, v, X0.out.drewN _, .inl rfl, Kd.R_nil _ _ _ _ _, K0.out.drewN _, pw_below_drewN B0.out _⟩
set_option maxHeartbeats 1600000 in
set_option maxRecDepth 100000 in
theorem refTick_wait {w w0 : World} {g : Nat} {v : Value} {x : RO} (hok : x.Ok) (h : ROR w w0.heap.size g v x) (hg : w0.heap.size ≤ g) (HB : Below w0.heap.size w0 w) (hn : ¬ x.sent ≤ x.acked) (hc : x.clock + 1 < x.p) :
    Calls Try.prog 33 #[.pointer (some ⟨g, 0, none⟩)] w fun e w' => ∃ r, e = .returned r ∧ ROPost w w0 g v (x.setClock (x.clock + 1)) [] r w' := by
  have hok1 := hok.h0
  have hok2 := hok.h1
  have hok3 := hok.h2
  have hfa := hok.fa
  have has := hok.ast
  have hsl := hok.sl
  have hc0 := hok.c0
  have hc1 := hok.c1
  have hla : x.last = x.first + (x.all.length : Int) := rfl
  have hlab : x.last ≤ 1152921504606846976 + 1649267441664 := by omega
  have HLA := Lib.hid hla
  have OK := Lib.hid hok
  have hgw : g < w.heap.size := blk_lt h.1
  have hws : w0.heap.size ≤ w.heap.size := HB.size
  have HVL := Lib.hid (Kd.R_lt h.2)
  have X0 := Lib.hid h
  have B0 := Lib.hid HB
  have K0 := Lib.hid (Kept.refl w (fun k => k = g ∨ some k = v.ownBlock))
  have e1 : IntKind.i64.wrap (x.clock + 1) = x.clock + 1 := IntWalk.i64_in _ (by omega)
  have e2 : IntKind.i64.wrap (x.acked + 1) = x.acked + 1 := IntWalk.i64_in _ (by omega)
  have c7 := (show w.cell? ⟨g, 7, none⟩ = some (.int .i64 x.acked) from blkc h.1 7)
  have c8 := (show w.cell? ⟨g, 8, none⟩ = some (.int .i64 x.sent) from blkc h.1 8)
  clear h HB hok hla
  have t1 : decide (x.sent ≤ x.acked) = false := by simpa using hn
  have t2 : decide (x.clock + 1 < x.p) = true := by simpa using hc
  clear hn hc
  go_enter Try.func33, Try.ntmps33
  go_wp2_with fail
  go_quiet (fail)
  have X1 := Lib.hid (X0.out.drewN nq)
  have B1 := Lib.hid (pw_below_drewN B0.out nq)
  have K1 := Lib.hid (K0.out.drewN nq)
  clear X0 B0 K0 c7 c8
  generalize (World.drewN _ _) = W1 at *
  have c9 := (show W1.cell? ⟨g, 9, none⟩ = some (.int .i64 x.clock) from blkc X1.out.1 9)
  have z9 := blkz X1.out.1 9
  have X2 := Lib.hid (show ROR (W1.setCell ⟨g, 9, none⟩ (.int .i64 (x.clock + 1))) w0.heap.size g v (x.setClock (x.clock + 1)) from ⟨RO.set9 X1.out.1 _, Kd.R_mono (Kd.R_set X1.out.2 X1.out.1 hUW 9 _) (fun _ _ => trivial)⟩)
  have B2 := Lib.hid (below_set (g := g) (j := 9) (v := .int .i64 (x.clock + 1)) B1.out hg)
  have K2 := Lib.hid (K1.out.setCell (p := ⟨g, 9, none⟩) (.inl (.inl rfl)) (.int .i64 (x.clock + 1)))
  go_upto_region 4 with (fail)
  clear c9 z9 X1 B1 K1
  generalize (World.setCell _ _ _) = W2 at *
  have c9 := (show W2.cell? ⟨g, 9, none⟩ = some (.int .i64 (x.clock + 1)) from blkc X2.out.1 9)
  have c2 := (show W2.cell? ⟨g, 2, none⟩ = some (.int .i64 x.p) from blkc X2.out.1 2)
  go_wp2_with fail
  go_quiet (fail)
  go_wp2
  go_ret
  exact ⟨_, rfl, v, X2.out.drewN _, .inl rfl, Kd.R_nil _ _ _ _ _, K2.out.drewN _, pw_below_drewN B2.out _⟩
set_option maxHeartbeats 1600000 in
set_option maxRecDepth 100000 in
theorem refTick_again {w w0 : World} {g : Nat} {v : Value} {x : RO} (hok : x.Ok) (h : ROR w w0.heap.size g v x) (hg : w0.heap.size ≤ g) (HB : Below w0.heap.size w0 w) (hn : ¬ x.sent ≤ x.acked) (hc : ¬ x.clock + 1 < x.p) :
    Calls Try.prog 33 #[.pointer (some ⟨g, 0, none⟩)] w fun e w' => ∃ r, e = .returned r ∧ ROPost w w0 g v (x.setClock 0) x.under r w' := by
  have hok1 := hok.h0
  have hok2 := hok.h1
  have hok3 := hok.h2
  have hfa := hok.fa
  have has := hok.ast
  have hsl := hok.sl
  have hc0 := hok.c0
  have hc1 := hok.c1
  have hla : x.last = x.first + (x.all.length : Int) := rfl
  have hlab : x.last ≤ 1152921504606846976 + 1649267441664 := by omega
  have HLA := Lib.hid hla
  have OK := Lib.hid hok
  have hgw : g < w.heap.size := blk_lt h.1
  have hws : w0.heap.size ≤ w.heap.size := HB.size
  have HVL := Lib.hid (Kd.R_lt h.2)
  have X0 := Lib.hid h
  have B0 := Lib.hid HB
  have K0 := Lib.hid (Kept.refl w (fun k => k = g ∨ some k = v.ownBlock))
  have e1 : IntKind.i64.wrap (x.clock + 1) = x.clock + 1 := IntWalk.i64_in _ (by omega)
  have e2 : IntKind.i64.wrap (x.acked + 1) = x.acked + 1 := IntWalk.i64_in _ (by omega)
  have c7 := (show w.cell? ⟨g, 7, none⟩ = some (.int .i64 x.acked) from blkc h.1 7)
  have c8 := (show w.cell? ⟨g, 8, none⟩ = some (.int .i64 x.sent) from blkc h.1 8)
  clear h HB hok hla
  have t1 : decide (x.sent ≤ x.acked) = false := by simpa using hn
  have t2 : decide (x.clock + 1 < x.p) = false := by simpa using hc
  have HNA := Lib.hid hn
  clear hn hc
  go_enter Try.func33, Try.ntmps33
  go_wp2_with fail
  go_quiet (fail)
  have X1 := Lib.hid (X0.out.drewN nq)
  have B1 := Lib.hid (pw_below_drewN B0.out nq)
  have K1 := Lib.hid (K0.out.drewN nq)
  clear X0 B0 K0 c7 c8
  generalize (World.drewN _ _) = W1 at *
  have c9 := (show W1.cell? ⟨g, 9, none⟩ = some (.int .i64 x.clock) from blkc X1.out.1 9)
  have z9 := blkz X1.out.1 9
  have X2 := Lib.hid (show ROR (W1.setCell ⟨g, 9, none⟩ (.int .i64 (x.clock + 1))) w0.heap.size g v (x.setClock (x.clock + 1)) from ⟨RO.set9 X1.out.1 _, Kd.R_mono (Kd.R_set X1.out.2 X1.out.1 hUW 9 _) (fun _ _ => trivial)⟩)
  have B2 := Lib.hid (below_set (g := g) (j := 9) (v := .int .i64 (x.clock + 1)) B1.out hg)
  have K2 := Lib.hid (K1.out.setCell (p := ⟨g, 9, none⟩) (.inl (.inl rfl)) (.int .i64 (x.clock + 1)))
  go_upto_region 4 with (fail)
  clear c9 z9 X1 B1 K1
  generalize (World.setCell _ _ _) = W2 at *
  have c9 := (show W2.cell? ⟨g, 9, none⟩ = some (.int .i64 (x.clock + 1)) from blkc X2.out.1 9)
  have c2 := (show W2.cell? ⟨g, 2, none⟩ = some (.int .i64 x.p) from blkc X2.out.1 2)
  go_wp2_with fail
  go_quiet (fail)
  have X3 := Lib.hid (X2.out.drewN nq)
  have B3 := Lib.hid (pw_below_drewN B2.out nq)
  have K3 := Lib.hid (K2.out.drewN nq)
  clear X2 B2 K2 c9 c2
  generalize (World.drewN _ _) = W3 at *
  have c9 := (show W3.cell? ⟨g, 9, none⟩ = some (.int .i64 (x.clock + 1)) from blkc X3.out.1 9)
  have z9 := blkz X3.out.1 9
  have c7 := (show W3.cell? ⟨g, 7, none⟩ = some (.int .i64 x.acked) from blkc X3.out.1 7)
  have X4 := Lib.hid (show ROR (W3.setCell ⟨g, 9, none⟩ (.int .i64 0)) w0.heap.size g v (x.setClock 0) from ⟨RO.set9 X3.out.1 _, Kd.R_mono (Kd.R_set X3.out.2 X3.out.1 hUW 9 _) (fun _ _ => trivial)⟩)
  have B4 := Lib.hid (below_set (g := g) (j := 9) (v := .int .i64 0) B3.out hg)
  have K4 := Lib.hid (K3.out.setCell (p := ⟨g, 9, none⟩) (.inl (.inl rfl)) (.int .i64 0))
  go_wp2_with fail
  clear c9 z9 c7 X3 B3 K3
  generalize (World.setCell _ _ _) = W4 at *
  generalize hN : (x.sent - x.acked).toNat = N at *
  have hNN : (N : Int) = x.sent - x.acked := by omega
  have hlu : x.under.length = N := by unfold RO.under; rw [List.length_take, List.length_drop, hN]; have := HLA.out; omega
  have HLU := Lib.hid hlu
  have HNN := Lib.hid hN
  have HN3 := Lib.hid hNN
  have hNb : N ≤ 1649267441664 := by have := HLA.out; omega
  clear hN hNN hlu
  go_loopg [4, 3] N (fun kq v4 v3 w' => ∃ (j : Nat), v4 = .int .i64 (x.acked + 1 + (j : Int)) ∧ Hid (j + kq = N) ∧ Hid (ROR w' w0.heap.size g v (x.setClock 0)) ∧ Hid (kU.R tU w' w.heap.size (fun _ => True) v3 (x.under.take j)) ∧ Hid (Below w0.heap.size w0 w') ∧ Hid (Kept w w' (fun k => k = g ∨ some k = v.ownBlock)))
  case atStart => exact ⟨0, by simp, (show _ + _ = _ by omega), X4.out, Kd.R_nil _ _ _ _ _, B4.out, K4.out⟩
  case round =>
    clear X4 B4 K4
    obtain ⟨j, rfl, HJ, X2, R2, B2, K2⟩ := hrel
    have c8 := (show wr.cell? ⟨g, 8, none⟩ = some (.int .i64 x.sent) from blkc X2.out.1 8)
    cases gk with
    | zero =>
      have hj : j = N := HJ.out
      have t3 : decide (x.acked + 1 + (j : Int) ≤ x.sent) = false := by have := HN3.out; simp; omega
      have HTK : Hid (x.under.take j = x.under) := Lib.hid (List.take_of_length_le (by rw [HLU.out]; omega))
      clear hj
      go_wp2_with fail
      go_ret
      refine ⟨_, rfl, v, X2.out, .inl rfl, ?_, K2.out, B2.out⟩
      rw [HTK.out] at R2
      exact R_ok R2.out (fun k hk e => by
        have h1 := Kd.R_base R2.out k hk
        have h2 := HVL.out k e.symm
        omega)
    | succ k1 =>
      have hj : j < N := by have := HJ.out; omega
      have t3 : decide (x.acked + 1 + (j : Int) ≤ x.sent) = true := by have := HN3.out; simp; omega
      have e3 : IntKind.i64.wrap (x.acked + 1 + (j : Int) + 1) = x.acked + 1 + ((j : Int) + 1) := by rw [IntWalk.i64_in _ (by have := HN3.out; omega)]; omega
      have hil : (x.acked - x.first).toNat + j < x.all.length := by have := HN3.out; have := HLA.out; omega
      have hu := List.getElem?_eq_getElem hil
      generalize x.all[(x.acked - x.first).toNat + j] = u at *
      have huj : x.under[j]? = some u := by unfold RO.under; rw [List.getElem?_take, HNN.out, if_pos hj, List.getElem?_drop, hu]
      have HTK : Hid (x.under.take (j + 1) = x.under.take j ++ [u]) := Lib.hid (by rw [List.take_add_one, huj]; rfl)
      have hlj : (x.under.take j).length ≤ 1649267441664 := by rw [List.length_take]; have := HLU.out; omega
      have HU := Lib.hid hu
      have hnn2 : x.acked + 1 + (j : Int) = x.first + 1 + (((x.acked - x.first).toNat + j : Nat) : Int) := by omega
      have HNN2 := Lib.hid hnn2
      clear hu huj hnn2
      go_wp2_with fail
      refine (refAt_any X2.out HU.out _ HNN2.out hok1 (by show x.first ≤ _; omega) hok3).mono ?_
      rintro e w3 ⟨rfl, hb3⟩
      have X3 := Lib.hid (X2.out.below hb3)
      have R3 := Lib.hid (Kd.R_below R2.out hb3)
      have K3 := Lib.hid (K2.out.below hb3)
      have B3 := Lib.hid (below_then B2.out B2.out.size hb3)
      clear hb3 X2 R2 K2 B2 c8
      go_wp2_with ((at_builtin; refine Kd.R_append kU (w0 := _) w.heap.size rfl (.tmp 47) (.tmp 51) 24 tU (.agg #[.int .i64 0, .int .i64 0, .int .i64 0, .int .i64 0, .string ⟨#[]⟩, .string ⟨#[]⟩, .int .i64 0]) 72 rfl Try.underlying24 info_U rfl (by decide) (by decide) u3 (x.under.take j) u [.int .i64 u.seq, .int .i64 u.client, .int .i64 u.number, .int .i64 u.kind, .string u.key, .string u.value, .int .i64 u.version] (fun _ => True) (fun _ => False) rfl rfl rfl (fun _ h => h.elim) (fun _ _ => trivial) R3.out (Below.refl _ _) K3.out.1 (by omega) ?_); intro v7 w7 hr7 hb7 hg7 hat7)
      have hbase : ∀ k, u3.ownBlock = some k → w.heap.size ≤ k := Kd.R_base R3.out
      have X7 := Lib.hid (show ROR w7 w0.heap.size g v (x.setClock 0) from ⟨blk_grown X3.out.1 hg7 (fun e => by have := hbase g e.symm; omega), R_mine X3.out.2 (fun k hk => hg7.block k (Kd.R_lt X3.out.2 k hk) (fun e => by have h1 := hbase k e.symm; have h2 := HVL.out k hk; omega))⟩)
      have B7 := Lib.hid (pw_below_grown B3.out _ B3.out.size hg7 (fun k e => by have := hbase k e; omega))
      have K7 := Lib.hid (Kept.of_grown hg7 K3.out (fun k e => .inr (hbase k e)))
      have R7 := Lib.hid hr7
      go_wp2_with fail
      go_roundg k1
      case measure => exact Nat.lt_succ_self _
      case rel =>
        refine ⟨j + 1, by rfl, Lib.hid (by have := HJ.out; omega), X7.out, ?_, B7.out, K7.out⟩
        rw [HTK.out]
        exact R7.out
set_option maxHeartbeats 1600000 in
set_option maxRecDepth 100000 in
theorem refTick_any {w w0 : World} {g : Nat} {v : Value} {x : RO} (hok : x.Ok) (h : ROR w w0.heap.size g v x) (hg : w0.heap.size ≤ g) (HB : Below w0.heap.size w0 w)  :
    Calls Try.prog 33 #[.pointer (some ⟨g, 0, none⟩)] w fun e w' => ∃ r, e = .returned r ∧ ROPost w w0 g v x.tick.1 x.tick.2 r w' := by
  unfold RO.tick
  by_cases h1 : x.sent ≤ x.acked
  · rw [if_pos h1]
    exact (by have H := refTick_no hok h hg HB h1; exact H)
  · rw [if_neg h1]
    by_cases h2 : x.clock + 1 < x.p
    · rw [if_pos h2]
      exact (by have H := refTick_wait hok h hg HB h1 h2; exact H)
    · rw [if_neg h2]
      exact (by have H := refTick_again hok h hg HB h1 h2; exact H)
end Go.Proofs.Ytofmgijdeeikeaa.Hop
