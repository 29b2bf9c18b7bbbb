/- The document's Ack, walked. -/
import Derived.Test.YtofmgijdeeikeaaHopRefTick
set_option linter.unusedVariables false
set_option linter.unusedSimpArgs false
namespace Go.Proofs.Ytofmgijdeeikeaa.Hop
open Go.RowKit Go.Proofs.Ytofmgijdeeikeaa.Mem Go.Proofs.YtofmgijdeeikeaaW.PrintWords Go.Proofs.YtofmgijdeeikeaaW.PrintLast Go.Deep
theorem refLastY {w : World} {b g : Nat} {v : Value} {x y : RO} (h : ROR w b g v y) (e : y.last = x.last) (h0 : 0 ≤ y.first) (h1 : y.first ≤ 2305843009213693952) (h2 : y.all.length ≤ 1649267441664) :
    Calls Try.prog 24 #[.pointer (some ⟨g, 0, none⟩)] w fun e w' => e = .returned (.int .i64 x.last) ∧ ∃ n, w' = w.drewN n := by
  have H := refLast_any h h0 h1 h2
  rw [e] at H
  exact H
/-- All up to a is there. -/
def RO.acks (x : RO) (a : Int) : RO := { x with acked := a, sent := max x.sent a, clock := 0 }
theorem RO.Ok.acks {x : RO} (h : x.Ok) {a : Int} (h1 : x.acked ≤ a) (h2 : a ≤ x.last) : (x.acks a).Ok where
  h0 := h.h0
  h1 := h.h1
  h2 := h.h2
  fa := by have := h.fa; simp only [RO.acks]; omega
  ast := by simp only [RO.acks]; omega
  sl := by have := h.sl; show max x.sent a ≤ x.last; omega
  w1 := h.w1
  w2 := h.w2
  c0 := by simp only [RO.acks]; omega
  c1 := by simp only [RO.acks]; omega
/-- What the document's end does when it is told what is there. -/
def RO.ack (x : RO) (q : Int) : RO × List U := if q ≤ x.acked then (x, []) else ((x.acks (min q x.last)).on, (x.acks (min q x.last)).onL)
set_option maxHeartbeats 3200000 in
set_option maxRecDepth 100000 in
theorem refAck_no {w w0 : World} {g : Nat} {v : Value} {x : RO} (q : Int) (hok : x.Ok) (h : ROR w w0.heap.size g v x) (hg : w0.heap.size ≤ g) (HB : Below w0.heap.size w0 w) (hn : q ≤ x.acked) :
    Calls Try.prog 31 #[.pointer (some ⟨g, 0, none⟩), .int .i64 q] w fun e w' => ∃ r, e = .returned r ∧ ROPost w w0 g v x [] r w' := by
  have hok1 := hok.h0
  have hok2 := hok.h1
  have hok3 := hok.h2
  have hfa := hok.fa
  have has := hok.ast
  have hsl := hok.sl
  have hc0 := hok.c0
  have hc1 := hok.c1
  have hla : x.last = x.first + (x.all.length : Int) := rfl
  have hlab : x.last ≤ 1152921504606846976 + 1649267441664 := by omega
  have HLA := Lib.hid hla
  have OK := Lib.hid hok
  have hgw : g < w.heap.size := blk_lt h.1
  have hws : w0.heap.size ≤ w.heap.size := HB.size
  have HVL := Lib.hid (Kd.R_lt h.2)
  have X0 := Lib.hid h
  have B0 := Lib.hid HB
  have K0 := Lib.hid (Kept.refl w (fun k => k = g ∨ some k = v.ownBlock))
  have e1 : IntKind.i64.wrap (x.clock + 1) = x.clock + 1 := IntWalk.i64_in _ (by omega)
  have e2 : IntKind.i64.wrap (x.acked + 1) = x.acked + 1 := IntWalk.i64_in _ (by omega)
  have c7 := (show w.cell? ⟨g, 7, none⟩ = some (.int .i64 x.acked) from blkc h.1 7)
  have c8 := (show w.cell? ⟨g, 8, none⟩ = some (.int .i64 x.sent) from blkc h.1 8)
  clear h HB hok hla
  have t1 : decide (q ≤ x.acked) = true := by simpa using hn
  clear hn
  go_enter Try.func31, Try.ntmps31
  go_wp2
  go_ret
  exact ⟨_, rfl, v, X0.out, .inl rfl, Kd.R_nil _ _ _ _ _, K0.out, B0.out⟩
set_option maxHeartbeats 3200000 in
set_option maxRecDepth 100000 in
theorem refAck_gl {w w0 : World} {g : Nat} {v : Value} {x : RO} (q : Int) (hok : x.Ok) (h : ROR w w0.heap.size g v x) (hg : w0.heap.size ≤ g) (HB : Below w0.heap.size w0 w) (hn : x.acked < q) (hl : x.last < q) (hs : x.sent < x.last) :
    Calls Try.prog 31 #[.pointer (some ⟨g, 0, none⟩), .int .i64 q] w fun e w' => ∃ r, e = .returned r ∧ ROPost w w0 g v (x.acks x.last).on (x.acks x.last).onL r w' := by
  have hok1 := hok.h0
  have hok2 := hok.h1
  have hok3 := hok.h2
  have hfa := hok.fa
  have has := hok.ast
  have hsl := hok.sl
  have hc0 := hok.c0
  have hc1 := hok.c1
  have hla : x.last = x.first + (x.all.length : Int) := rfl
  have hlab : x.last ≤ 1152921504606846976 + 1649267441664 := by omega
  have HLA := Lib.hid hla
  have OK := Lib.hid hok
  have hgw : g < w.heap.size := blk_lt h.1
  have hws : w0.heap.size ≤ w.heap.size := HB.size
  have HVL := Lib.hid (Kd.R_lt h.2)
  have X0 := Lib.hid h
  have B0 := Lib.hid HB
  have K0 := Lib.hid (Kept.refl w (fun k => k = g ∨ some k = v.ownBlock))
  have e1 : IntKind.i64.wrap (x.clock + 1) = x.clock + 1 := IntWalk.i64_in _ (by omega)
  have e2 : IntKind.i64.wrap (x.acked + 1) = x.acked + 1 := IntWalk.i64_in _ (by omega)
  have c7 := (show w.cell? ⟨g, 7, none⟩ = some (.int .i64 x.acked) from blkc h.1 7)
  have c8 := (show w.cell? ⟨g, 8, none⟩ = some (.int .i64 x.sent) from blkc h.1 8)
  clear h HB hok hla
  have OKA := Lib.hid (OK.out.acks (a := x.last) (by omega) (by omega))
  have t1 : decide (q ≤ x.acked) = false := by simp; omega
  have t2 : decide (x.last < q) = true := by simp; omega
  have t3 : decide (x.sent < x.last) = true := by simp; omega
  have hmx : max x.sent x.last = x.last := by omega
  have HMX := Lib.hid hmx
  have HSX := Lib.hid hs
  clear hn hl hs hmx c8
  go_enter Try.func31, Try.ntmps31
  have d7 := blkc X0.out.1 7
  have z7 := blkz X0.out.1 7
  have X1 := Lib.hid (show ROR (w.setCell ⟨g, 7, none⟩ (.int .i64 q)) w0.heap.size g v (x.setAcked q) from ⟨RO.set7 X0.out.1 _, Kd.R_mono (Kd.R_set X0.out.2 X0.out.1 hUW 7 _) (fun _ _ => trivial)⟩)
  have B1 := Lib.hid (below_set (g := g) (j := 7) (v := .int .i64 q) B0.out hg)
  have K1 := Lib.hid (K0.out.setCell (p := ⟨g, 7, none⟩) (.inl (.inl rfl)) (.int .i64 q))
  go_upto_region 4 with (fail)
  clear d7 z7 X0 B0 K0
  generalize (World.setCell _ _ _) = W1 at *
  go_wp2_with fail
  refine (refLastY (x := x) X1.out rfl hok1 (by show x.first ≤ _; omega) hok3).mono ?_
  rintro e w' ⟨rfl, n1, rfl⟩
  have X2 := Lib.hid (X1.out.drewN n1)
  have B2 := Lib.hid (pw_below_drewN B1.out n1)
  have K2 := Lib.hid (K1.out.drewN n1)
  clear X1 B1 K1
  generalize (World.drewN _ n1) = W2 at *
  go_wp2_with fail
  refine (refLastY (x := x) X2.out rfl hok1 (by show x.first ≤ _; omega) hok3).mono ?_
  rintro e w' ⟨rfl, n2, rfl⟩
  have X3 := Lib.hid (X2.out.drewN n2)
  have B3 := Lib.hid (pw_below_drewN B2.out n2)
  have K3 := Lib.hid (K2.out.drewN n2)
  clear X2 B2 K2
  generalize (World.drewN _ n2) = W3 at *
  have d7 := blkc X3.out.1 7
  have z7 := blkz X3.out.1 7
  have X4 := Lib.hid (show ROR (W3.setCell ⟨g, 7, none⟩ (.int .i64 x.last)) w0.heap.size g v (x.setAcked x.last) from ⟨RO.set7 X3.out.1 _, Kd.R_mono (Kd.R_set X3.out.2 X3.out.1 hUW 7 _) (fun _ _ => trivial)⟩)
  have B4 := Lib.hid (below_set (g := g) (j := 7) (v := .int .i64 x.last) B3.out hg)
  have K4 := Lib.hid (K3.out.setCell (p := ⟨g, 7, none⟩) (.inl (.inl rfl)) (.int .i64 x.last))
  go_upto_region 6 with (fail)
  clear d7 z7 X3 B3 K3
  generalize (World.setCell _ _ _) = W4 at *
  have c7 := (show W4.cell? ⟨g, 7, none⟩ = some (.int .i64 x.last) from blkc X4.out.1 7)
  have c8 := (show W4.cell? ⟨g, 8, none⟩ = some (.int .i64 x.sent) from blkc X4.out.1 8)
  go_wp2_with fail
  go_quiet (fail)
  clear c7 c8
  have X5 := Lib.hid (X4.out.drewN nq)
  have B5 := Lib.hid (pw_below_drewN B4.out nq)
  have K5 := Lib.hid (K4.out.drewN nq)
  clear X4 B4 K4
  generalize (World.drewN _ nq) = W5 at *
  have c7 := (show W5.cell? ⟨g, 7, none⟩ = some (.int .i64 x.last) from blkc X5.out.1 7)
  have d8 := blkc X5.out.1 8
  have z8 := blkz X5.out.1 8
  have X6 := Lib.hid (show ROR (W5.setCell ⟨g, 8, none⟩ (.int .i64 x.last)) w0.heap.size g v ((x.setAcked x.last).setSent x.last) from ⟨RO.set8 X5.out.1 _, Kd.R_mono (Kd.R_set X5.out.2 X5.out.1 hUW 8 _) (fun _ _ => trivial)⟩)
  have B6 := Lib.hid (below_set (g := g) (j := 8) (v := .int .i64 x.last) B5.out hg)
  have K6 := Lib.hid (K5.out.setCell (p := ⟨g, 8, none⟩) (.inl (.inl rfl)) (.int .i64 x.last))
  go_upto_region 8 with (fail)
  clear d8 z8 X5 B5 K5
  generalize (World.setCell _ _ _) = W6 at *
  clear c7
  have d9 := blkc X6.out.1 9
  have z9 := blkz X6.out.1 9
  have X7 := Lib.hid (show ROR (W6.setCell ⟨g, 9, none⟩ (.int .i64 0)) w0.heap.size g v (((x.setAcked x.last).setSent x.last).setClock 0) from ⟨RO.set9 X6.out.1 _, Kd.R_mono (Kd.R_set X6.out.2 X6.out.1 hUW 9 _) (fun _ _ => trivial)⟩)
  have B7 := Lib.hid (below_set (g := g) (j := 9) (v := .int .i64 0) B6.out hg)
  have K7 := Lib.hid (K6.out.setCell (p := ⟨g, 9, none⟩) (.inl (.inl rfl)) (.int .i64 0))
  go_upto_region 9 with (fail)
  clear d9 z9 X6 B6 K6
  generalize (World.setCell _ _ _) = W7 at *
  have X8 := Lib.hid (show ROR W7 w0.heap.size g v (x.acks x.last) from by have H := X7.out; have e : ((x.setAcked x.last).setSent x.last).setClock 0 = x.acks x.last := (by simp only [RO.acks, HMX.out, RO.setAcked, RO.setSent, RO.setClock]); rw [e] at H; exact H)
  go_wp2_with fail
  refine (refOn_any X8.out hg B7.out OKA.out.h0 OKA.out.h1 OKA.out.h2 (by have h1 := OKA.out.fa; have h2 := OKA.out.ast; omega) OKA.out.sl (by have h1 := OKA.out.fa; have h2 := OKA.out.h0; omega) (by have h1 := OKA.out.sl; have h2 := OKA.out.ast; omega) OKA.out.w1 OKA.out.w2).mono ?_
  rintro e w9 ⟨r9, rfl, hx9, hr9, hk9, hb9⟩
  have X9 := Lib.hid hx9
  have hws7 : w.heap.size ≤ W7.heap.size := K7.out.1
  have R9 := Lib.hid (Kd.R_lower hr9 hws7)
  have K9 := Lib.hid (K7.out.then_ hk9 (fun _ h => .inl (.inl h)))
  have B9 := Lib.hid hb9
  clear hx9 hr9 hk9 hb9
  go_wp2
  go_ret
  exact ⟨_, rfl, v, X9.out, .inl rfl, R9.out, K9.out, B9.out⟩
set_option maxHeartbeats 3200000 in
set_option maxRecDepth 100000 in
theorem refAck_gg {w w0 : World} {g : Nat} {v : Value} {x : RO} (q : Int) (hok : x.Ok) (h : ROR w w0.heap.size g v x) (hg : w0.heap.size ≤ g) (HB : Below w0.heap.size w0 w) (hn : x.acked < q) (hl : x.last < q) (hs : x.last ≤ x.sent) :
    Calls Try.prog 31 #[.pointer (some ⟨g, 0, none⟩), .int .i64 q] w fun e w' => ∃ r, e = .returned r ∧ ROPost w w0 g v (x.acks x.last).on (x.acks x.last).onL r w' := by
  have hok1 := hok.h0
  have hok2 := hok.h1
  have hok3 := hok.h2
  have hfa := hok.fa
  have has := hok.ast
  have hsl := hok.sl
  have hc0 := hok.c0
  have hc1 := hok.c1
  have hla : x.last = x.first + (x.all.length : Int) := rfl
  have hlab : x.last ≤ 1152921504606846976 + 1649267441664 := by omega
  have HLA := Lib.hid hla
  have OK := Lib.hid hok
  have hgw : g < w.heap.size := blk_lt h.1
  have hws : w0.heap.size ≤ w.heap.size := HB.size
  have HVL := Lib.hid (Kd.R_lt h.2)
  have X0 := Lib.hid h
  have B0 := Lib.hid HB
  have K0 := Lib.hid (Kept.refl w (fun k => k = g ∨ some k = v.ownBlock))
  have e1 : IntKind.i64.wrap (x.clock + 1) = x.clock + 1 := IntWalk.i64_in _ (by omega)
  have e2 : IntKind.i64.wrap (x.acked + 1) = x.acked + 1 := IntWalk.i64_in _ (by omega)
  have c7 := (show w.cell? ⟨g, 7, none⟩ = some (.int .i64 x.acked) from blkc h.1 7)
  have c8 := (show w.cell? ⟨g, 8, none⟩ = some (.int .i64 x.sent) from blkc h.1 8)
  clear h HB hok hla
  have OKA := Lib.hid (OK.out.acks (a := x.last) (by omega) (by omega))
  have t1 : decide (q ≤ x.acked) = false := by simp; omega
  have t2 : decide (x.last < q) = true := by simp; omega
  have t3 : decide (x.sent < x.last) = false := by simp; omega
  have hmx : max x.sent x.last = x.sent := by omega
  have HMX := Lib.hid hmx
  have HSX := Lib.hid hs
  clear hn hl hs hmx c8
  go_enter Try.func31, Try.ntmps31
  have d7 := blkc X0.out.1 7
  have z7 := blkz X0.out.1 7
  have X1 := Lib.hid (show ROR (w.setCell ⟨g, 7, none⟩ (.int .i64 q)) w0.heap.size g v (x.setAcked q) from ⟨RO.set7 X0.out.1 _, Kd.R_mono (Kd.R_set X0.out.2 X0.out.1 hUW 7 _) (fun _ _ => trivial)⟩)
  have B1 := Lib.hid (below_set (g := g) (j := 7) (v := .int .i64 q) B0.out hg)
  have K1 := Lib.hid (K0.out.setCell (p := ⟨g, 7, none⟩) (.inl (.inl rfl)) (.int .i64 q))
  go_upto_region 4 with (fail)
  clear d7 z7 X0 B0 K0
  generalize (World.setCell _ _ _) = W1 at *
  go_wp2_with fail
  refine (refLastY (x := x) X1.out rfl hok1 (by show x.first ≤ _; omega) hok3).mono ?_
  rintro e w' ⟨rfl, n1, rfl⟩
  have X2 := Lib.hid (X1.out.drewN n1)
  have B2 := Lib.hid (pw_below_drewN B1.out n1)
  have K2 := Lib.hid (K1.out.drewN n1)
  clear X1 B1 K1
  generalize (World.drewN _ n1) = W2 at *
  go_wp2_with fail
  refine (refLastY (x := x) X2.out rfl hok1 (by show x.first ≤ _; omega) hok3).mono ?_
  rintro e w' ⟨rfl, n2, rfl⟩
  have X3 := Lib.hid (X2.out.drewN n2)
  have B3 := Lib.hid (pw_below_drewN B2.out n2)
  have K3 := Lib.hid (K2.out.drewN n2)
  clear X2 B2 K2
  generalize (World.drewN _ n2) = W3 at *
  have d7 := blkc X3.out.1 7
  have z7 := blkz X3.out.1 7
  have X4 := Lib.hid (show ROR (W3.setCell ⟨g, 7, none⟩ (.int .i64 x.last)) w0.heap.size g v (x.setAcked x.last) from ⟨RO.set7 X3.out.1 _, Kd.R_mono (Kd.R_set X3.out.2 X3.out.1 hUW 7 _) (fun _ _ => trivial)⟩)
  have B4 := Lib.hid (below_set (g := g) (j := 7) (v := .int .i64 x.last) B3.out hg)
  have K4 := Lib.hid (K3.out.setCell (p := ⟨g, 7, none⟩) (.inl (.inl rfl)) (.int .i64 x.last))
  go_upto_region 6 with (fail)
  clear d7 z7 X3 B3 K3
  generalize (World.setCell _ _ _) = W4 at *
  have c7 := (show W4.cell? ⟨g, 7, none⟩ = some (.int .i64 x.last) from blkc X4.out.1 7)
  have c8 := (show W4.cell? ⟨g, 8, none⟩ = some (.int .i64 x.sent) from blkc X4.out.1 8)
  go_wp2_with fail
  go_quiet (fail)
  clear c7 c8
  have X5 := Lib.hid (X4.out.drewN nq)
  have B5 := Lib.hid (pw_below_drewN B4.out nq)
  have K5 := Lib.hid (K4.out.drewN nq)
  clear X4 B4 K4
  generalize (World.drewN _ nq) = W5 at *
  go_upto_region 8 with (fail)
  have d9 := blkc X5.out.1 9
  have z9 := blkz X5.out.1 9
  have X7 := Lib.hid (show ROR (W5.setCell ⟨g, 9, none⟩ (.int .i64 0)) w0.heap.size g v ((x.setAcked x.last).setClock 0) from ⟨RO.set9 X5.out.1 _, Kd.R_mono (Kd.R_set X5.out.2 X5.out.1 hUW 9 _) (fun _ _ => trivial)⟩)
  have B7 := Lib.hid (below_set (g := g) (j := 9) (v := .int .i64 0) B5.out hg)
  have K7 := Lib.hid (K5.out.setCell (p := ⟨g, 9, none⟩) (.inl (.inl rfl)) (.int .i64 0))
  go_upto_region 9 with (fail)
  clear d9 z9 X5 B5 K5
  generalize (World.setCell _ _ _) = W7 at *
  have X8 := Lib.hid (show ROR W7 w0.heap.size g v (x.acks x.last) from by have H := X7.out; have e : (x.setAcked x.last).setClock 0 = x.acks x.last := (by simp only [RO.acks, HMX.out, RO.setAcked, RO.setSent, RO.setClock]); rw [e] at H; exact H)
  go_wp2_with fail
  refine (refOn_any X8.out hg B7.out OKA.out.h0 OKA.out.h1 OKA.out.h2 (by have h1 := OKA.out.fa; have h2 := OKA.out.ast; omega) OKA.out.sl (by have h1 := OKA.out.fa; have h2 := OKA.out.h0; omega) (by have h1 := OKA.out.sl; have h2 := OKA.out.ast; omega) OKA.out.w1 OKA.out.w2).mono ?_
  rintro e w9 ⟨r9, rfl, hx9, hr9, hk9, hb9⟩
  have X9 := Lib.hid hx9
  have hws7 : w.heap.size ≤ W7.heap.size := K7.out.1
  have R9 := Lib.hid (Kd.R_lower hr9 hws7)
  have K9 := Lib.hid (K7.out.then_ hk9 (fun _ h => .inl (.inl h)))
  have B9 := Lib.hid hb9
  clear hx9 hr9 hk9 hb9
  go_wp2
  go_ret
  exact ⟨_, rfl, v, X9.out, .inl rfl, R9.out, K9.out, B9.out⟩
set_option maxHeartbeats 3200000 in
set_option maxRecDepth 100000 in
theorem refAck_ll {w w0 : World} {g : Nat} {v : Value} {x : RO} (q : Int) (hok : x.Ok) (h : ROR w w0.heap.size g v x) (hg : w0.heap.size ≤ g) (HB : Below w0.heap.size w0 w) (hn : x.acked < q) (hl : q ≤ x.last) (hs : x.sent < q) :
    Calls Try.prog 31 #[.pointer (some ⟨g, 0, none⟩), .int .i64 q] w fun e w' => ∃ r, e = .returned r ∧ ROPost w w0 g v (x.acks q).on (x.acks q).onL r w' := by
  have hok1 := hok.h0
  have hok2 := hok.h1
  have hok3 := hok.h2
  have hfa := hok.fa
  have has := hok.ast
  have hsl := hok.sl
  have hc0 := hok.c0
  have hc1 := hok.c1
  have hla : x.last = x.first + (x.all.length : Int) := rfl
  have hlab : x.last ≤ 1152921504606846976 + 1649267441664 := by omega
  have HLA := Lib.hid hla
  have OK := Lib.hid hok
  have hgw : g < w.heap.size := blk_lt h.1
  have hws : w0.heap.size ≤ w.heap.size := HB.size
  have HVL := Lib.hid (Kd.R_lt h.2)
  have X0 := Lib.hid h
  have B0 := Lib.hid HB
  have K0 := Lib.hid (Kept.refl w (fun k => k = g ∨ some k = v.ownBlock))
  have e1 : IntKind.i64.wrap (x.clock + 1) = x.clock + 1 := IntWalk.i64_in _ (by omega)
  have e2 : IntKind.i64.wrap (x.acked + 1) = x.acked + 1 := IntWalk.i64_in _ (by omega)
  have c7 := (show w.cell? ⟨g, 7, none⟩ = some (.int .i64 x.acked) from blkc h.1 7)
  have c8 := (show w.cell? ⟨g, 8, none⟩ = some (.int .i64 x.sent) from blkc h.1 8)
  clear h HB hok hla
  have OKA := Lib.hid (OK.out.acks (a := q) (by omega) (by omega))
  have t1 : decide (q ≤ x.acked) = false := by simp; omega
  have t2 : decide (x.last < q) = false := by simp; omega
  have t3 : decide (x.sent < q) = true := by simp; omega
  have hmx : max x.sent q = q := by omega
  have HMX := Lib.hid hmx
  have HSX := Lib.hid hs
  clear hn hl hs hmx c8
  go_enter Try.func31, Try.ntmps31
  have d7 := blkc X0.out.1 7
  have z7 := blkz X0.out.1 7
  have X1 := Lib.hid (show ROR (w.setCell ⟨g, 7, none⟩ (.int .i64 q)) w0.heap.size g v (x.setAcked q) from ⟨RO.set7 X0.out.1 _, Kd.R_mono (Kd.R_set X0.out.2 X0.out.1 hUW 7 _) (fun _ _ => trivial)⟩)
  have B1 := Lib.hid (below_set (g := g) (j := 7) (v := .int .i64 q) B0.out hg)
  have K1 := Lib.hid (K0.out.setCell (p := ⟨g, 7, none⟩) (.inl (.inl rfl)) (.int .i64 q))
  go_upto_region 4 with (fail)
  clear d7 z7 X0 B0 K0
  generalize (World.setCell _ _ _) = W1 at *
  go_wp2_with fail
  refine (refLastY (x := x) X1.out rfl hok1 (by show x.first ≤ _; omega) hok3).mono ?_
  rintro e w' ⟨rfl, n1, rfl⟩
  have X2 := Lib.hid (X1.out.drewN n1)
  have B2 := Lib.hid (pw_below_drewN B1.out n1)
  have K2 := Lib.hid (K1.out.drewN n1)
  clear X1 B1 K1
  generalize (World.drewN _ n1) = W2 at *
  go_upto_region 6 with (fail)
  have c7 := (show W2.cell? ⟨g, 7, none⟩ = some (.int .i64 q) from blkc X2.out.1 7)
  have c8 := (show W2.cell? ⟨g, 8, none⟩ = some (.int .i64 x.sent) from blkc X2.out.1 8)
  go_wp2_with fail
  go_quiet (fail)
  clear c7 c8
  have X5 := Lib.hid (X2.out.drewN nq)
  have B5 := Lib.hid (pw_below_drewN B2.out nq)
  have K5 := Lib.hid (K2.out.drewN nq)
  clear X2 B2 K2
  generalize (World.drewN _ nq) = W5 at *
  have c7 := (show W5.cell? ⟨g, 7, none⟩ = some (.int .i64 q) from blkc X5.out.1 7)
  have d8 := blkc X5.out.1 8
  have z8 := blkz X5.out.1 8
  have X6 := Lib.hid (show ROR (W5.setCell ⟨g, 8, none⟩ (.int .i64 q)) w0.heap.size g v ((x.setAcked q).setSent q) from ⟨RO.set8 X5.out.1 _, Kd.R_mono (Kd.R_set X5.out.2 X5.out.1 hUW 8 _) (fun _ _ => trivial)⟩)
  have B6 := Lib.hid (below_set (g := g) (j := 8) (v := .int .i64 q) B5.out hg)
  have K6 := Lib.hid (K5.out.setCell (p := ⟨g, 8, none⟩) (.inl (.inl rfl)) (.int .i64 q))
  go_upto_region 8 with (fail)
  clear d8 z8 X5 B5 K5
  generalize (World.setCell _ _ _) = W6 at *
  clear c7
  have d9 := blkc X6.out.1 9
  have z9 := blkz X6.out.1 9
  have X7 := Lib.hid (show ROR (W6.setCell ⟨g, 9, none⟩ (.int .i64 0)) w0.heap.size g v (((x.setAcked q).setSent q).setClock 0) from ⟨RO.set9 X6.out.1 _, Kd.R_mono (Kd.R_set X6.out.2 X6.out.1 hUW 9 _) (fun _ _ => trivial)⟩)
  have B7 := Lib.hid (below_set (g := g) (j := 9) (v := .int .i64 0) B6.out hg)
  have K7 := Lib.hid (K6.out.setCell (p := ⟨g, 9, none⟩) (.inl (.inl rfl)) (.int .i64 0))
  go_upto_region 9 with (fail)
  clear d9 z9 X6 B6 K6
  generalize (World.setCell _ _ _) = W7 at *
  have X8 := Lib.hid (show ROR W7 w0.heap.size g v (x.acks q) from by have H := X7.out; have e : ((x.setAcked q).setSent q).setClock 0 = x.acks q := (by simp only [RO.acks, HMX.out, RO.setAcked, RO.setSent, RO.setClock]); rw [e] at H; exact H)
  go_wp2_with fail
  refine (refOn_any X8.out hg B7.out OKA.out.h0 OKA.out.h1 OKA.out.h2 (by have h1 := OKA.out.fa; have h2 := OKA.out.ast; omega) OKA.out.sl (by have h1 := OKA.out.fa; have h2 := OKA.out.h0; omega) (by have h1 := OKA.out.sl; have h2 := OKA.out.ast; omega) OKA.out.w1 OKA.out.w2).mono ?_
  rintro e w9 ⟨r9, rfl, hx9, hr9, hk9, hb9⟩
  have X9 := Lib.hid hx9
  have hws7 : w.heap.size ≤ W7.heap.size := K7.out.1
  have R9 := Lib.hid (Kd.R_lower hr9 hws7)
  have K9 := Lib.hid (K7.out.then_ hk9 (fun _ h => .inl (.inl h)))
  have B9 := Lib.hid hb9
  clear hx9 hr9 hk9 hb9
  go_wp2
  go_ret
  exact ⟨_, rfl, v, X9.out, .inl rfl, R9.out, K9.out, B9.out⟩
set_option maxHeartbeats 3200000 in
set_option maxRecDepth 100000 in
theorem refAck_lg {w w0 : World} {g : Nat} {v : Value} {x : RO} (q : Int) (hok : x.Ok) (h : ROR w w0.heap.size g v x) (hg : w0.heap.size ≤ g) (HB : Below w0.heap.size w0 w) (hn : x.acked < q) (hl : q ≤ x.last) (hs : q ≤ x.sent) :
    Calls Try.prog 31 #[.pointer (some ⟨g, 0, none⟩), .int .i64 q] w fun e w' => ∃ r, e = .returned r ∧ ROPost w w0 g v (x.acks q).on (x.acks q).onL r w' := by
  have hok1 := hok.h0
  have hok2 := hok.h1
  have hok3 := hok.h2
  have hfa := hok.fa
  have has := hok.ast
  have hsl := hok.sl
  have hc0 := hok.c0
  have hc1 := hok.c1
  have hla : x.last = x.first + (x.all.length : Int) := rfl
  have hlab : x.last ≤ 1152921504606846976 + 1649267441664 := by omega
  have HLA := Lib.hid hla
  have OK := Lib.hid hok
  have hgw : g < w.heap.size := blk_lt h.1
  have hws : w0.heap.size ≤ w.heap.size := HB.size
  have HVL := Lib.hid (Kd.R_lt h.2)
  have X0 := Lib.hid h
  have B0 := Lib.hid HB
  have K0 := Lib.hid (Kept.refl w (fun k => k = g ∨ some k = v.ownBlock))
  have e1 : IntKind.i64.wrap (x.clock + 1) = x.clock + 1 := IntWalk.i64_in _ (by omega)
  have e2 : IntKind.i64.wrap (x.acked + 1) = x.acked + 1 := IntWalk.i64_in _ (by omega)
  have c7 := (show w.cell? ⟨g, 7, none⟩ = some (.int .i64 x.acked) from blkc h.1 7)
  have c8 := (show w.cell? ⟨g, 8, none⟩ = some (.int .i64 x.sent) from blkc h.1 8)
  clear h HB hok hla
  have OKA := Lib.hid (OK.out.acks (a := q) (by omega) (by omega))
  have t1 : decide (q ≤ x.acked) = false := by simp; omega
  have t2 : decide (x.last < q) = false := by simp; omega
  have t3 : decide (x.sent < q) = false := by simp; omega
  have hmx : max x.sent q = x.sent := by omega
  have HMX := Lib.hid hmx
  have HSX := Lib.hid hs
  clear hn hl hs hmx c8
  go_enter Try.func31, Try.ntmps31
  have d7 := blkc X0.out.1 7
  have z7 := blkz X0.out.1 7
  have X1 := Lib.hid (show ROR (w.setCell ⟨g, 7, none⟩ (.int .i64 q)) w0.heap.size g v (x.setAcked q) from ⟨RO.set7 X0.out.1 _, Kd.R_mono (Kd.R_set X0.out.2 X0.out.1 hUW 7 _) (fun _ _ => trivial)⟩)
  have B1 := Lib.hid (below_set (g := g) (j := 7) (v := .int .i64 q) B0.out hg)
  have K1 := Lib.hid (K0.out.setCell (p := ⟨g, 7, none⟩) (.inl (.inl rfl)) (.int .i64 q))
  go_upto_region 4 with (fail)
  clear d7 z7 X0 B0 K0
  generalize (World.setCell _ _ _) = W1 at *
  go_wp2_with fail
  refine (refLastY (x := x) X1.out rfl hok1 (by show x.first ≤ _; omega) hok3).mono ?_
  rintro e w' ⟨rfl, n1, rfl⟩
  have X2 := Lib.hid (X1.out.drewN n1)
  have B2 := Lib.hid (pw_below_drewN B1.out n1)
  have K2 := Lib.hid (K1.out.drewN n1)
  clear X1 B1 K1
  generalize (World.drewN _ n1) = W2 at *
  go_upto_region 6 with (fail)
  have c7 := (show W2.cell? ⟨g, 7, none⟩ = some (.int .i64 q) from blkc X2.out.1 7)
  have c8 := (show W2.cell? ⟨g, 8, none⟩ = some (.int .i64 x.sent) from blkc X2.out.1 8)
  go_wp2_with fail
  go_quiet (fail)
  clear c7 c8
  have X5 := Lib.hid (X2.out.drewN nq)
  have B5 := Lib.hid (pw_below_drewN B2.out nq)
  have K5 := Lib.hid (K2.out.drewN nq)
  clear X2 B2 K2
  generalize (World.drewN _ nq) = W5 at *
  go_upto_region 8 with (fail)
  have d9 := blkc X5.out.1 9
  have z9 := blkz X5.out.1 9
  have X7 := Lib.hid (show ROR (W5.setCell ⟨g, 9, none⟩ (.int .i64 0)) w0.heap.size g v ((x.setAcked q).setClock 0) from ⟨RO.set9 X5.out.1 _, Kd.R_mono (Kd.R_set X5.out.2 X5.out.1 hUW 9 _) (fun _ _ => trivial)⟩)
  have B7 := Lib.hid (below_set (g := g) (j := 9) (v := .int .i64 0) B5.out hg)
  have K7 := Lib.hid (K5.out.setCell (p := ⟨g, 9, none⟩) (.inl (.inl rfl)) (.int .i64 0))
  go_upto_region 9 with (fail)
  clear d9 z9 X5 B5 K5
  generalize (World.setCell _ _ _) = W7 at *
  have X8 := Lib.hid (show ROR W7 w0.heap.size g v (x.acks q) from by have H := X7.out; have e : (x.setAcked q).setClock 0 = x.acks q := (by simp only [RO.acks, HMX.out, RO.setAcked, RO.setSent, RO.setClock]); rw [e] at H; exact H)
  go_wp2_with fail
  refine (refOn_any X8.out hg B7.out OKA.out.h0 OKA.out.h1 OKA.out.h2 (by have h1 := OKA.out.fa; have h2 := OKA.out.ast; omega) OKA.out.sl (by have h1 := OKA.out.fa; have h2 := OKA.out.h0; omega) (by have h1 := OKA.out.sl; have h2 := OKA.out.ast; omega) OKA.out.w1 OKA.out.w2).mono ?_
  rintro e w9 ⟨r9, rfl, hx9, hr9, hk9, hb9⟩
  have X9 := Lib.hid hx9
  have hws7 : w.heap.size ≤ W7.heap.size := K7.out.1
  have R9 := Lib.hid (Kd.R_lower hr9 hws7)
  have K9 := Lib.hid (K7.out.then_ hk9 (fun _ h => .inl (.inl h)))
  have B9 := Lib.hid hb9
  clear hx9 hr9 hk9 hb9
  go_wp2
  go_ret
  exact ⟨_, rfl, v, X9.out, .inl rfl, R9.out, K9.out, B9.out⟩
set_option maxHeartbeats 3200000 in
set_option maxRecDepth 100000 in
theorem refAck_any {w w0 : World} {g : Nat} {v : Value} {x : RO} (q : Int) (hok : x.Ok) (h : ROR w w0.heap.size g v x) (hg : w0.heap.size ≤ g) (HB : Below w0.heap.size w0 w)  :
    Calls Try.prog 31 #[.pointer (some ⟨g, 0, none⟩), .int .i64 q] w fun e w' => ∃ r, e = .returned r ∧ ROPost w w0 g v (x.ack q).1 (x.ack q).2 r w' := by
  unfold RO.ack
  have hsl := hok.sl
  have hst := hok.ast
  by_cases h1 : q ≤ x.acked
  · rw [if_pos h1]
    exact (by have H := refAck_no q hok h hg HB h1; exact H)
  · rw [if_neg h1]
    by_cases h2 : x.last < q
    · have e : min q x.last = x.last := by omega
      rw [e]
      by_cases h3 : x.sent < x.last
      · exact (by have H := refAck_gl q hok h hg HB (by omega) h2 h3; exact H)
      · exact (by have H := refAck_gg q hok h hg HB (by omega) h2 (by omega); exact H)
    · have e : min q x.last = q := by omega
      rw [e]
      by_cases h3 : x.sent < q
      · exact (by have H := refAck_ll q hok h hg HB (by omega) (by omega) h3; exact H)
      · exact (by have H := refAck_lg q hok h hg HB (by omega) (by omega) (by omega); exact H)
end Go.Proofs.Ytofmgijdeeikeaa.Hop
